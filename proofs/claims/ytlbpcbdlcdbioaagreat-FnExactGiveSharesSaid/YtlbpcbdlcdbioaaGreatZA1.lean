/-
  Laws on walking, and the functions walked, each once: what this claim comes to.
-/
import Derived.Test.YtlbpcbdlcdbioaaGreatZA0
set_option linter.unusedVariables false
set_option linter.unusedSimpArgs false
namespace Go.Wk
open Go.Proofs
theorem Hd:type_of% @Tryz.sizeOf172 := @Tryz.sizeOf172
theorem Hl:type_of% @Tryz.sizeOf174 := @Tryz.sizeOf174
theorem CI:type_of% @Tryz.sizeOf176 := @Tryz.sizeOf176
theorem cx:type_of% @Tryz.sizeOf181 := @Tryz.sizeOf181
theorem ts2:type_of% @Tryz.sizeOf2 := @Tryz.sizeOf2
theorem yx:type_of% @Tryz.sizeOf226 := @Tryz.sizeOf226
theorem ID:type_of% @Tryz.sizeOf23 := @Tryz.sizeOf23
theorem IK:type_of% @Tryz.sizeOf24 := @Tryz.sizeOf24
theorem bJ:type_of% @Tryz.sizeOf25 := @Tryz.sizeOf25
theorem IO:type_of% @Tryz.sizeOf26 := @Tryz.sizeOf26
theorem Hi:type_of% @Tryz.sizeOf268 := @Tryz.sizeOf268
theorem CG:type_of% @Tryz.sizeOf270 := @Tryz.sizeOf270
theorem EI:type_of% @Tryz.sizeOf28 := @Tryz.sizeOf28
theorem ts3:type_of% @Tryz.sizeOf3 := @Tryz.sizeOf3
theorem cj:type_of% @Tryz.sizeOf30 := @Tryz.sizeOf30
theorem fP:type_of% @Tryz.sizeOf31 := @Tryz.sizeOf31
theorem Da:type_of% @Tryz.sizeOf318 := @Tryz.sizeOf318
theorem dE:type_of% @Tryz.sizeOf32 := @Tryz.sizeOf32
theorem dd:type_of% @Tryz.sizeOf34 := @Tryz.sizeOf34
theorem Dk:type_of% @Tryz.sizeOf350 := @Tryz.sizeOf350
theorem dQ:type_of% @Tryz.sizeOf36 := @Tryz.sizeOf36
theorem ts4:type_of% @Tryz.sizeOf4 := @Tryz.sizeOf4
theorem aR:type_of% @Tryz.sizeOf46 := @Tryz.sizeOf46
theorem ts5:type_of% @Tryz.sizeOf5 := @Tryz.sizeOf5
theorem aJ:type_of% @Tryz.sizeOf55 := @Tryz.sizeOf55
theorem kS:type_of% @Tryz.sizeOf59 := @Tryz.sizeOf59
theorem lk:type_of% @Tryz.sizeOf60 := @Tryz.sizeOf60
theorem fa:type_of% @Tryz.sizeOf62 := @Tryz.sizeOf62
theorem iD:type_of% @Tryz.sizeOf64 := @Tryz.sizeOf64
theorem eB:type_of% @Tryz.sizeOf78 := @Tryz.sizeOf78
theorem ts9:type_of% @Tryz.sizeOf9 := @Tryz.sizeOf9
theorem sf:type_of% @Tryz.underlying104 := @Tryz.underlying104
theorem rZ:type_of% @Tryz.underlying172 := @Tryz.underlying172
theorem se:type_of% @Tryz.underlying174 := @Tryz.underlying174
theorem yV:type_of% @Tryz.underlying176 := @Tryz.underlying176
theorem ce:type_of% @Tryz.underlying181 := @Tryz.underlying181
theorem tu2:type_of% @Tryz.underlying2 := @Tryz.underlying2
theorem mm:type_of% @Tryz.underlying226 := @Tryz.underlying226
theorem u9:type_of% @Tryz.underlying23 := @Tryz.underlying23
theorem yQ:type_of% @Tryz.underlying24 := @Tryz.underlying24
theorem bd:type_of% @Tryz.underlying25 := @Tryz.underlying25
theorem xH:type_of% @Tryz.underlying26 := @Tryz.underlying26
theorem rV:type_of% @Tryz.underlying268 := @Tryz.underlying268
theorem yf:type_of% @Tryz.underlying270 := @Tryz.underlying270
theorem ou:type_of% @Tryz.underlying278 := @Tryz.underlying278
theorem pc:type_of% @Tryz.underlying28 := @Tryz.underlying28
theorem Fa:type_of% @Tryz.underlying298 := @Tryz.underlying298
theorem tu3:type_of% @Tryz.underlying3 := @Tryz.underlying3
theorem br:type_of% @Tryz.underlying30 := @Tryz.underlying30
theorem db:type_of% @Tryz.underlying31 := @Tryz.underlying31
theorem jU:type_of% @Tryz.underlying318 := @Tryz.underlying318
theorem bX:type_of% @Tryz.underlying32 := @Tryz.underlying32
theorem Iw:type_of% @Tryz.underlying332 := @Tryz.underlying332
theorem aW:type_of% @Tryz.underlying34 := @Tryz.underlying34
theorem zd:type_of% @Tryz.underlying350 := @Tryz.underlying350
theorem gd:type_of% @Tryz.underlying36 := @Tryz.underlying36
theorem tu4:type_of% @Tryz.underlying4 := @Tryz.underlying4
theorem aM:type_of% @Tryz.underlying46 := @Tryz.underlying46
theorem tu5:type_of% @Tryz.underlying5 := @Tryz.underlying5
theorem aA:type_of% @Tryz.underlying55 := @Tryz.underlying55
theorem dm:type_of% @Tryz.underlying59 := @Tryz.underlying59
theorem ep:type_of% @Tryz.underlying60 := @Tryz.underlying60
theorem eV:type_of% @Tryz.underlying62 := @Tryz.underlying62
theorem gW:type_of% @Tryz.underlying64 := @Tryz.underlying64
theorem aV:type_of% @Tryz.underlying78 := @Tryz.underlying78
theorem co:type_of% @Tryz.underlying89 := @Tryz.underlying89
theorem tu9:type_of% @Tryz.underlying9 := @Tryz.underlying9
end Go.Wk
namespace Go.Wk
open Go.Proofs Rp Go.Proofs.Tryz
set_option maxRecDepth 10000
theorem jR {w:World}{xs:List Int}{xsA:Option Addr}{xsC:Nat}{l:Int}(xsS:Sees w [.slice xsA xs.length xsC] xs) (hl : -1≤l∧l≤1048576):Ret Tryz.prog 75 #[.slice xsA xs.length xsC,.int .i64 l] w fun v w'=>Ext No w w'∧(v = .int .i64 (if l-xs.length<0 then -1 else l-xs.length)):=by
 have xsL:=sL xsS;obtain ⟨xsF,xsO⟩:=xsS;refine aC (vs:=[.slice xsA xs.length xsC,.int .i64 l]) func75 Z ntmps75 Z (fun Q hQ hN=>?_);have H0:=Sep.start (w:=w) (F:=[seen false [.slice xsA xs.length xsC] xs xsF]) (all_cons xsO (by simp));refine ab (sA Z Z (aa (ab (sR 2 Z (sV Z (aB bd Z) (sV Z (bn Z Z iO) (sA Z Z (aa (ac (ab (sR 2 Z (aa (ay Z (fun c1=>?_) (fun c1=>?_))))))))))))))
 ·refine ab (rA hQ results75 Z ?_);exact ⟨H0.ext,by rw [if_pos c1]⟩
 ·refine ah (ab (sR 2 Z (rN hQ results75 Z ?_)));exact ⟨H0.ext,by rw [if_neg c1]⟩
theorem jV {w:World}{xs ys:List Int}{xsA ysA:Option Addr}{xsC ysC:Nat}(xsS:Sees w [.slice xsA xs.length xsC] xs) (ysS:Sees w [.slice ysA ys.length ysC] ys):Ret Tryz.prog 92 #[.slice xsA xs.length xsC,.slice ysA ys.length ysC] w fun v w'=>Ext No w w'∧(v = .bool (decide (xs=ys))):=by
 have xsL:=sL xsS;obtain ⟨xsF,xsO⟩:=xsS;have ysL:=sL ysS;obtain ⟨ysF,ysO⟩:=ysS;refine aC (vs:=[.slice xsA xs.length xsC,.slice ysA ys.length ysC]) func92 Z ntmps92 Z (fun Q hQ hN=>?_);have H0:=Sep.start (w:=w) (F:=[seen false [.slice xsA xs.length xsC] xs xsF,seen false [.slice ysA ys.length ysC] ys ysF]) (all_cons xsO (all_cons ysO (by simp)));refine ab (sA Z Z (aa (ac (ab (sM Z Z (sV Z (aB bd Z) (sM Z Z (sV Z (aB bd Z) (sV Z (bv Z Z) (aa (ay Z (fun c1=>?_) (fun c1=>?_))))))))))))
 ·refine ab (sA Z Z (aa (rT hQ results92 Z (⟨H0.ext,?_⟩))));rw [decide_eq_false (fun e=>by subst e; exact c1 rfl)]
 ·refine ah (ac (ab (sA Z Z (aa (ao (ba (γ:=Nat) (fun k=>[(0,.slice xsA xs.length xsC),(1,.slice ysA ys.length ysC),(5,.int .i64 k)]) (fun k w'=>Sep No w [] [seen false [.slice xsA xs.length xsC] xs xsF,seen false [.slice ysA ys.length ysC] ys ysF] w'∧k≤xs.length∧(∀ i,i<k→xs.getD i 0=ys.getD i 0)) (fun k=>xs.length-k) 0 ⟨Z,Z,Z,trivial⟩ ⟨H0,by omega,fun i hi=>by omega⟩ (fun k w1 H1=>?_)))))));obtain ⟨H1,hk,he⟩:=H1;refine ac (ab (sR 2 Z (sV Z (aB bd Z) (sV Z (aN Z Z) (aa (ay Z (fun c2=>?_) (fun c2=>?_)))))))
  ·refine ah (ac (ao (ac ?_)));obtain ⟨eb1,eo1,ee1,ec1⟩:=bV (H1.seen 0 Z) k (by omega);have eI1:=cg (H1.seen 0 Z) k (by omega);obtain ⟨eb2,eo2,ee2,ec2⟩:=bV (H1.seen 1 Z) k (by omega);have eI2:=cg (H1.seen 1 Z) k (by omega);refine bE (S:=Ext No _) (oQ [1,3,5,7,9,11,13,15,16]) (by kernel_rfl) (by kernel_rfl) (by kernel_rfl) Z (fun _=>Ext.refl.drawn _) (fun q1=>?_);have H2:=H1.drawn q1;refine dR 2 Z (dV Z Z (fun zw hx=>au bd ts2 Z Z ee1 k (by omega) (by omega)) (dV Z Z (fun zw hx=>ae tu2 Z Z (hx.cell ec1)) (dR 2 Z (dV Z Z (fun zw hx=>au bd ts2 Z Z ee2 k (by omega) (by omega)) (dV Z Z (fun zw hx=>ae tu2 Z Z (hx.cell ec2)) (aP Z (wn Z) Z Z (bv Z Z) (aQ (ay Z (fun c3=>?_) (fun c3=>?_)))))))))
   ·refine ab (sA Z Z (aa (rT hQ results92 Z (⟨H2.ext,?_⟩))));rw [decide_eq_false (fun e=>by subst e; exact c3 rfl)]
   ·refine ah (aj (sM Z Z (sV Z (az Z Z iO) (sA Z Z (aa (⟨k+1,⟨Z,Z,Z,trivial⟩,⟨H2,by omega,fun i hi=>?_⟩,by dsimp only; omega⟩))))));have c4:xs.getD k 0=ys.getD k 0:=by omega
    by_cases e:i=k
    ·subst e; exact c4
    ·exact he i (by omega)
  ·refine aG (ab (sA Z Z (aa (rT hQ results92 Z (⟨H1.ext,?_⟩)))));rw [decide_eq_true (dp (d:=0) (by omega) fun i hi=>he i (by omega))]
theorem gT {w:World}{xs:List UInt8}{xsA:Option Addr}{xsC:Nat}{l:Int}(xsS:Sees w [.slice xsA xs.length xsC] xs) (hl : -1≤l∧l≤1048576):Ret Tryz.prog 430 #[.slice xsA xs.length xsC,.int .i64 l] w fun v w'=>Ext No w w'∧(v = .int .i64 (if l-xs.length<0 then -1 else l-xs.length)):=by
 have xsL:=sL xsS;obtain ⟨xsF,xsO⟩:=xsS;refine aC (vs:=[.slice xsA xs.length xsC,.int .i64 l]) func430 Z ntmps430 Z (fun Q hQ hN=>?_);have H0:=Sep.start (w:=w) (F:=[seen false [.slice xsA xs.length xsC] xs xsF]) (all_cons xsO (by simp));refine ab (sA Z Z (aa (ab (sR 2 Z (sV Z (aB aM Z) (sV Z (bn Z Z iO) (sA Z Z (aa (ac (ab (sR 2 Z (aa (ay Z (fun c1=>?_) (fun c1=>?_))))))))))))))
 ·refine ab (rA hQ results430 Z ?_);exact ⟨H0.ext,by rw [if_pos c1]⟩
 ·refine ah (ab (sR 2 Z (rN hQ results430 Z ?_)));exact ⟨H0.ext,by rw [if_neg c1]⟩
theorem ii {w:World}{xs ys:List UInt8}{xsA ysA:Option Addr}{xsC ysC:Nat}(xsS:Sees w [.slice xsA xs.length xsC] xs) (ysS:Sees w [.slice ysA ys.length ysC] ys):Ret Tryz.prog 113 #[.slice xsA xs.length xsC,.slice ysA ys.length ysC] w fun v w'=>Ext No w w'∧(v = .bool (decide (xs=ys))):=by
 have xsL:=sL xsS;obtain ⟨xsF,xsO⟩:=xsS;have ysL:=sL ysS;obtain ⟨ysF,ysO⟩:=ysS;refine aC (vs:=[.slice xsA xs.length xsC,.slice ysA ys.length ysC]) func113 Z ntmps113 Z (fun Q hQ hN=>?_);have H0:=Sep.start (w:=w) (F:=[seen false [.slice xsA xs.length xsC] xs xsF,seen false [.slice ysA ys.length ysC] ys ysF]) (all_cons xsO (all_cons ysO (by simp)));refine ab (sA Z Z (aa (ac (ab (sM Z Z (sV Z (aB aM Z) (sM Z Z (sV Z (aB aM Z) (sV Z (bv Z Z) (aa (ay Z (fun c1=>?_) (fun c1=>?_))))))))))))
 ·refine ab (sA Z Z (aa (rT hQ results113 Z (⟨H0.ext,?_⟩))));rw [decide_eq_false (fun e=>by subst e; exact c1 rfl)]
 ·refine ah (ac (ab (sA Z Z (aa (ao (ba (γ:=Nat) (fun k=>[(0,.slice xsA xs.length xsC),(1,.slice ysA ys.length ysC),(5,.int .i64 k)]) (fun k w'=>Sep No w [] [seen false [.slice xsA xs.length xsC] xs xsF,seen false [.slice ysA ys.length ysC] ys ysF] w'∧k≤xs.length∧(∀ i,i<k→xs.getD i 0=ys.getD i 0)) (fun k=>xs.length-k) 0 ⟨Z,Z,Z,trivial⟩ ⟨H0,by omega,fun i hi=>by omega⟩ (fun k w1 H1=>?_)))))));obtain ⟨H1,hk,he⟩:=H1;refine ac (ab (sR 2 Z (sV Z (aB aM Z) (sV Z (aN Z Z) (aa (ay Z (fun c2=>?_) (fun c2=>?_)))))))
  ·refine ah (ac (ao (ac ?_)));obtain ⟨eb1,eo1,ee1,ec1⟩:=bZ (H1.seen 0 Z) k (by omega);obtain ⟨eb2,eo2,ee2,ec2⟩:=bZ (H1.seen 1 Z) k (by omega);refine bE (S:=Ext No _) (oQ [1,3,5,7,9,11,13,15,16]) (by kernel_rfl) (by kernel_rfl) (by kernel_rfl) Z (fun _=>Ext.refl.drawn _) (fun q1=>?_);have H2:=H1.drawn q1;refine dR 2 Z (dV Z Z (fun zw hx=>au aM ts5 Z Z ee1 k (by omega) (by omega)) (dV Z Z (fun zw hx=>ae tu5 Z Z (hx.cell ec1)) (dR 2 Z (dV Z Z (fun zw hx=>au aM ts5 Z Z ee2 k (by omega) (by omega)) (dV Z Z (fun zw hx=>ae tu5 Z Z (hx.cell ec2)) (aP Z (wn Z) Z Z (bv Z Z) (aQ (ay Z (fun c3=>?_) (fun c3=>?_)))))))))
   ·refine ab (sA Z Z (aa (rT hQ results113 Z (⟨H2.ext,?_⟩))));rw [decide_eq_false (fun e=>by subst e; exact c3 rfl)]
   ·refine ah (aj (sM Z Z (sV Z (az Z Z iO) (sA Z Z (aa (⟨k+1,⟨Z,Z,Z,trivial⟩,⟨H2,by omega,fun i hi=>?_⟩,by dsimp only; omega⟩))))));have c4:xs.getD k 0=ys.getD k 0:=by apply jh.1; omega
    by_cases e:i=k
    ·subst e; exact c4
    ·exact he i (by omega)
  ·refine aG (ab (sA Z Z (aa (rT hQ results113 Z (⟨H1.ext,?_⟩)))));rw [decide_eq_true (dp (d:=0) (by omega) fun i hi=>he i (by omega))]
theorem jL {w:World}{xs:List Int}{xsA:Option Addr}{xsC:Nat}(xsS:Sees w [.slice xsA xs.length xsC] xs) (hl:xs.length≤1048576):Ret Tryz.prog 83 #[.slice xsA xs.length xsC] w fun v w'=>Ext No w w'∧(Res w w' [v] xs):=by
 have xsL:=sL xsS;obtain ⟨xsF,xsO⟩:=xsS;refine aC (vs:=[.slice xsA xs.length xsC]) func83 Z ntmps83 Z (fun Q hQ hN=>?_);have H0:=Sep.start (w:=w) (F:=[seen false [.slice xsA xs.length xsC] xs xsF]) (all_cons xsO (by simp));refine ab (sA Z Z (aa (ab (sM Z Z (sV Z (aB bd Z) (gw (wn Z) Z bd cf Ii Z (by omega) (by unfold maxLen; omega) H0 (fun b1 w1 e1 g1 H1=>sA Z Z (aa (ac (ab (sA Z Z (aa (ao (ba (γ:=Nat × List Nat) (fun (k,fp)=>[(0,.slice xsA xs.length xsC),(3,.slice (some ⟨b1,0,none⟩) xs.length xs.length),(4,.int .i64 k)]) (fun (k,fp) w'=>Sep No w [mine [.slice (some ⟨b1,0,none⟩) xs.length xs.length] (cp xs k 0) fp] [seen false [.slice xsA xs.length xsC] xs xsF] w'∧k≤xs.length) (fun (k,fp)=>xs.length-k) (0,[b1]) ⟨Z,Z,Z,trivial⟩ ⟨lO ▸ H1,by omega⟩ (fun (k,fp) w2 H2=>?_)))))))))))))));obtain ⟨H2,hk⟩:=H2;refine ac (ab (sR 2 Z (sV Z (aB bd Z) (sV Z (aN Z Z) (aa (ay Z (fun c1=>?_) (fun c1=>?_)))))))
 ·refine ah (ac (ao ?_));obtain ⟨eb1,eo1,ee1,ec1⟩:=bV (H2.seen 0 Z) k (by omega);have eI1:=cg (H2.seen 0 Z) k (by omega);obtain ⟨eb2,eo2,ee2,ec2⟩:=bV (H2.mine 0 Z) k (by rw [hZ (xs:=xs) (k:=k) (by omega)]; omega);refine aj (sR 4 Z (sV Z (au bd ts2 Z Z ee1 k (by omega) (by omega)) (sV Z (ae tu2 Z Z ec1) (sV Z (au bd ts2 Z Z ee2 k (by omega) (by omega)) (mV (wn Z) ts2 Z H2 0 Z k (by rw [hZ (xs:=xs) (k:=k) (by omega)]; omega) Z ee2 Z (gz (by first | assumption | (unfold I64ok; omega))) (fun w3 fp1 e2 H3=>aa (aj (sM Z Z (sV Z (az Z Z iO) (sA Z Z (aa (⟨(k+1,_),⟨Z,Z,Z,trivial⟩,⟨oG (xs:=xs) (k:=k) (d:=0) (by omega) ▸ H3,by omega⟩,by dsimp only; omega⟩))))))))))))
 ·refine aG (ab (sR 2 Z (rN hQ results83 Z ?_)));obtain rfl:k=xs.length:=by omega
  exact ⟨H2.ext,by
   have h:=H2.out 0 Z
   rwa [pz] at h⟩
theorem gV {w:World}{xs:List UInt8}{xsA:Option Addr}{xsC:Nat}(xsS:Sees w [.slice xsA xs.length xsC] xs) (hl:xs.length≤1048576):Ret Tryz.prog 432 #[.slice xsA xs.length xsC] w fun v w'=>Ext No w w'∧(Res w w' [v] xs):=by
 have xsL:=sL xsS;obtain ⟨xsF,xsO⟩:=xsS;refine aC (vs:=[.slice xsA xs.length xsC]) func432 Z ntmps432 Z (fun Q hQ hN=>?_);have H0:=Sep.start (w:=w) (F:=[seen false [.slice xsA xs.length xsC] xs xsF]) (all_cons xsO (by simp));refine ab (sA Z Z (aa (ab (sM Z Z (sV Z (aB aM Z) (gw (wn Z) Z aM bh ra Z (by omega) (by unfold maxLen; omega) H0 (fun b1 w1 e1 g1 H1=>sA Z Z (aa (ac (ab (sA Z Z (aa (ao (ba (γ:=Nat × List Nat) (fun (k,fp)=>[(0,.slice xsA xs.length xsC),(3,.slice (some ⟨b1,0,none⟩) xs.length xs.length),(4,.int .i64 k)]) (fun (k,fp) w'=>Sep No w [mine [.slice (some ⟨b1,0,none⟩) xs.length xs.length] (cp xs k 0) fp] [seen false [.slice xsA xs.length xsC] xs xsF] w'∧k≤xs.length) (fun (k,fp)=>xs.length-k) (0,[b1]) ⟨Z,Z,Z,trivial⟩ ⟨lO ▸ H1,by omega⟩ (fun (k,fp) w2 H2=>?_)))))))))))))));obtain ⟨H2,hk⟩:=H2;refine ac (ab (sR 2 Z (sV Z (aB aM Z) (sV Z (aN Z Z) (aa (ay Z (fun c1=>?_) (fun c1=>?_)))))))
 ·refine ah (ac (ao ?_));obtain ⟨eb1,eo1,ee1,ec1⟩:=bZ (H2.seen 0 Z) k (by omega);obtain ⟨eb2,eo2,ee2,ec2⟩:=bZ (H2.mine 0 Z) k (by rw [hZ (xs:=xs) (k:=k) (by omega)]; omega);refine aj (sR 4 Z (sV Z (au aM ts5 Z Z ee1 k (by omega) (by omega)) (sV Z (ae tu5 Z Z ec1) (sV Z (au aM ts5 Z Z ee2 k (by omega) (by omega)) (mV (wn Z) ts5 Z H2 0 Z k (by rw [hZ (xs:=xs) (k:=k) (by omega)]; omega) Z ee2 Z eW (fun w3 fp1 e2 H3=>aa (aj (sM Z Z (sV Z (az Z Z iO) (sA Z Z (aa (⟨(k+1,_),⟨Z,Z,Z,trivial⟩,⟨oG (xs:=xs) (k:=k) (d:=0) (by omega) ▸ H3,by omega⟩,by dsimp only; omega⟩))))))))))))
 ·refine aG (ab (sR 2 Z (rN hQ results432 Z ?_)));obtain rfl:k=xs.length:=by omega
  exact ⟨H2.ext,by
   have h:=H2.out 0 Z
   rwa [pz] at h⟩
theorem jc {w:World}{xs:List Int}{xsA:Option Addr}{xsC:Nat}{x:Int}(xsS:Sees w [.slice xsA xs.length xsC] xs):Ret Tryz.prog 184 #[.slice xsA xs.length xsC,.int .i64 x] w fun v w'=>Ext No w w'∧(v = .bool (decide (x∈xs))):=by
 have xsL:=sL xsS;obtain ⟨xsF,xsO⟩:=xsS;refine aC (vs:=[.slice xsA xs.length xsC,.int .i64 x]) func184 Z ntmps184 Z (fun Q hQ hN=>?_);have H0:=Sep.start (w:=w) (F:=[seen false [.slice xsA xs.length xsC] xs xsF]) (all_cons xsO (by simp));refine ab (sA Z Z (aa (ac (ab (sA Z Z (aa (ao (ba (γ:=Nat) (fun k=>[(0,.slice xsA xs.length xsC),(1,.int .i64 x),(5,.int .i64 k)]) (fun k w'=>Sep No w [] [seen false [.slice xsA xs.length xsC] xs xsF] w'∧k≤xs.length∧(∀ i,i<k→xs.getD i 0≠x)) (fun k=>xs.length-k) 0 ⟨Z,Z,Z,trivial⟩ ⟨H0,by omega,fun i hi=>by omega⟩ (fun k w1 H1=>?_)))))))));obtain ⟨H1,hk,he⟩:=H1;refine ac (ab (sR 2 Z (sV Z (aB bd Z) (sV Z (aN Z Z) (aa (ay Z (fun c1=>?_) (fun c1=>?_)))))))
 ·refine ah (ac (ao (ac ?_)));obtain ⟨eb1,eo1,ee1,ec1⟩:=bV (H1.seen 0 Z) k (by omega);have eI1:=cg (H1.seen 0 Z) k (by omega);refine aj (sR 2 Z (sV Z (au bd ts2 Z Z ee1 k (by omega) (by omega)) (sV Z (ae tu2 Z Z ec1) (sR 2 Z (aa (ay Z (fun c2=>?_) (fun c2=>?_)))))))
  ·refine ab (rA hQ results184 Z ?_);exact ⟨H1.ext,by rw [decide_eq_true (tM (d:=0) (k:=k) (by omega) c2)]⟩
  ·refine ah (aj (sM Z Z (sV Z (az Z Z iO) (sA Z Z (aa (⟨k+1,⟨Z,Z,Z,trivial⟩,⟨H1,by omega,fun i hi=>?_⟩,by dsimp only; omega⟩))))))
   by_cases e:i=k
   ·subst e; omega
   ·exact he i (by omega)
 ·refine aG (ab (rA hQ results184 Z ?_));exact ⟨H1.ext,by rw [decide_eq_false (qA (d:=0) fun i hi=>he i (by omega))]⟩
theorem ja {w:World}{xs:List Int}{xsA:Option Addr}{xsC:Nat}{x:Int}(xsS:Sees w [.slice xsA xs.length xsC] xs):Ret Tryz.prog 313 #[.slice xsA xs.length xsC,.int .i64 x] w fun v w'=>Ext No w w'∧(v = .int .i64 (idxOf xs x)):=by
 have xsL:=sL xsS;obtain ⟨xsF,xsO⟩:=xsS;refine aC (vs:=[.slice xsA xs.length xsC,.int .i64 x]) func313 Z ntmps313 Z (fun Q hQ hN=>?_);have H0:=Sep.start (w:=w) (F:=[seen false [.slice xsA xs.length xsC] xs xsF]) (all_cons xsO (by simp));refine ab (sA Z Z (aa (ac (ab (sM Z Z (sV Z (aB bd Z) (sM Z Z (aa (ao (ba (γ:=Nat) (fun k=>[(0,.slice xsA xs.length xsC),(1,.int .i64 x),(7,.int .i64 xs.length),(8,.int .i64 k)]) (fun k w'=>Sep No w [] [seen false [.slice xsA xs.length xsC] xs xsF] w'∧k≤xs.length∧(∀ i,i<k→xs.getD i 0≠x)) (fun k=>xs.length-k) 0 ⟨Z,Z,Z,Z,trivial⟩ ⟨H0,by omega,fun i hi=>by omega⟩ (fun k w1 H1=>?_)))))))))));obtain ⟨H1,hk,he⟩:=H1;refine ab (sV Z (aN Z Z) (aa (ac (ay Z (fun c1=>?_) (fun c1=>?_)))))
 ·refine ah (ac (ao (ab (sR 2 Z (aa (ac ?_))))));obtain ⟨eb1,eo1,ee1,ec1⟩:=bV (H1.seen 0 Z) k (by omega);have eI1:=cg (H1.seen 0 Z) k (by omega);refine aj (sR 3 Z (sV Z (au bd ts2 Z Z ee1 k (by omega) (by omega)) (sV Z (ae tu2 Z Z ec1) (sV Z (bB Z Z) (aa (ay Z (fun c2=>?_) (fun c2=>?_)))))))
  ·refine ab (sR 2 Z (rN hQ results313 Z ?_));exact ⟨H1.ext,congrArg (Value.int .i64) (FO (by omega) c2.symm he).symm⟩
  ·refine ah (aj (sV Z (az Z Z iO) (sM Z Z (aa (⟨k+1,⟨Z,Z,Z,Z,trivial⟩,⟨H1,by omega,fun i hi=>?_⟩,by dsimp only; omega⟩)))))
   by_cases e:i=k
   ·subst e; omega
   ·exact he i (by omega)
 ·refine aG (ab (rA hQ results313 Z ?_));exact ⟨H1.ext,congrArg (Value.int .i64) (ED fun i hi=>he i (by omega)).symm⟩
theorem ci {w:World}{xs:List Int}{xsA:Option Addr}{xsC:Nat}{x:Int}(xsS:Sees w [.slice xsA xs.length xsC] xs):Ret Tryz.prog 195 #[.slice xsA xs.length xsC,.int .i64 x] w fun v w'=>Ext No w w'∧(v = .bool (decide (x∈xs))):=by
 have xsL:=sL xsS;obtain ⟨xsF,xsO⟩:=xsS;refine aC (vs:=[.slice xsA xs.length xsC,.int .i64 x]) func195 Z ntmps195 Z (fun Q hQ hN=>?_);have H0:=Sep.start (w:=w) (F:=[seen false [.slice xsA xs.length xsC] xs xsF]) (all_cons xsO (by simp));refine ab (sA Z Z (aa (ab (sR 2 Z (sE func313 Ae Z (ja (H0.sees 0 Z)) H0 (fun w1 e1 H1=>sR 2 Z (rN hQ results195 Z ?_)))))));exact ⟨H1.ext,by rw [D2]⟩
end Go.Wk
namespace Go.Wk
open Go.Proofs Rp Go.Proofs.Tryz
set_option maxRecDepth 10000
theorem ge {w:World}{xs:List UInt8}{xsA:Option Addr}{xsC:Nat}{k:Int}{fp:List Nat}(o:own true w [.slice xsA xs.length xsC] xs fp) (nd:fp.Nodup) (hk:0≤k∧k+xs.length≤4611686018427387904):Ret Tryz.prog 114 #[.slice xsA xs.length xsC,.int .i64 k] w fun v w'=>(v = .int .i64 (k+xs.length)∧∃ xs',Mut w w' fp [.slice xsA xs.length xsC] xs'∧xs'.length=xs.length∧MarkB xs' k):=by
 have len:=oL o;refine aC (vs:=[.slice xsA xs.length xsC,.int .i64 k]) func114 Z ntmps114 Z (fun Q hQ hN=>?_);have H0:=Sep.begin o nd;refine ab (sA Z Z (aa (ac (ab (sA Z Z (aa (ao (ba (γ:=Nat × List UInt8 × List Nat) (fun (i,ys,f)=>[(0,.slice xsA xs.length xsC),(1,.int .i64 (k+i)),(5,.int .i64 i)]) (fun (i,ys,f) w'=>Sep (· ∈ fp) w [mine [.slice xsA xs.length xsC] ys f] [] w'∧i≤xs.length∧ys.length=xs.length∧(∀ j,j<i→ys.getD j 0=qh (k+j))) (fun (i,ys,f)=>xs.length-i) (0,xs,fp) ⟨Z,eqI (by omega),Z,trivial⟩ ⟨H0,by omega,Z,fun j hj=>by omega⟩ (fun (i,ys,f) w1 H1=>?_)))))))));obtain ⟨H1,hi,hl,hm⟩:=H1;refine ac (ab (sR 2 Z (sV Z (aB aM Z) (sV Z (aN Z Z) (aa (ay Z (fun c1=>?_) (fun c1=>?_)))))))
 ·refine ah (ac (ao (ac ?_)));obtain ⟨eb1,eo1,ee1,ec1⟩:=bZ (H1.mine 0 Z) i (by omega);refine aj (sR 3 Z (sV Z (iN tu3 tu5 Z) (sV Z (au aM ts5 Z Z ee1 i (by omega) (by omega)) (mV (wn Z) ts5 Z H1 0 Z i (by omega) Z ee1 Z eW (fun w2 fp1 e1 H2=>aa (aj (sM Z Z (sV Z (az Z Z iO) (sA Z Z (aa (aj (sM Z Z (sV Z (az Z Z iO) (sA Z Z (aa (⟨(i+1,_,_),⟨Z,eqI (by omega),Z,trivial⟩,⟨H2,by omega,by rw [List.length_set]; exact hl,fun j hj=>?_⟩,by dsimp only; omega⟩))))))))))))))));rw [dj]
  by_cases e:j=i
  ·subst e; rw [if_pos ⟨rfl,by omega⟩]
  ·rw [if_neg (fun h=>e h.1)]; exact hm j (by omega)
 ·refine aG (ab (sR 2 Z (rN hQ results114 Z ?_)));obtain rfl:i=xs.length:=by omega
  exact ⟨Z,_,H1.done,hl,fun j hj=>hm j (by omega)⟩
theorem iR {w:World}{xs:List Int}{xsA:Option Addr}{xsC:Nat}{k:Int}{fp:List Nat}(o:own true w [.slice xsA xs.length xsC] xs fp) (nd:fp.Nodup) (hk:0≤k∧k+xs.length≤4611686018427387904):Ret Tryz.prog 95 #[.slice xsA xs.length xsC,.int .i64 k] w fun v w'=>(v = .int .i64 (k+xs.length)∧∃ xs',Mut w w' fp [.slice xsA xs.length xsC] xs'∧xs'.length=xs.length∧MarkI xs' k):=by
 have len:=oL o;refine aC (vs:=[.slice xsA xs.length xsC,.int .i64 k]) func95 Z ntmps95 Z (fun Q hQ hN=>?_);have H0:=Sep.begin o nd;refine ab (sA Z Z (aa (ac (ab (sA Z Z (aa (ao (ba (γ:=Nat × List Int × List Nat) (fun (i,ys,f)=>[(0,.slice xsA xs.length xsC),(1,.int .i64 (k+i)),(5,.int .i64 i)]) (fun (i,ys,f) w'=>Sep (· ∈ fp) w [mine [.slice xsA xs.length xsC] ys f] [] w'∧i≤xs.length∧ys.length=xs.length∧(∀ j,j<i→ys.getD j 0=(k+j))) (fun (i,ys,f)=>xs.length-i) (0,xs,fp) ⟨Z,eqI (by omega),Z,trivial⟩ ⟨H0,by omega,Z,fun j hj=>by omega⟩ (fun (i,ys,f) w1 H1=>?_)))))))));obtain ⟨H1,hi,hl,hm⟩:=H1;refine ac (ab (sR 2 Z (sV Z (aB bd Z) (sV Z (aN Z Z) (aa (ay Z (fun c1=>?_) (fun c1=>?_)))))))
 ·refine ah (ac (ao (ac ?_)));obtain ⟨eb1,eo1,ee1,ec1⟩:=bV (H1.mine 0 Z) i (by omega);refine aj (sR 3 Z (sV Z (au bd ts2 Z Z ee1 i (by omega) (by omega)) (mV (wn Z) ts2 Z H1 0 Z i (by omega) Z ee1 Z (gz (by unfold I64ok; omega)) (fun w2 fp1 e1 H2=>aa (aj (sM Z Z (sV Z (az Z Z iO) (sA Z Z (aa (aj (sM Z Z (sV Z (az Z Z iO) (sA Z Z (aa (⟨(i+1,_,_),⟨Z,eqI (by omega),Z,trivial⟩,⟨H2,by omega,by rw [List.length_set]; exact hl,fun j hj=>?_⟩,by dsimp only; omega⟩)))))))))))))));rw [dj]
  by_cases e:j=i
  ·subst e; rw [if_pos ⟨rfl,by omega⟩]
  ·rw [if_neg (fun h=>e h.1)]; exact hm j (by omega)
 ·refine aG (ab (sR 2 Z (rN hQ results95 Z ?_)));obtain rfl:i=xs.length:=by omega
  exact ⟨Z,_,H1.done,hl,fun j hj=>hm j (by omega)⟩
theorem ga {w:World}{xs:List UInt8}{xsA:Option Addr}{xsC:Nat}{k:Int}(xsS:Sees w [.slice xsA xs.length xsC] xs) (hk:0≤k∧k+xs.length≤4611686018427387904) (hm:MarkB xs k):Ret Tryz.prog 115 #[.slice xsA xs.length xsC,.int .i64 k] w fun v w'=>Ext No w w'∧(v = .int .i64 (k+xs.length)):=by
 have xsL:=sL xsS;obtain ⟨xsF,xsO⟩:=xsS;refine aC (vs:=[.slice xsA xs.length xsC,.int .i64 k]) func115 Z ntmps115 Z (fun Q hQ hN=>?_);have H0:=Sep.start (w:=w) (F:=[seen false [.slice xsA xs.length xsC] xs xsF]) (all_cons xsO (by simp));refine ab (sA Z Z (aa (ac (ab (sA Z Z (aa (ao (ba (γ:=Nat) (fun i=>[(0,.slice xsA xs.length xsC),(1,.int .i64 (k+i)),(5,.int .i64 i)]) (fun i w'=>Sep No w [] [seen false [.slice xsA xs.length xsC] xs xsF] w'∧i≤xs.length) (fun i=>xs.length-i) 0 ⟨Z,eqI (by omega),Z,trivial⟩ ⟨H0,by omega⟩ (fun i w1 H1=>?_)))))))));obtain ⟨H1,hi⟩:=H1;refine ac (ab (sR 2 Z (sV Z (aB aM Z) (sV Z (aN Z Z) (aa (ay Z (fun c1=>?_) (fun c1=>?_)))))))
 ·refine ah (ac (ao (ac (ac ?_))));obtain ⟨eb1,eo1,ee1,ec1⟩:=bZ (H1.seen 0 Z) i (by omega);refine aj (sR 2 Z (sV Z (au aM ts5 Z Z ee1 i (by omega) (by omega)) (sV Z (ae tu5 Z Z ec1) (sM Z Z (sV Z (iN tu3 tu5 Z) (sV Z (bv Z Z) (aa (ay Z (fun c2=>?_) (fun c2=>?_)))))))))
  ·exact absurd (by rw [hm i (by omega)]) c2
  ·refine ah (aj (sM Z Z (sV Z (az Z Z iO) (sA Z Z (aa (aj (sM Z Z (sV Z (az Z Z iO) (sA Z Z (aa (⟨i+1,⟨Z,eqI (by omega),Z,trivial⟩,⟨H1,by omega⟩,by dsimp only; omega⟩)))))))))))
 ·refine aG (ab (sR 2 Z (rN hQ results115 Z ?_)));obtain rfl:i=xs.length:=by omega
  exact ⟨H1.ext,Z⟩
theorem iQ {w:World}{xs:List Int}{xsA:Option Addr}{xsC:Nat}{k:Int}(xsS:Sees w [.slice xsA xs.length xsC] xs) (hk:0≤k∧k+xs.length≤4611686018427387904) (hm:MarkI xs k):Ret Tryz.prog 204 #[.slice xsA xs.length xsC,.int .i64 k] w fun v w'=>Ext No w w'∧(v = .int .i64 (k+xs.length)):=by
 have xsL:=sL xsS;obtain ⟨xsF,xsO⟩:=xsS;refine aC (vs:=[.slice xsA xs.length xsC,.int .i64 k]) func204 Z ntmps204 Z (fun Q hQ hN=>?_);have H0:=Sep.start (w:=w) (F:=[seen false [.slice xsA xs.length xsC] xs xsF]) (all_cons xsO (by simp));refine ab (sA Z Z (aa (ac (ab (sA Z Z (aa (ao (ba (γ:=Nat) (fun i=>[(0,.slice xsA xs.length xsC),(1,.int .i64 (k+i)),(5,.int .i64 i)]) (fun i w'=>Sep No w [] [seen false [.slice xsA xs.length xsC] xs xsF] w'∧i≤xs.length) (fun i=>xs.length-i) 0 ⟨Z,eqI (by omega),Z,trivial⟩ ⟨H0,by omega⟩ (fun i w1 H1=>?_)))))))));obtain ⟨H1,hi⟩:=H1;refine ac (ab (sR 2 Z (sV Z (aB bd Z) (sV Z (aN Z Z) (aa (ay Z (fun c1=>?_) (fun c1=>?_)))))))
 ·refine ah (ac (ao (ac (ac ?_))));obtain ⟨eb1,eo1,ee1,ec1⟩:=bV (H1.seen 0 Z) i (by omega);have eI1:=cg (H1.seen 0 Z) i (by omega);refine aj (sR 2 Z (sV Z (au bd ts2 Z Z ee1 i (by omega) (by omega)) (sV Z (ae tu2 Z Z ec1) (sR 2 Z (aa (ay Z (fun c2=>?_) (fun c2=>?_)))))))
  ·exact absurd (hm i (by omega)) c2
  ·refine ah (aj (sM Z Z (sV Z (az Z Z iO) (sA Z Z (aa (aj (sM Z Z (sV Z (az Z Z iO) (sA Z Z (aa (⟨i+1,⟨Z,eqI (by omega),Z,trivial⟩,⟨H1,by omega⟩,by dsimp only; omega⟩)))))))))))
 ·refine aG (ab (sR 2 Z (rN hQ results204 Z ?_)));obtain rfl:i=xs.length:=by omega
  exact ⟨H1.ext,Z⟩
end Go.Wk
namespace Go.Wk
open Go.Proofs Rp Go.Proofs.Tryz
set_option maxRecDepth 10000
theorem bi {w:World}{v0 lo hi:Int}  : Ret Tryz.prog 141 #[.int .i64 v0,.int .i64 lo,.int .i64 hi] w fun v w'=>Ext No w w'∧(v = .bool (ins v0 lo hi)):=by
 refine aC (vs:=[.int .i64 v0,.int .i64 lo,.int .i64 hi]) func141 Z ntmps141 Z (fun Q hQ hN=>?_);have H0:=Sep.start (w:=w) (F:=[]) (by simp);refine ab (sA Z Z (aa (ab (sR 4 Z (bp 3 (j:=3) (want:=true) (t:=13) Z Z Z Z (fun hg1 kk1=>ak (wgE Z Z Z hg1) Z Z (aD Z) (ak (wgE Z Z Z hg1) Z Z (aD Z) (ak (wgE Z Z Z hg1) Z Z (tw Z Z) (kk1 _ _ (kx Z (kx Z (kx Z k0))) Z Ext.refl)))) (fun w1 e1=>?_))))));have H1:=H0.to e1;refine sV Z (bb Z Z) (rA hQ results141 Z ?_);exact ⟨H1.ext,Z⟩
theorem bm {w:World}{v0 lo hi:Int}  : Ret Tryz.prog 130 #[.int .i64 v0,.int .i64 lo,.int .i64 hi] w fun v w'=>Ext No w w'∧(v = .bool (ins v0 lo hi)):=by
 refine aC (vs:=[.int .i64 v0,.int .i64 lo,.int .i64 hi]) func130 Z ntmps130 Z (fun Q hQ hN=>?_);have H0:=Sep.start (w:=w) (F:=[]) (by simp);refine ab (sA Z Z (aa (ab (sR 4 Z (bp 3 (j:=3) (want:=true) (t:=13) Z Z Z Z (fun hg1 kk1=>ak (wgE Z Z Z hg1) Z Z (aD Z) (ak (wgE Z Z Z hg1) Z Z (aD Z) (ak (wgE Z Z Z hg1) Z Z (tw Z Z) (kk1 _ _ (kx Z (kx Z (kx Z k0))) Z Ext.refl)))) (fun w1 e1=>?_))))));have H1:=H0.to e1;refine sV Z (bb Z Z) (rA hQ results130 Z ?_);exact ⟨H1.ext,Z⟩
theorem pP {w:World}{x y:Int}  : Ret Tryz.prog 139 #[.int .i64 x,.int .i64 y] w fun v w'=>Ext No w w'∧(v = .bool (cOK x y)):=by
 refine aC (vs:=[.int .i64 x,.int .i64 y]) func139 Z ntmps139 Z (fun Q hQ hN=>?_);have H0:=Sep.start (w:=w) (F:=[]) (by simp);refine ab (sA Z Z (aa (ab (sM Z Z (sE func141 bT Z bi H0 (fun w1 e1 H1=>sM Z Z (bp 2 (j:=2) (want:=true) (t:=9) Z Z Z Z (fun hg1 kk1=>ak (wgE Z Z Z hg1) Z Z (aD Z) (cB (wgE Z Z Z hg1) Z Z (aU func141 Z bT Z) bi (fun w3 e3=>kk1 _ _ (kx Z (kx Z k0)) Z (Ext.refl.trans e3)))) (fun w2 e2=>?_))))))));have H2:=H1.to e2;refine sV Z (bb Z Z) (rA hQ results139 Z ?_);exact ⟨H2.ext,Z⟩
theorem p6 {w:World}{x y:Int}  : Ret Tryz.prog 140 #[.int .i64 x,.int .i64 y] w fun v w'=>Ext No w w'∧(v = .bool (rOK x y)):=by
 refine aC (vs:=[.int .i64 x,.int .i64 y]) func140 Z ntmps140 Z (fun Q hQ hN=>?_);have H0:=Sep.start (w:=w) (F:=[]) (by simp);refine ab (sA Z Z (aa (ab (sM Z Z (sE func141 bT Z bi H0 (fun w1 e1 H1=>sM Z Z (bp 2 (j:=2) (want:=true) (t:=9) Z Z Z Z (fun hg1 kk1=>ak (wgE Z Z Z hg1) Z Z (aD Z) (cB (wgE Z Z Z hg1) Z Z (aU func141 Z bT Z) bi (fun w3 e3=>kk1 _ _ (kx Z (kx Z k0)) Z (Ext.refl.trans e3)))) (fun w2 e2=>?_))))))));have H2:=H1.to e2;refine sV Z (bb Z Z) (rA hQ results140 Z ?_);exact ⟨H2.ext,Z⟩
theorem iT {w:World}{s:Shape}  : Ret Tryz.prog 45 #[s.v] w fun v w'=>Ext No w w'∧(v = .int .i64 s.fault):=by
 refine aC (vs:=[s.v]) func45 Z ntmps45 Z (fun Q hQ hN=>?_);have H0:=Sep.start (w:=w) (F:=[]) (by simp);refine ab (aZ (wn Z) Z Z H0 (fun b1 w1 e1 g1 H1=>sA Z Z (aa (ac (ab (sF br Z ts2 (sLd tu2 (H1.box 0 Z) Z (sF br Z ts2 (sLd tu2 (H1.box 0 Z) Z (sE func139 Cr Z pP H1 (fun w2 e2 H2=>sV Z (aX Z) (sM Z Z (bp 6 (j:=6) (want:=false) (t:=15) Z Z Z Z (fun hg1 kk1=>ak (wgE Z Z Z hg1) Z Z (ag br Z ts2 Z Z) (ak (wgE Z Z Z hg1) Z Z (ae tu2 Z Z (am (H2.box 0 Z) Z)) (ak (wgE Z Z Z hg1) Z Z (ag br Z ts2 Z Z) (ak (wgE Z Z Z hg1) Z Z (ae tu2 Z Z (am (H2.box 0 Z) Z)) (cB (wgE Z Z Z hg1) Z Z (aU func140 Z Cs Z) p6 (fun w4 e4=>ak (wgE Z Z Z hg1) Z Z (aX Z) (kk1 _ _ (kx Z (kx Z (kx Z (kx Z (kx Z (kx Z k0)))))) Z (Ext.refl.trans e4)))))))) (fun w3 e3=>?_))))))))))))));have H3:=H2.to e3;refine sV Z (ew Z Z) (sM Z Z (bp 4 (j:=14) (want:=false) (t:=21) Z Z Z Z (fun hg2 kk2=>ak (wgE Z Z Z hg2) Z Z (ag br Z ts2 Z Z) (ak (wgE Z Z Z hg2) Z Z (ae tu2 Z Z (am (H3.box 0 Z) Z)) (cB (wgE Z Z Z hg2) Z Z (aU func141 Z bT Z) bi (fun w6 e6=>ak (wgE Z Z Z hg2) Z Z (aX Z) (kk2 _ _ (kx Z (kx Z (kx Z (kx Z k0)))) Z (Ext.refl.trans e6)))))) (fun w5 e5=>?_)));have H4:=H3.to e5;refine sV Z (ew Z Z) (sM Z Z (bp 4 (j:=20) (want:=false) (t:=27) Z Z Z Z (fun hg3 kk3=>ak (wgE Z Z Z hg3) Z Z (ag br Z ts2 Z Z) (ak (wgE Z Z Z hg3) Z Z (ae tu2 Z Z (am (H4.box 0 Z) Z)) (cB (wgE Z Z Z hg3) Z Z (aU func141 Z bT Z) bi (fun w8 e8=>ak (wgE Z Z Z hg3) Z Z (aX Z) (kk3 _ _ (kx Z (kx Z (kx Z (kx Z k0)))) Z (Ext.refl.trans e8)))))) (fun w7 e7=>?_)));have H5:=H4.to e7;refine sV Z (ew Z Z) (sM Z Z (bp 4 (j:=26) (want:=false) (t:=33) Z Z Z Z (fun hg4 kk4=>ak (wgE Z Z Z hg4) Z Z (ag br Z ts2 Z Z) (ak (wgE Z Z Z hg4) Z Z (ae tu2 Z Z (am (H5.box 0 Z) Z)) (cB (wgE Z Z Z hg4) Z Z (aU func141 Z bT Z) bi (fun w10 e10=>ak (wgE Z Z Z hg4) Z Z (aX Z) (kk4 _ _ (kx Z (kx Z (kx Z (kx Z k0)))) Z (Ext.refl.trans e10)))))) (fun w9 e9=>?_)));have H6:=H5.to e9;refine sV Z (ew Z Z) (sM Z Z (bp 4 (j:=32) (want:=false) (t:=39) Z Z Z Z (fun hg5 kk5=>ak (wgE Z Z Z hg5) Z Z (ag br Z ts2 Z Z) (ak (wgE Z Z Z hg5) Z Z (ae tu2 Z Z (am (H6.box 0 Z) Z)) (cB (wgE Z Z Z hg5) Z Z (aU func141 Z bT Z) bi (fun w12 e12=>ak (wgE Z Z Z hg5) Z Z (aX Z) (kk5 _ _ (kx Z (kx Z (kx Z (kx Z k0)))) Z (Ext.refl.trans e12)))))) (fun w11 e11=>?_)));have H7:=H6.to e11;refine sV Z (ew Z Z) (sM Z Z (bp 4 (j:=38) (want:=false) (t:=45) Z Z Z Z (fun hg6 kk6=>ak (wgE Z Z Z hg6) Z Z (ag br Z ts2 Z Z) (ak (wgE Z Z Z hg6) Z Z (ae tu2 Z Z (am (H7.box 0 Z) Z)) (cB (wgE Z Z Z hg6) Z Z (aU func141 Z bT Z) bi (fun w14 e14=>ak (wgE Z Z Z hg6) Z Z (aX Z) (kk6 _ _ (kx Z (kx Z (kx Z (kx Z k0)))) Z (Ext.refl.trans e14)))))) (fun w13 e13=>?_)));have H8:=H7.to e13;refine sV Z (ew Z Z) (aa (bI Z (fun c1=>?_) (fun c1=>?_)))
 ·refine ab (rA hQ results45 Z ?_);exact ⟨H8.ext,Shape.no (by simpa only [Shape.ok,Bool.not_and] using c1)⟩
 ·refine ah (ab (rA hQ results45 Z ?_));exact ⟨H8.ext,Shape.yes (by simpa only [Shape.ok,Bool.not_and] using c1)⟩
theorem mI {w:World}{s:Shape}  : Ret Tryz.prog 135 #[s.v] w fun v w'=>Ext No w w'∧(v = .int .i64 s.fault):=by
 refine aC (vs:=[s.v]) func135 Z ntmps135 Z (fun Q hQ hN=>?_);have H0:=Sep.start (w:=w) (F:=[]) (by simp);refine ab (aZ (wn Z) Z Z H0 (fun b1 w1 e1 g1 H1=>sA Z Z (aa (ab (sF br Z ts2 (sLd tu2 (H1.box 0 Z) Z (sE func130 cw Z bm H1 (fun w2 e2 H2=>sM Z Z (bp 3 (j:=3) (want:=true) (t:=10) Z Z Z Z (fun hg1 kk1=>ak (wgE Z Z Z hg1) Z Z (ag br Z ts2 Z Z) (ak (wgE Z Z Z hg1) Z Z (ae tu2 Z Z (am (H2.box 0 Z) Z)) (cB (wgE Z Z Z hg1) Z Z (aU func130 Z cw Z) bm (fun w4 e4=>kk1 _ _ (kx Z (kx Z (kx Z k0))) Z (Ext.refl.trans e4))))) (fun w3 e3=>?_))))))))));have H3:=H2.to e3;refine sV Z (bb Z Z) (sM Z Z (bp 3 (j:=8) (want:=true) (t:=15) Z Z Z Z (fun hg2 kk2=>ak (wgE Z Z Z hg2) Z Z (ag br Z ts2 Z Z) (ak (wgE Z Z Z hg2) Z Z (ae tu2 Z Z (am (H3.box 0 Z) Z)) (cB (wgE Z Z Z hg2) Z Z (aU func130 Z cw Z) bm (fun w6 e6=>kk2 _ _ (kx Z (kx Z (kx Z k0))) Z (Ext.refl.trans e6))))) (fun w5 e5=>?_)));have H4:=H3.to e5;refine sV Z (bb Z Z) (sM Z Z (bp 3 (j:=13) (want:=true) (t:=20) Z Z Z Z (fun hg3 kk3=>ak (wgE Z Z Z hg3) Z Z (ag br Z ts2 Z Z) (ak (wgE Z Z Z hg3) Z Z (ae tu2 Z Z (am (H4.box 0 Z) Z)) (cB (wgE Z Z Z hg3) Z Z (aU func130 Z cw Z) bm (fun w8 e8=>kk3 _ _ (kx Z (kx Z (kx Z k0))) Z (Ext.refl.trans e8))))) (fun w7 e7=>?_)));have H5:=H4.to e7;refine sV Z (bb Z Z) (sA Z Z (aa (ab (sR 2 Z (bp 3 (j:=1) (want:=true) (t:=26) Z Z Z Z (fun hg4 kk4=>ak (wgE Z Z Z hg4) Z Z (ag br Z ts2 Z Z) (ak (wgE Z Z Z hg4) Z Z (ae tu2 Z Z (am (H5.box 0 Z) Z)) (cB (wgE Z Z Z hg4) Z Z (aU func130 Z cw Z) bm (fun w10 e10=>kk4 _ _ (kx Z (kx Z (kx Z k0))) Z (Ext.refl.trans e10))))) (fun w9 e9=>?_))))));have H6:=H5.to e9;refine sV Z (bb Z Z) (sM Z Z (bp 3 (j:=6) (want:=true) (t:=31) Z Z Z Z (fun hg5 kk5=>ak (wgE Z Z Z hg5) Z Z (ag br Z ts2 Z Z) (ak (wgE Z Z Z hg5) Z Z (ae tu2 Z Z (am (H6.box 0 Z) Z)) (cB (wgE Z Z Z hg5) Z Z (aU func130 Z cw Z) bm (fun w12 e12=>kk5 _ _ (kx Z (kx Z (kx Z k0))) Z (Ext.refl.trans e12))))) (fun w11 e11=>?_)));have H7:=H6.to e11;refine sV Z (bb Z Z) (sM Z Z (bp 3 (j:=11) (want:=true) (t:=36) Z Z Z Z (fun hg6 kk6=>ak (wgE Z Z Z hg6) Z Z (ag br Z ts2 Z Z) (ak (wgE Z Z Z hg6) Z Z (ae tu2 Z Z (am (H7.box 0 Z) Z)) (cB (wgE Z Z Z hg6) Z Z (aU func130 Z cw Z) bm (fun w14 e14=>kk6 _ _ (kx Z (kx Z (kx Z k0))) Z (Ext.refl.trans e14))))) (fun w13 e13=>?_)));have H8:=H7.to e13;refine sV Z (bb Z Z) (sM Z Z (bp 3 (j:=16) (want:=true) (t:=41) Z Z Z Z (fun hg7 kk7=>ak (wgE Z Z Z hg7) Z Z (ag br Z ts2 Z Z) (ak (wgE Z Z Z hg7) Z Z (ae tu2 Z Z (am (H8.box 0 Z) Z)) (cB (wgE Z Z Z hg7) Z Z (aU func130 Z cw Z) bm (fun w16 e16=>kk7 _ _ (kx Z (kx Z (kx Z k0))) Z (Ext.refl.trans e16))))) (fun w15 e15=>?_)));have H9:=H8.to e15;refine sV Z (bb Z Z) (sA Z Z (aa (ac (ab (sM Z Z (sV Z (aX Z) (sM Z Z (bp 4 (j:=2) (want:=false) (t:=49) Z Z Z Z (fun hg8 kk8=>ak (wgE Z Z Z hg8) Z Z (ag br Z ts2 Z Z) (ak (wgE Z Z Z hg8) Z Z (ae tu2 Z Z (am (H9.box 0 Z) Z)) (cB (wgE Z Z Z hg8) Z Z (aU func130 Z cw Z) bm (fun w18 e18=>ak (wgE Z Z Z hg8) Z Z (aX Z) (kk8 _ _ (kx Z (kx Z (kx Z (kx Z k0)))) Z (Ext.refl.trans e18)))))) (fun w17 e17=>?_)))))))));have H10:=H9.to e17;refine sV Z (ew Z Z) (aa (bI Z (fun c1=>?_) (fun c1=>?_)))
 ·refine ab (rA hQ results135 Z ?_);exact ⟨H10.ext,Shape.no (by simpa only [Shape.ok,cOK,rOK,Bool.not_and,Bool.or_assoc] using c1)⟩
 ·refine ah (ab (rA hQ results135 Z ?_));exact ⟨H10.ext,Shape.yes (by simpa only [Shape.ok,cOK,rOK,Bool.not_and,Bool.or_assoc] using c1)⟩
end Go.Wk
namespace Go.Wk
open Go.Proofs Rp Go.Proofs.Tryz
set_option maxRecDepth 10000
theorem nY {w:World}{b:ByteArray}(hb:b.size≤maxLen):Ret Tryz.prog 105 #[.string b] w fun v w'=>Ext No w w'∧(v = .int .i64 (cW b)):=by
 unfold maxLen at hb;refine aC (vs:=[.string b]) func105 Z ntmps105 Z (fun Q hQ hN=>?_);have H0:=Sep.start (w:=w) (F:=[]) (by simp);refine ab (sA Z Z (aa (ac (ab (sM Z Z (sV Z (nE tu9 Z) (sR 2 Z (bp 3 (j:=3) (want:=false) (t:=10) Z Z Z Z (fun hg1 kk1=>ak (wgE Z Z Z hg1) Z Z (aD Z) (ak (wgE Z Z Z hg1) Z Z (nE tu9 Z) (ak (wgE Z Z Z hg1) Z Z (dA Z Z) (kk1 _ _ (kx Z (kx Z (kx Z k0))) Z Ext.refl)))) (fun w1 e1=>?_)))))))));have H1:=H0.to e1;refine sV Z (ew Z Z) (sM Z Z (bp 3 (j:=8) (want:=false) (t:=15) Z Z Z Z (fun hg2 kk2=>ak (wgE Z Z Z hg2) Z Z (aD Z) (ak (wgE Z Z Z hg2) Z Z (fw tu9 Z Z 0 (by omega) (by first | omega | (simp only [Bool.or_eq_false_iff,Bool.and_eq_true,Bool.and_eq_false_iff,Bool.or_eq_true,Bool.not_eq_true',Bool.not_eq_false',decide_eq_true_eq,decide_eq_false_iff_not] at hg2; omega))) (ak (wgE Z Z Z hg2) Z Z (aN Z Z) (kk2 _ _ (kx Z (kx Z (kx Z k0))) Z Ext.refl)))) (fun w2 e2=>?_)));have H2:=H1.to e2;refine sV Z (ew Z Z) (sM Z Z (bp 3 (j:=13) (want:=false) (t:=20) Z Z Z Z (fun hg3 kk3=>ak (wgE Z Z Z hg3) Z Z (aD Z) (ak (wgE Z Z Z hg3) Z Z (fw tu9 Z Z 0 (by omega) (by first | omega | (simp only [Bool.or_eq_false_iff,Bool.and_eq_true,Bool.and_eq_false_iff,Bool.or_eq_true,Bool.not_eq_true',Bool.not_eq_false',decide_eq_true_eq,decide_eq_false_iff_not] at hg3; omega))) (ak (wgE Z Z Z hg3) Z Z (dA Z Z) (kk3 _ _ (kx Z (kx Z (kx Z k0))) Z Ext.refl)))) (fun w3 e3=>?_)));have H3:=H2.to e3;refine sV Z (ew Z Z) (aa (bI Z (fun c1=>?_) (fun c1=>?_)))
 ·refine ab (sA Z Z (aa (rT hQ results105 Z (⟨H3.ext,te ?_⟩))))
  by_cases hs:1≤b.size∧b.size≤8
  ·refine pa 0 (by omega) ?_;simp only [yk,Bool.or_eq_true,Bool.or_eq_false_iff,Bool.and_eq_true,Bool.and_eq_false_iff,decide_eq_true_eq,decide_eq_false_iff_not] at c1 ⊢;simp
   omega
  ·simp [kA]; omega
 ·refine ah (ac (ab (sA Z Z (aa (ao ?_)))));simp only [Bool.or_eq_true,Bool.or_eq_false_iff,Bool.and_eq_true,Bool.and_eq_false_iff,decide_eq_true_eq,decide_eq_false_iff_not] at c1;refine ba (γ:=Nat) (fun k=>[(0,.string b),(3,.int .i64 k)]) (fun k w'=>Sep No w [] [] w'∧k≤b.size∧yd b k=true) (fun k=>b.size-k) 0 ⟨Z,Z,trivial⟩ ⟨H3,by omega,Z⟩ (fun k w4 H4=>?_);obtain ⟨H4,hk,hok⟩:=H4;refine ac (ab (sR 2 Z (sV Z (nE tu9 Z) (sV Z (aN Z Z) (aa (ay Z (fun c2=>?_) (fun c2=>?_)))))))
  ·refine ah (ac (ao (ab (sR 2 Z (sV Z (fw tu9 Z Z k (by omega) (by omega)) (sR 2 Z (bp 4 (j:=4) (want:=false) (t:=36) Z Z Z Z (fun hg4 kk4=>ak (wgE Z Z Z hg4) Z Z (aD Z) (ak (wgE Z Z Z hg4) Z Z (aD Z) (ak (wgE Z Z Z hg4) Z Z (fw tu9 Z Z k (by omega) (by first | omega | (simp only [Bool.or_eq_false_iff,Bool.and_eq_true,Bool.and_eq_false_iff,Bool.or_eq_true,Bool.not_eq_true',Bool.not_eq_false',decide_eq_true_eq,decide_eq_false_iff_not] at hg4; omega))) (ak (wgE Z Z Z hg4) Z Z (dA Z Z) (kk4 _ _ (kx Z (kx Z (kx Z (kx Z k0)))) Z Ext.refl))))) (fun w5 e4=>?_))))))));have H5:=H4.to e4;refine sV Z (ew Z Z) (sM Z Z (bp 10 (j:=10) (want:=true) (t:=48) Z Z Z Z (fun hg5 kk5=>ak (wgE Z Z Z hg5) Z Z (aD Z) (ak (wgE Z Z Z hg5) Z Z (aD Z) (ak (wgE Z Z Z hg5) Z Z (fw tu9 Z Z k (by omega) (by first | omega | (simp only [Bool.or_eq_false_iff,Bool.and_eq_true,Bool.and_eq_false_iff,Bool.or_eq_true,Bool.not_eq_true',Bool.not_eq_false',decide_eq_true_eq,decide_eq_false_iff_not] at hg5; omega))) (ak (wgE Z Z Z hg5) Z Z (aN Z Z) (ak (wgE Z Z Z hg5) Z Z (aD Z) (bp 4 (j:=15) (want:=false) (t:=47) Z Z Z Z (fun hg6 kk6=>ak (wgE Z Z Z hg6) Z Z (aD Z) (ak (wgE Z Z Z hg6) Z Z (aD Z) (ak (wgE Z Z Z hg6) Z Z (fw tu9 Z Z k (by omega) (by first | omega | (simp only [Bool.or_eq_false_iff,Bool.and_eq_true,Bool.and_eq_false_iff,Bool.or_eq_true,Bool.not_eq_true',Bool.not_eq_false',decide_eq_true_eq,decide_eq_false_iff_not] at hg5 hg6; omega))) (ak (wgE Z Z Z hg6) Z Z (dA Z Z) (kk6 _ _ (kx Z (kx Z (kx Z (kx Z k0)))) Z Ext.refl))))) (fun w7 e6=>ak (wgE Z Z Z hg5) Z Z (ew Z Z) (kk5 _ _ (kx Z (kx Z (kx Z (kx Z (kx Z (kx Z (kx Z k0))))))) Z (Ext.refl.trans e6))))))))) (fun w6 e5=>?_)));have H7:=H5.to e5;refine sV Z (bb Z Z) (aa (bI Z (fun c3=>?_) (fun c3=>?_)))
   ·refine ab (sA Z Z (aa (rT hQ results105 Z (⟨H7.ext,te (pa k (by omega) ?_)⟩))));simp only [yk,Bool.or_eq_true,Bool.or_eq_false_iff,Bool.and_eq_true,Bool.and_eq_false_iff,decide_eq_true_eq,decide_eq_false_iff_not] at c3 ⊢
    omega
   ·refine ah (aj (sM Z Z (sV Z (az Z Z iO) (sA Z Z (aa (⟨k+1,⟨Z,Z,trivial⟩,⟨H7,by omega,?_⟩,by dsimp only; omega⟩))))));rw [yd,hok,Bool.true_and];simp only [yk,Bool.or_eq_true,Bool.or_eq_false_iff,Bool.and_eq_true,Bool.and_eq_false_iff,decide_eq_true_eq,decide_eq_false_iff_not] at c3 ⊢;simp only [Bool.not_eq_true',decide_eq_false_iff_not]
    by_cases h0:k=0
    ·subst h0; omega
    ·omega
  ·refine aG (ab (sA Z Z (aa (rT hQ results105 Z (⟨H4.ext,y0 ?_⟩)))));obtain rfl:k=b.size:=by omega
   simp only [kA,hok,Bool.and_true,Bool.or_eq_true,Bool.or_eq_false_iff,Bool.and_eq_true,Bool.and_eq_false_iff,decide_eq_true_eq,decide_eq_false_iff_not]
   omega
theorem nT {w:World}{b:ByteArray}(hb:b.size≤maxLen):Ret Tryz.prog 177 #[.string b] w fun v w'=>Ext No w w'∧(v = .int .i64 (cW b)):=by
 unfold maxLen at hb;refine aC (vs:=[.string b]) func177 Z ntmps177 Z (fun Q hQ hN=>?_);have H0:=Sep.start (w:=w) (F:=[]) (by simp);refine ab (sA Z Z (aa (ac (ab (sM Z Z (sV Z (nE tu9 Z) (sM Z Z (aa (ao (ba (γ:=Nat) (fun k=>[(0,.string b),(6,.int .i64 b.size),(7,.int .i64 k)]) (fun k w'=>Sep No w [] [] w'∧k≤b.size∧yd b k=true) (fun k=>b.size-k) 0 ⟨Z,Z,Z,trivial⟩ ⟨H0,by omega,Z⟩ (fun k w1 H1=>?_)))))))))));obtain ⟨H1,hk,hok⟩:=H1;refine ab (sV Z (aN Z Z) (aa (ac (ay Z (fun c1=>?_) (fun c1=>?_)))))
 ·refine ah (ac (ao (ab (sR 2 Z (aa (ab (sR 2 Z (sV Z (fw tu9 Z Z k (by omega) (by omega)) (sR 2 Z (bp 4 (j:=4) (want:=true) (t:=18) Z Z Z Z (fun hg1 kk1=>ak (wgE Z Z Z hg1) Z Z (aD Z) (ak (wgE Z Z Z hg1) Z Z (aD Z) (ak (wgE Z Z Z hg1) Z Z (fw tu9 Z Z k (by omega) (by first | omega | (simp only [Bool.or_eq_false_iff,Bool.and_eq_true,Bool.and_eq_false_iff,Bool.or_eq_true,Bool.not_eq_true',Bool.not_eq_false',decide_eq_true_eq,decide_eq_false_iff_not] at hg1; omega))) (ak (wgE Z Z Z hg1) Z Z (tw Z Z) (kk1 _ _ (kx Z (kx Z (kx Z (kx Z k0)))) Z Ext.refl))))) (fun w2 e1=>?_)))))))))));have H2:=H1.to e1;refine sV Z (bb Z Z) (sA Z Z (aa (ab (sM Z Z (sV Z (aX Z) (sM Z Z (bp 14 (j:=2) (want:=true) (t:=36) Z Z Z Z (fun hg2 kk2=>ak (wgE Z Z Z hg2) Z Z (aD Z) (ak (wgE Z Z Z hg2) Z Z (bB Z Z) (ak (wgE Z Z Z hg2) Z Z (aD Z) (bp 4 (j:=5) (want:=false) (t:=29) Z Z Z Z (fun hg3 kk3=>ak (wgE Z Z Z hg3) Z Z (aD Z) (ak (wgE Z Z Z hg3) Z Z (aD Z) (ak (wgE Z Z Z hg3) Z Z (fw tu9 Z Z k (by omega) (by first | omega | (simp only [Bool.or_eq_false_iff,Bool.and_eq_true,Bool.and_eq_false_iff,Bool.or_eq_true,Bool.not_eq_true',Bool.not_eq_false',decide_eq_true_eq,decide_eq_false_iff_not] at hg2 hg3; omega))) (ak (wgE Z Z Z hg3) Z Z (aN Z Z) (kk3 _ _ (kx Z (kx Z (kx Z (kx Z k0)))) Z Ext.refl))))) (fun w4 e3=>ak (wgE Z Z Z hg2) Z Z (ew Z Z) (ak (wgE Z Z Z hg2) Z Z (aD Z) (bp 4 (j:=11) (want:=false) (t:=35) Z Z Z Z (fun hg4 kk4=>ak (wgE Z Z Z hg4) Z Z (aD Z) (ak (wgE Z Z Z hg4) Z Z (aD Z) (ak (wgE Z Z Z hg4) Z Z (fw tu9 Z Z k (by omega) (by first | omega | (simp only [Bool.or_eq_false_iff,Bool.and_eq_true,Bool.and_eq_false_iff,Bool.or_eq_true,Bool.not_eq_true',Bool.not_eq_false',decide_eq_true_eq,decide_eq_false_iff_not] at hg2 hg4; omega))) (ak (wgE Z Z Z hg4) Z Z (dA Z Z) (kk4 _ _ (kx Z (kx Z (kx Z (kx Z k0)))) Z Ext.refl))))) (fun w5 e4=>ak (wgE Z Z Z hg2) Z Z (ew Z Z) (kk2 _ _ (kx Z (kx Z (kx Z (kx Z (kx Z (kx Z (kx Z (kx Z k0)))))))) Z ((Ext.refl.trans e3).trans e4)))))))))) (fun w3 e2=>?_))))))));have H5:=H2.to e2;refine sV Z (bb Z Z) (aa (bI Z (fun c2=>?_) (fun c2=>?_)))
  ·refine ab (sA Z Z (aa (rT hQ results177 Z (⟨H5.ext,te (pa k (by omega) ?_)⟩))));simp only [yk,Bool.or_eq_true,Bool.or_eq_false_iff,Bool.and_eq_true,Bool.and_eq_false_iff,decide_eq_true_eq,decide_eq_false_iff_not,Bool.not_eq_true',Bool.not_eq_false'] at c2 ⊢
   omega
  ·refine ah (aj (sV Z (az Z Z iO) (sM Z Z (aa (⟨k+1,⟨Z,Z,Z,trivial⟩,⟨H5,by omega,?_⟩,by dsimp only; omega⟩)))));rw [yd,hok,Bool.true_and];simp only [yk,Bool.or_eq_true,Bool.or_eq_false_iff,Bool.and_eq_true,Bool.and_eq_false_iff,decide_eq_true_eq,decide_eq_false_iff_not,Bool.not_eq_true',Bool.not_eq_false'] at c2 ⊢
   omega
 ·refine aG (ac (ab (sM Z Z (sV Z (nE tu9 Z) (sE func130 cw Z bm H1 (fun w6 e5 H6=>sV Z (aX Z) (aa (bI Z (fun c3=>?_) (fun c3=>?_)))))))))
  ·refine ab (sA Z Z (aa (rT hQ results177 Z (⟨H6.ext,te ?_⟩))));have c4:=cN c3;rw [Hp] at c4;simp [kA]
   omega
  ·refine ah (ab (sA Z Z (aa (rT hQ results177 Z (⟨H6.ext,y0 ?_⟩)))));have c4:=aE c3;rw [bQ] at c4;obtain rfl:k=b.size:=by omega
   simp only [kA,hok,Bool.and_true,Bool.or_eq_true,Bool.or_eq_false_iff,Bool.and_eq_true,Bool.and_eq_false_iff,decide_eq_true_eq,decide_eq_false_iff_not]
   omega
theorem df {w:World}{s:Shape}(hs:s.ok=true):Ret Tryz.prog 187 #[s.v] w fun v w'=>Ext No w w'∧(v = .int .i64 (s.Groups+s.Column)):=by
 have sbd:=bt hs;refine aC (vs:=[s.v]) func187 Z ntmps187 Z (fun Q hQ hN=>?_);have H0:=Sep.start (w:=w) (F:=[]) (by simp);refine ab (aZ (wn Z) Z Z H0 (fun b1 w1 e1 g1 H1=>sA Z Z (aa (ab (sF br Z ts2 (sLd tu2 (H1.box 0 Z) Z (sF br Z ts2 (sLd tu2 (H1.box 0 Z) Z (sV Z (az Z Z iO) (rA hQ results187 Z ?_))))))))));exact ⟨H1.ext,Z⟩
theorem dH {w:World}{s:Shape}(hs:s.ok=true):Ret Tryz.prog 136 #[s.v] w fun v w'=>Ext No w w'∧(v = .int .i64 (s.Groups+s.Column)):=by
 have sbd:=bt hs;refine aC (vs:=[s.v]) func136 Z ntmps136 Z (fun Q hQ hN=>?_);have H0:=Sep.start (w:=w) (F:=[]) (by simp);refine ab (aZ (wn Z) Z Z H0 (fun b1 w1 e1 g1 H1=>sA Z Z (aa (ab (sF br Z ts2 (sLd tu2 (H1.box 0 Z) Z (sF br Z ts2 (sLd tu2 (H1.box 0 Z) Z (sV Z (az Z Z iO) (rA hQ results136 Z ?_))))))))));exact ⟨H1.ext,Z⟩
theorem dz {w:World}{s:Shape}{x:Int}(hs:s.ok=true):Ret Tryz.prog 131 #[s.v,.int .i64 x] w fun v w'=>Ext No w w'∧(v = .bool (ins x 0 (s.Groups+s.Column-1))):=by
 have sbd:=bt hs;refine aC (vs:=[s.v,.int .i64 x]) func131 Z ntmps131 Z (fun Q hQ hN=>?_);have H0:=Sep.start (w:=w) (F:=[]) (by simp);refine ab (aZ (wn Z) Z Z H0 (fun b1 w1 e1 g1 H1=>sA Z Z (aa (ab (sM Z Z (sV Z (an br Z cj Z Z (At.whole (H1.box 0 Z))) (sE func136 jE Z (dH (by assumption)) H1 (fun w2 e2 H2=>sV Z (bn Z Z iO) (sE func130 cw Z bm H2 (fun w3 e3 H3=>rA hQ results131 Z ?_))))))))));exact ⟨H3.ext,Z⟩
theorem qj {w:World}{s:Shape}  : Ret Tryz.prog 81 #[s.v] w fun v w'=>Ext No w w'∧(v=s.v):=by
 refine aC (vs:=[s.v]) func81 Z ntmps81 Z (fun Q hQ hN=>?_);have H0:=Sep.start (w:=w) (F:=[]) (by simp);refine ab (aZ (wn Z) Z Z H0 (fun b1 w1 e1 g1 H1=>bW (wn Z) Z zeroValue30 H1 (fun b2 w2 e2 g2 H2=>aa (ab (bW (wn Z) Z zeroValue30 H2 (fun b3 w3 e3 g3 H3=>aa (ab (sF u9 Z ts2 (sLd tu2 (H3.box 0 Z) Z (sF br Z ts2 (bR (wn Z) ts2 Z Z Z H3 2 Z Z (fun w4 e4 H4=>?_))))))))))));dsimp only[lNA,lCA,lSZ,lSS,aL] at H4;refine aa (ab (sF u9 Z ts2 (sLd tu2 (H4.box 0 Z) Z (sF br Z ts2 (bR (wn Z) ts2 Z Z Z H4 2 Z Z (fun w5 e5 H5=>?_))))));dsimp only[lNA,lCA,lSZ,lSS,aL] at H5;refine aa (ab (sF u9 Z ts2 (sLd tu2 (H5.box 0 Z) Z (sF br Z ts2 (bR (wn Z) ts2 Z Z Z H5 2 Z Z (fun w6 e6 H6=>?_))))));dsimp only[lNA,lCA,lSZ,lSS,aL] at H6;refine aa (ab (sF u9 Z ts2 (sLd tu2 (H6.box 0 Z) Z (sF br Z ts2 (bR (wn Z) ts2 Z Z Z H6 2 Z Z (fun w7 e7 H7=>?_))))));dsimp only[lNA,lCA,lSZ,lSS,aL] at H7;refine aa (ab (sF u9 Z ts2 (sLd tu2 (H7.box 0 Z) Z (sF br Z ts2 (bR (wn Z) ts2 Z Z Z H7 2 Z Z (fun w8 e8 H8=>?_))))));dsimp only[lNA,lCA,lSZ,lSS,aL] at H8;refine aa (ab (sF u9 Z ts2 (sLd tu2 (H8.box 0 Z) Z (sF br Z ts2 (bR (wn Z) ts2 Z Z Z H8 2 Z Z (fun w9 e9 H9=>?_))))));dsimp only[lNA,lCA,lSZ,lSS,aL] at H9;refine aa (ab (sF u9 Z ts2 (sLd tu2 (H9.box 0 Z) Z (sF br Z ts2 (bR (wn Z) ts2 Z Z Z H9 2 Z Z (fun w10 e10 H10=>?_))))));dsimp only[lNA,lCA,lSZ,lSS,aL] at H10;refine aa (ab (sF u9 Z ts2 (sLd tu2 (H10.box 0 Z) Z (sF br Z ts2 (bR (wn Z) ts2 Z Z Z H10 2 Z Z (fun w11 e11 H11=>?_))))));dsimp only[lNA,lCA,lSZ,lSS,aL] at H11;refine aa (ab (sF u9 Z ts2 (sLd tu2 (H11.box 0 Z) Z (sF br Z ts2 (bR (wn Z) ts2 Z Z Z H11 2 Z Z (fun w12 e12 H12=>?_))))));dsimp only[lNA,lCA,lSZ,lSS,aL] at H12;refine aa (ab (sV Z (an br Z cj Z Z (At.whole (H12.box 2 Z))) (bc (wn Z) cj Z Z Z Z H12 1 Z Z (fun w13 e13 H13=>?_))));dsimp only[lNA,lCA,lSZ,lSS,aL] at H13;refine aa (bM (hQ _ _ (dI results81 Z (aI br Z cj Z (At.whole (H13.box 1 Z))) ?_)));exact ⟨H13.ext,Z⟩
end Go.Wk
namespace Go.Wk
open Rp (sz own)
theorem xQ (xs:List UInt8):ct xs 0=List.replicate xs.length 0:=by
  refine List.ext_getElem (by simp [ct]) fun i h1 h2=>?_
  simp [ct,fN]
theorem zc {xs ys:List UInt8}{i:Nat}(h:i<xs.length) (h2:i<ys.length):(fU xs ys).getD i 0=xs.getD i 0 ^^^ ys.getD i 0:=by
  simp [fU,List.getD,List.getElem?_zipWith,h,h2]
theorem yq {xs:List UInt8}{m:Nat}(h:xs.length=m):fU xs (List.replicate m 0)=xs:=by
  refine dp (d:=0) (by rw [fL (by simp [h])]) fun k hk=>?_
  rw [fL (by simp [h])] at hk
  rw [zc hk (by simp; omega)]
  have:k<m:=by omega
  simp [List.getD,List.getElem?_replicate,this]
theorem yY {xs:List UInt8}{m:Nat}(h:xs.length=m):fU (List.replicate m 0) xs=xs:=by
  refine dp (d:=0) (by rw [fL (by simp [h])]; simp [h]) fun k hk=>?_
  rw [fL (by simp [h])] at hk
  simp at hk
  rw [zc (by simpa using hk) (by omega)]
  simp [List.getD,List.getElem?_replicate,hk]
theorem Sep.part {M w0 Δ F} {w:World}(h:Sep M w0 Δ F w) (i:Nat) {r:Rsc}(hi:Δ[i]? = some r) (rs:List Rsc) (hrs:∀ q∈rs,q.φ w) (hb:blocks rs=r.fp):Sep M w0 (Δ.set i gone++rs) F w:=by
  have hx:=gM hi h.nd
  have hsub:∀ b,b∈blocks (Δ.set i gone)→b∈blocks Δ:=fun b hb=>by
    rcases dU hi b hb with h | h
    · simp [gone] at h
    · exact h
  have hmem:∀ b∈r.fp,b∈blocks Δ:=fun b hb=>cb.2 ⟨r,List.mem_of_getElem? hi,hb⟩
  refine ⟨h.ext,fun q hq=>?_,?_,fun b hb'=>?_,h.fs,fun q hq b hbq hb'=>?_⟩
  · rcases List.mem_append.1 hq with hq | hq
    · rcases gO (q:=gone) hi h.nd q hq with rfl | ⟨hq,_⟩
      · trivial
      · exact h.rs q hq
    · exact hrs q hq
  · rw [gh,hb]
    refine List.nodup_append.2 ⟨iE hi h.nd (by simp [gone]) (by simp [gone]),h.nodup1 hi,fun x hx1 y hy e=>?_⟩
    subst e
    exact hx x hy hx1
  · rw [gh,hb] at hb'
    rcases List.mem_append.1 hb' with hb' | hb'
    · exact h.new b (hsub b hb')
    · exact h.new b (hmem b hb')
  · rw [gh,hb] at hb'
    rcases List.mem_append.1 hb' with hb' | hb'
    · exact h.ap q hq b hbq (hsub b hb')
    · exact h.ap q hq b hbq (hmem b hb')
end Go.Wk
namespace Go.Wk
open Rp (sz own)
section
variable {P:Program}{n:Nat}{L:Env}{w:World}{d:Option Tmp}{ty:TypeId}{p:String}{af:Array Edge}{g:Option (Nat × Bool)}
theorem fI {f:FuncId}{fn:Func}{x:Operand}{xs:Array Operand}{ats:Array TypeId}{vs lb:List Value}(hx:evL L x=some (.func (.func f) #[] lb.toArray)) (hf:P.funcs[f]? = some fn) (hb:fn.body.isNone=false) (hnm:(fn.name == "runtime.NumGoroutine")=false)
    (hv:jW L xs.toList=some vs):Pc P n L w ⟨d,.call ⟨.value x,xs,ats⟩,ty,p,af,g⟩ f (vs++lb).toArray:=fun a ha=>by
  have hm:xs.map a.eval=vs.toArray:=by
    have key:∀ (l:List Operand) (vs:List Value),jW L l=some vs→l.map a.eval=vs:=by
      intro l
      induction l with
      | nil=>intro vs h; simp [jW] at h; simp [h]
      | cons x l ih=>
        intro vs h
        unfold jW at h
        split at h
        · rename_i v us hv hus
          cases h
          simp [ha.eval hv,ih us hus]
        · cases h
    have:=key _ _ hv
    apply Array.toList_inj.1
    simpa using this
  have hb':¬ fn.body=none:=fun e=>by rw [e] at hb; simp at hb
  have hnm':¬ fn.name = "runtime.NumGoroutine" := fun e=>by rw [e] at hnm; simp at hnm
  simp [execOp,resolve,Deferred.ofValue,invoke,callFunc,hf,hb',hnm',hm,ha.eval hx]
def strB (xs:List UInt8):ByteArray:=⟨xs.toArray⟩
theorem EJ {xs ys:List UInt8}:strB xs=strB ys↔xs=ys:=by
  constructor
  · intro h
    have:(strB xs).data.toList=(strB ys).data.toList:=by rw [h]
    simpa [strB] using this
  · rintro rfl; rfl
theorem vz (xs:List UInt8):(strB xs).size=xs.length:=by simp [strB,ByteArray.size]
theorem IG (xs:List UInt8):strOfNums (xs.map fun x=>(x.toNat:Int))=strB xs:=by
  simp only [strOfNums,strB,List.map_map]
  congr 2
  refine (List.map_congr_left (g:=id) fun a _=>?_).trans (List.map_id xs)
  simp
theorem GB {src e dst:TypeId}(hs:P.underlying src=some (.slice e)) (he:P.underlying e=some (.int .u8)) (hd:P.underlying dst=some .string) {s ad n cap} {xs:List UInt8}{f} (h:own s w [.slice ad n cap] xs f) :
    (convert src dst (.slice ad n cap)).run P w = .ok (.string (strB xs)) w:=by
  obtain rfl:=dG h
  cases ad with
  | none=>
    have:xs=[]:=by
      by_cases h0:0<xs.length
      · obtain ⟨_,_,_,_,e,_⟩:=tn h h0; cases e
      · exact List.eq_nil_of_length_eq_zero (by omega)
    subst this
    rw [run_convert_bytes_nil w src e hs he _ _ dst hd]
    rfl
  | some a=>
    by_cases h0:0<xs.length
    · obtain ⟨b,o,_,_,e1,_⟩:=tn h h0
      cases e1
      rw [run_convert_bytes_arg w src e hs he b o xs.length cap (xs.map fun x=>(x.toNat:Int)) (by simp) (fun i hi=>?_) dst hd,IG]
      obtain ⟨b2,o2,e2,hc⟩:=bZ h i hi
      cases e2
      rw [Nat.mul_one] at hc
      rw [hc]
      simp [List.getD,hi]
    · have:xs=[]:=List.eq_nil_of_length_eq_zero (by omega)
      subst this
      rw [run_convert_bytes_string w src dst e _ _ cap hs he hd,run_bytesToString w _ _ cap [] (by simp [loadCells,loadCellsFrom])]
      rfl
theorem BK {src e dst:TypeId}{x:Operand}{s ad m cap} {xs:List UInt8}{f} (hs:P.underlying src=some (.slice e)) (he:P.underlying e=some (.int .u8)) (hd:P.underlying dst=some .string) (hx:evL L x=some (.slice ad m cap))
    (h:own s w [.slice ad m cap] xs f):Py P n L w ⟨d,.convert src dst x,ty,p,af,g⟩ (.string (strB xs)):=fun a ha=>by
  simp [execOp,ha.eval hx,GB hs he hd h]
end
end Go.Wk
namespace Go.Wk
open Rp (sz own)
def iI {α:Type}(p:α→Bool) (xs:List α):Int:=match xs.findIdx? p with
  | some k=>k
  | none => -1
theorem l0 {α:Type}{p:α→Bool}{xs:List α}{d:α}{k:Nat}(hk:k<xs.length) (h:p (xs.getD k d)=true) (hn:∀ i,i<k→p (xs.getD i d)=false):iI p xs=k:=by
  have:xs.findIdx? p=some k:=by
    rw [List.findIdx?_eq_some_iff_getElem]
    refine ⟨hk,?_,fun j hj=>?_⟩
    · simpa [List.getD,hk] using h
    · have:=hn j hj
      have hj':j<xs.length:=by omega
      simpa [List.getD,hj'] using this
  simp [iI,this]
theorem l5 {α:Type}{p:α→Bool}{xs:List α}{d:α}(hn:∀ i,i<xs.length→p (xs.getD i d)=false):iI p xs = -1:=by
  have:xs.findIdx? p=none:=by
    rw [List.findIdx?_eq_none_iff]
    intro x hx
    obtain ⟨i,hi,rfl⟩:=List.getElem_of_mem hx
    have:=hn i hi
    simpa [List.getD,hi] using this
  simp [iI,this]
theorem kn {α:Type}{p:α→Bool}{xs:List α}:decide (0≤iI p xs)=xs.any p:=by
  unfold iI
  cases h:xs.findIdx? p with
  | none=>
    rw [List.findIdx?_eq_none_iff] at h
    have:xs.any p=false:=by simpa using h
    simp [this]
  | some k=>
    rw [List.findIdx?_eq_some_iff_getElem] at h
    obtain ⟨hk,hp,_⟩:=h
    have:xs.any p=true:=List.any_eq_true.2 ⟨_,List.getElem_mem hk,hp⟩
    simp [this]
end Go.Wk
namespace Go.Wk
open Rp (sz own)
section
variable {P:Program}{n:Nat}{ops:Array Oper}{Q:Post}{S:World→Prop}{L:Env}{w w0:World}{M:Nat→Prop}{Δ F:List Rsc}{i:Nat}{d:Tmp}{ty:TypeId}{p:String}{af:Array Edge}{g:Option (Nat × Bool)}{rest:List (Nat × Bool)}
theorem bY {t:TypeId}{x y:Operand}{b off:Nat}{cs:List Value}{T v} (ho:ops.toList[i]? = some ⟨none,.store t x y,ty,p,af,g⟩) (hw:Wn ops n L ⟨none,.store t x y,ty,p,af,g⟩) (hs:∀ w,(sizeOf t).run P w = .ok 1 w) (hx:evL L x=some (.pointer (some ⟨b,off,none⟩))) (hy:evL L y=some v) (h1:v.oneCell'=true)
    (H:Sep M w0 Δ F w) (j:Nat) (hi:Δ[j]? = some (box b (.cells cs.toArray T))) (hf:Nat.blt off cs.length=true) (hS:∀ w',S w→Ext (· = b) w w'→rest≠[]→S w')
    (k:∀ w',Ext (· = b) w w'→Sep M w0 (Δ.set j (box b (.cells (cs.set off v).toArray T))) F w'→DL P n ops Q S rest L w') :
    DL P n ops Q S ((i,false)::rest) L w:=by
  have h:=k _ (Ext.refl.put (.inl rfl)) (H.put j _ hi)
  rw [← List.setIfInBounds_toArray] at h
  exact yK ho hw rfl (eM hs hx hy h1 (H.box j hi) (by rw [List.size_toArray]; exact Nat.le_of_ble_eq_true hf)) (fun hSw hr=>hS _ hSw (Ext.refl.put (.inl rfl)) hr) h
end
end Go.Wk
namespace Go.Wk
open Rp (sz own)
section
variable {P:Program}{n:Nat}{L:Env}{w:World}{d:Option Tmp}{ty:TypeId}{p:String}{af:Array Edge}{g:Option (Nat × Bool)}
theorem va {t e:TypeId}{a:Option Addr}{m c:Nat}(hu:P.underlying t=some (.slice e)):(binOp .eql t (.slice a m c) (.slice none 0 0)).run P w = .ok (.bool a.isNone) w:=by
  have h:∀ d,(Op.equalIn (d+1) t (.slice a m c) (.slice none 0 0)).run P w = .ok a.isNone w:=by
    intro d; cases a<;>simp [Op.equalIn,run_underlying hu]
  have h2:(Op.equal t (.slice a m c) (.slice none 0 0)).run P w = .ok a.isNone w:=h 9999
  simp only [binOp]
  simp [h2]
theorem ub {t e:TypeId}{x y:Operand}{yt:TypeId}{a:Option Addr}{m c:Nat}(hu:P.underlying t=some (.slice e)) (hx:evL L x=some (.slice a m c)) (hy:evL L y=some (.slice none 0 0)) :
    Py P n L w ⟨d,.binOp .eql t x y yt,ty,p,af,g⟩ (.bool a.isNone):=fun a ha=>by
  simp [execOp,ha.eval hx,ha.eval hy,eqGuard,va hu]
end
theorem tS {α:Type}[Rp α] {s w ad m c} {xs:List α}{f} (h:own s w [.slice ad m c] xs f) (ha:ad.isNone=true):xs=[]:=by
  by_cases h0:0<xs.length
  · obtain ⟨b,o,_,_,e,_⟩:=tn h h0
    subst e; simp at ha
  · exact List.eq_nil_of_length_eq_zero (by omega)
theorem Gu {a b:Int}(h:0≤a) (hb:0<b):0≤a.tdiv b∧a.tdiv b≤a:=by
  rw [Int.tdiv_eq_ediv_of_nonneg h]
  exact ⟨Int.ediv_nonneg h (by omega),Int.ediv_le_self _ h⟩
theorem GN {a b:Int}(h:0≤a) (hb:0<b):0≤a.tmod b∧a.tmod b<b:=⟨Int.tmod_nonneg _ h,Int.tmod_lt_of_pos _ hb⟩
theorem yv {w:World}:∀ {xs:List Int},(∀ x∈xs,I64ok x)→cq true w (xs.map (Value.int .i64)) xs []
  | [],_=>rfl
  | x::xs,h=>⟨[],[],rfl,⟨by simp [sz],rfl,h x (by simp)⟩,by simpa [sz] using yv (w:=w) (xs:=xs) fun y hy=>h y (by simp [hy])⟩
end Go.Wk
namespace Go.Wk
open Rp (sz own)
abbrev Mat:=List (List UInt8)
def entry (m:Mat) (i c:Nat):UInt8:=(m.getD i []).getD c 0
def kT (m:Mat) (c r:Nat):Nat:=r+(m.drop r).findIdx (fun row=>row.getD c 0 != 0)
theorem jv {α:Type}{xs:List α}{r j:Nat}{d:α}:(xs.drop r).getD j d=xs.getD (r+j) d:=by
  simp [List.getD,List.getElem?_drop]
theorem pF {m:Mat}{c r k:Nat}(h1:r≤k) (h2:k≤m.length) (h0:∀ j,r≤j→j<k→entry m j c=0) (hk:k=m.length∨entry m k c≠0):kT m c r=k:=by
  have hl:(m.drop r).length=m.length-r:=List.length_drop
  have e:(m.drop r).findIdx (fun row=>row.getD c 0 != 0)=k-r:=by
    rcases hk with rfl | hk
    · rw [← hl,List.findIdx_eq_length]
      intro x hx
      obtain ⟨j,hj,rfl⟩:=List.getElem_of_mem hx
      have:=h0 (r+j) (by omega) (by omega)
      rw [entry,← jv (d:=[])] at this
      have e:m.getD (r+j) []=m[r+j]'(by omega):=by simp [List.getD,show r+j<m.length by omega]
      rw [jv,e] at this
      simpa using this
    · have hlt:k<m.length:=Decidable.byContradiction fun h=>hk (by
        have:m.getD k []=[]:=by simp [List.getD,List.getElem?_eq_none (Nat.le_of_not_lt h)]
        rw [entry,this]; rfl)
      have hlt':k-r<(m.drop r).length:=by omega
      rw [List.findIdx_eq hlt']
      refine ⟨?_,fun j hj=>?_⟩
      · rw [entry,show k=r+(k-r) by omega,← jv (d:=[])] at hk
        have e:m.getD (r+(k-r)) []=m[r+(k-r)]'(by omega):=by simp [List.getD,show r+(k-r)<m.length by omega]
        rw [jv,e] at hk
        simpa using hk
      · have hj':j<(m.drop r).length:=by omega
        have:=h0 (r+j) (by omega) (by omega)
        rw [entry,← jv (d:=[])] at this
        have e:m.getD (r+j) []=m[r+j]'(by omega):=by simp [List.getD,show r+j<m.length by omega]
        rw [jv,e] at this
        simpa using this
  rw [kT,e]; omega
def vw (m:Mat) (r a:Nat):Mat:=(m.set r (m.getD a [])).set a (m.getD r [])
def kV (m:Mat) (c r a:Nat):Mat:=(m.set a (m.getD r [])).set r (ct (m.getD a []) (mP (entry m a c)))
def cD (m:Mat) (c r k:Nat):Mat:=(List.range m.length).map fun i=>if i<k∧i≠r then fU (m.getD i []) (ct (m.getD r []) (entry m i c)) else m.getD i []
def stepM (m:Mat) (c r:Nat):Mat × Nat:=if m.length≤kT m c r then (m,r) else (cD (kV m c r (kT m c r)) c r m.length,r+1)
def redM (m:Mat):Nat→Mat × Nat
  | 0=>(m,0)
  | c+1=>stepM (redM m c).1 c (redM m c).2
theorem qS {α:Type}{xs:List α}{i j:Nat}{x d:α}:(xs.set i x).getD j d=if j=i∧i<xs.length then x else xs.getD j d:=by
  simp only [List.getD_eq_getElem?_getD,List.getElem?_set]
  by_cases h:i=j
  · subst h
    by_cases h2:i<xs.length
    · simp [h2]
    · simp [h2]
  · rw [if_neg h,if_neg (fun e=>h e.1.symm)]
theorem Bg {m:Mat}{c r k:Nat}:(cD m c r k).length=m.length:=by simp [cD]
theorem Ha {m:Mat}{r a:Nat}(hr:r<m.length) (ha:a<m.length):(vw m r a).getD r []=m.getD a []:=by
  rw [vw,qS,qS]
  by_cases h:r=a
  · subst h; simp [hr]
  · simp [h,hr]
theorem Eg {m:Mat}{c r a:Nat}:(vw m r a).set r (ct (m.getD a []) (mP (entry m a c)))=kV m c r a:=by
  rw [vw,kV]
  by_cases h:r=a
  · subst h; simp
  · rw [List.set_comm _ _ h,List.set_set]
theorem rS {m:Mat}{c r:Nat}:cD m c r 0=m:=by
  refine List.ext_getElem (by simp [cD]) fun i h1 h2=>?_
  simp [cD,List.getD,h2]
theorem oR {m:Mat}{c r k i:Nat}(hi:i<m.length):(cD m c r k).getD i []=if i<k∧i≠r then fU (m.getD i []) (ct (m.getD r []) (entry m i c)) else m.getD i []:=by
  simp [cD,List.getD,hi]
theorem qP {m:Mat}{c r k:Nat}(hk:k<m.length):(cD m c r k).getD k []=m.getD k []:=by rw [oR hk,if_neg (by omega)]
theorem xI {m:Mat}{c r k:Nat}(hr:r<m.length):(cD m c r k).getD r []=m.getD r []:=by rw [oR hr,if_neg (by omega)]
theorem uv {m:Mat}{c r k:Nat}(hk:k<m.length) (hn:k≠r) {z:List UInt8}(hz:z=fU (m.getD k []) (ct (m.getD r []) (entry m k c))):(cD m c r k).set k z=cD m c r (k+1):=by
  refine List.ext_getElem (by simp [cD]) fun i h1 h2=>?_
  rw [List.getElem_set]
  simp only [cD,List.getElem_map,List.getElem_range]
  by_cases e:k=i
  · subst e
    rw [if_pos rfl,if_pos ⟨by omega,hn⟩,hz]
  · rw [if_neg e]
    by_cases h3:i<k∧i≠r
    · rw [if_pos h3,if_pos ⟨by omega,h3.2⟩]
    · rw [if_neg h3,if_neg (by omega)]
theorem sc {m:Mat}{c r k:Nat}(hn:k=r∨cD m c r (k+1)=cD m c r k):cD m c r k=cD m c r (k+1):=by
  rcases hn with rfl | h
  · refine List.ext_getElem (by simp [cD]) fun i h1 h2=>?_
    simp only [cD,List.getElem_map,List.getElem_range]
    by_cases h3:i<k∧i≠k
    · rw [if_pos h3,if_pos (by omega)]
    · rw [if_neg h3,if_neg (by omega)]
  · exact h.symm
def Rect (m:Mat) (k l:Nat):Prop:=m.length=k∧∀ i,i<k→(m.getD i []).length=l
theorem xo {m:Mat}{c r k K l:Nat}(hR:Rect m K l) (hk:k<K) (hr:r<K) (h:entry m k c=0):cD m c r k=cD m c r (k+1):=by
  obtain ⟨h1,h2⟩:=hR
  refine List.ext_getElem (by simp [cD]) fun i h3 h4=>?_
  simp only [cD,List.getElem_map,List.getElem_range]
  by_cases h5:i<k∧i≠r
  · rw [if_pos h5,if_pos ⟨by omega,h5.2⟩]
  · rw [if_neg h5]
    by_cases h6:i<k+1∧i≠r
    · obtain rfl:i=k:=by omega
      rw [if_pos h6,h,xQ,yq]
      rw [h2 _ hk,h2 _ hr]
    · rw [if_neg h6]
theorem Rect.set {m:Mat}{K l i:Nat}{x:List UInt8}(h:Rect m K l) (hx:x.length=l):Rect (m.set i x) K l:=by
  refine ⟨by simpa using h.1,fun j hj=>?_⟩
  rw [qS]
  split
  · exact hx
  · exact h.2 j hj
theorem Rect.swap {m:Mat}{K l r a:Nat}(h:Rect m K l) (hr:r<K) (ha:a<K):Rect (vw m r a) K l:=(h.set (h.2 a ha)).set (h.2 r hr)
theorem Rect.norm {m:Mat}{K l c r a:Nat}(h:Rect m K l) (hr:r<K) (ha:a<K):Rect (kV m c r a) K l:=(h.set (h.2 r hr)).set (by rw [dD]; exact h.2 a ha)
theorem Rect.elim {m:Mat}{K l c r k:Nat}(h:Rect m K l) (hr:r<K):Rect (cD m c r k) K l:=by
  refine ⟨by rw [Bg]; exact h.1,fun i hi=>?_⟩
  rw [oR (by rw [h.1]; exact hi)]
  split
  · rw [fL (by rw [dD,h.2 i hi,h.2 r hr]; exact Nat.le_refl _)]; exact h.2 i hi
  · exact h.2 i hi
theorem yl {m:Mat}{c r:Nat}:r≤kT m c r:=Nat.le_add_right _ _
theorem Rect.step {m:Mat}{K l c r:Nat}(h:Rect m K l) (hr:r≤K):Rect (stepM m c r).1 K l∧(stepM m c r).2≤K:=by
  unfold stepM
  split
  · exact ⟨h,hr⟩
  · rename_i hp
    have h1:=h.1
    have:=yl (m:=m) (c:=c) (r:=r)
    exact ⟨(h.norm (by omega) (by omega)).elim (by omega),by show r+1≤K; omega⟩
theorem Rect.red {m:Mat}{K l:Nat}(h:Rect m K l):∀ n,Rect (redM m n).1 K l∧(redM m n).2≤K
  | 0=>⟨h,Nat.zero_le _⟩
  | n+1=>(h.red n).1.step (h.red n).2
theorem FI {m:Mat}{c:Nat}(h:(redM m c).2=(redM m c).1.length):∀ n,c≤n→redM m n=redM m c:=by
  intro n hn
  induction n with
  | zero=>have e:c=0:=(by omega); rw [e]
  | succ n ih=>
    by_cases e:c=n+1
    · rw [e]
    · have ih:=ih (by omega)
      show stepM (redM m n).1 n (redM m n).2=_
      rw [ih,stepM,if_pos (by rw [← h]; exact yl)]
section
variable {β:Type}[Rp β]
theorem dc {w ad n cap} {vs:List View}{xss:List (List β)}{f g s} (h:own s w [.slice ad n cap] vs f) (hr:cq false w (vs.map View.val) xss g) (hl:vs.length=xss.length) (k:Nat) (hk:k<xss.length) :
    ∃ b o a c fk,ad=some ⟨b,o,none⟩∧w.cell? ⟨b,o+k*1,none⟩=some (.slice a (xss.getD k []).length c)∧own false w [.slice a (xss.getD k []).length c] (xss.getD k []) fk∧(∀ b∈fk,b∈g)∧b∈f:=by
  obtain ⟨b,o,cs,fe,h1,h2,h3,_,h5⟩:=fc h k (by omega)
  obtain ⟨fk,h6,h7⟩:=hr.get k hk
  have e3:cs=[(vs[k]'(by omega)).val]:=h3.1
  have hkm:k<(vs.map View.val).length:=by simp; omega
  have e:((vs.map View.val).drop (k*sz (List β))).take (sz (List β))=[(vs[k]'(by omega)).val]:=by
    show ((vs.map View.val).drop (k*1)).take 1=_
    rw [Nat.mul_one,List.drop_eq_getElem_cons hkm,List.take_succ_cons,List.take_zero]
    simp
  rw [e] at h6
  obtain ⟨a,c,e2⟩:=ax h6
  rw [e2] at h6
  rw [show xss.getD k []=xss[k] from by simp [List.getD,hk]]
  refine ⟨b,o,a,c,fk,h1,?_,h6,h7,h5⟩
  have:=h2 0 _ (by rw [e3,e2]; rfl)
  exact this
theorem FR {w:World}{vs:List View}{xss:List (List β)}{g:List Nat}(h:cq false w (vs.map View.val) xss g) (hl:vs.length=xss.length) {u:View}{y:List β}{fy} (hy:own false w [u.val] y fy) :
    ∀ k,k<xss.length→∃ g',cq false w ((vs.set k u).map View.val) (xss.set k y) g'∧∀ b∈g',b∈g∨b∈fy:=by
  induction vs generalizing xss g with
  | nil=>intro k hk; simp at hl; omega
  | cons v vs ih=>
    intro k hk
    cases xss with
    | nil=>simp at hl
    | cons x xss=>
      obtain ⟨f1,f2,e,h1,h2⟩:=h
      subst e
      have h1':own false w [v.val] x f1:=by simpa [sz] using h1
      have h2':cq false w (vs.map View.val) xss f2:=by simpa [sz] using h2
      cases k with
      | zero=>
        refine ⟨fy++f2,⟨fy,f2,rfl,?_,?_⟩,fun b hb=>?_⟩
        · simpa [sz] using hy
        · simpa [sz] using h2'
        · rcases List.mem_append.1 hb with hb | hb
          · exact .inr hb
          · exact .inl (by simp [hb])
      | succ k=>
        obtain ⟨g',hg,hs⟩:=ih h2' (by simpa using hl) k (by simpa using hk)
        refine ⟨f1++g',⟨f1,g',rfl,?_,?_⟩,fun b hb=>?_⟩
        · simpa [sz] using h1'
        · simpa [sz] using hg
        · rcases List.mem_append.1 hb with hb | hb
          · exact .inl (by simp [hb])
          · rcases hs b hb with hb | hb
            · exact .inl (by simp [hb])
            · exact .inr hb
variable {M:Nat→Prop}{w0 w:World}{Δ F:List Rsc}
theorem Sep.rowsAt (h:Sep M w0 Δ F w) (j:Nat) {vs:List View}{xss:List (List β)}{g} (hj:F[j]? = some (rows vs xss g)):cq false w (vs.map View.val) xss g:=h.fs _ (List.mem_of_getElem? hj)
theorem Sep.lookR (h:Sep M w0 Δ F w) (j:Nat) {vs:List View}{xss:List (List β)}{g} (hj:F[j]? = some (rows vs xss g)) {s cs f} {y:List β}(ho:own s w cs y f) (hs:∀ b∈f,b∈g):Sep M w0 Δ (F++[Wk.seen s cs y f]) w:=
  h.look (r:=Wk.seen s cs y f) ho fun b hb=>h.ap _ (List.mem_of_getElem? hj) b (hs b hb)
theorem Sep.fset (h:Sep M w0 Δ F w) (j:Nat) {r:Rsc}(hr:r.φ w) (hd:∀ b∈r.fp,b ∉ blocks Δ):Sep M w0 Δ (F.set j r) w:=
  h.fto fun q hq=>by
    rcases List.mem_or_eq_of_mem_set hq with hq | rfl
    · exact ⟨h.fs q hq,h.ap q hq⟩
    · exact ⟨hr,hd⟩
theorem Sep.rowSet {s:Bool}(h:Sep M w0 Δ F w) (i j e:Nat) {ad n cap} {vs:List View}{xss:List (List β)}{f g} (hi:Δ[i]? = some (Wk.mine [.slice ad n cap] vs f)) (hj:F[j]? = some (rows vs xss g)) {a m c} {y:List β}{fy} (he:F[e]? = some (Wk.seen s [.slice a m c] y fy))
    (hl:vs.length=xss.length) (k:Nat) (hk:k<xss.length) :
    ∃ b o cur T,ad=some ⟨b,o,none⟩∧w.heap[b]? = some (.cells cur T (0,0))∧o+k<cur.size∧b∈f ∧
      ∃ f' g',Sep M w0 (Δ.set i (Wk.mine [.slice ad n cap] (vs.set k ⟨a,m,c⟩) f')) (F.set j (rows (vs.set k ⟨a,m,c⟩) (xss.set k y) g')) (Wk.put w b (.cells (cur.setIfInBounds (o+k) (.slice a m c)) T (0,0))):=by
  obtain ⟨b,o,cur,T,e1,hb,hsz,hs⟩:=h.elset i hi k (by omega)
  obtain ⟨b2,o2,_,_,e2,_,_,_,hbf⟩:=fc (h.mine i hi) k (by omega)
  rw [e1] at e2; cases e2
  have hs1:(sz View)=1:=rfl
  rw [hs1] at hsz hs
  obtain ⟨f',H⟩:=hs [.slice a m c] ⟨a,m,c⟩ ⟨rfl,rfl⟩
  have e3:lay cur (o+k*1) [.slice a m c]=cur.setIfInBounds (o+k) (.slice a m c):=by rw [Nat.mul_one]; rfl
  rw [e3] at H
  obtain ⟨g',hg,hgs⟩:=FR (u:=⟨a,m,c⟩) (H.rowsAt j hj) hl (aT (H.seen e he)) k hk
  refine ⟨b,o,cur,T,e1,hb,by omega,hbf,f',g',H.fset j hg fun x hx=>?_⟩
  rcases hgs x hx with hx | hx
  · exact H.ap _ (List.mem_of_getElem? hj) x hx
  · exact H.ap _ (List.mem_of_getElem? he) x hx
theorem Sep.parted (h:Sep M w0 Δ F w) (i:Nat) {ad n cap} {xss:List (List β)}{f} (hi:Δ[i]? = some (Wk.mine [.slice ad n cap] xss f)) :
    ∃ vs f' g,vs.length=xss.length∧Sep M w0 (Δ.set i (Wk.mine [.slice ad n cap] (vs:List View) f')) (F++[rows vs xss g]) w:=by
  have hn:=h.nodup1 hi
  have key:∃ (vs:List View) (f' g:List Nat),vs.length=xss.length∧own true w [.slice ad n cap] vs f'∧cq false w (vs.map View.val) xss g∧(∀ x∈f',x∈f)∧f'.Nodup∧(∀ x∈g,x∈f∧x ∉ f'):=by
    rcases h.mine i hi with ⟨h1,_⟩ | ⟨h1,rfl,rfl⟩ | ⟨b,o,cap',cur,T,fr,fs,h1,h2,h3,h4,h5,h6,h7,h8⟩
    · cases h1
    · exact ⟨[],[],[],rfl,.inr (.inl ⟨h1,rfl,rfl⟩),rfl,by simp,.nil,by simp⟩
    · subst h2
      have hlen:((cur.toList.drop o).take xss.length).length=xss.length:=by
        have e:cur.toList.length=cur.size:=by simp
        have:sz (List β)=1:=rfl
        rw [this] at h7
        rw [List.length_take,List.length_drop]; omega
      have h9:cq true w ((cur.toList.drop o).take xss.length) xss fs:=h8.congr (by show List.take (xss.length*1) _=List.take (xss.length*1) _; rw [Nat.mul_one,List.take_take,Nat.min_self])
      obtain ⟨vs,e1,e2⟩:=uj h9 hlen
      rw [e1] at h9
      have hb:b ∉ fs:=(List.nodup_cons.1 hn).1
      refine ⟨vs,[b],fs,e2,.inr (.inr ⟨b,o,cap',cur,T,fr,[],by rw [h1,e2],rfl,h3,h4,by omega,h6,h7,?_⟩),h9.weak',by simp,by simp,fun x hx=>⟨by simp [hx],by simp; exact fun e=>hb (e ▸ hx)⟩⟩
      refine (wR (w:=w) (vs:=vs) (s:=true)).congr ?_
      show List.take (vs.length*1) _=List.take (vs.length*1) _
      rw [Nat.mul_one,← e1,e2,List.take_take,Nat.min_self]
  obtain ⟨vs,f',g,k1,k2,k3,k4,k5,k6⟩:=key
  have H:=h.set hi (q:=Wk.mine [.slice ad n cap] vs f') Ext.refl k2 k5 fun x hx => .inl (k4 x hx)
  refine ⟨vs,f',g,k1,H.look (r:=rows vs xss g) k3 fun x hx hm=>?_⟩
  have hx':=k6 x hx
  obtain ⟨r,hr,hxr⟩:=cb.1 hm
  rcases gO hi h.nd r hr with rfl | ⟨_,hr2⟩
  · exact hx'.2 hxr
  · exact hr2 x hxr hx'.1
end
section
variable {P:Program}{n:Nat}{ops:Array Oper}{Q:Post}{L:Env}{w w0:World}{M:Nat→Prop}{Δ F:List Rsc}{d:Tmp}{ty:TypeId}{p:String}{af:Array Edge}{g:Option (Nat × Bool)}{rest:List Oper}{β:Type}[Rp β]
theorem xJ {t:TypeId}{x y:Operand}{b off:Nat}{ad:Option Addr}{len cap:Nat}{vs:List View}{xss:List (List β)}{f gg:List Nat}{s a m c} {z:List β}{fy} (hw:Wn ops n L ⟨none,.store t x y,ty,p,af,g⟩) (hs:∀ w,(sizeOf t).run P w = .ok 1 w)
    (H:Sep M w0 Δ F w) (i j e:Nat) (hi:Δ[i]? = some (mine [.slice ad len cap] vs f)) (hj:F[j]? = some (rows vs xss gg)) (he:F[e]? = some (seen s [.slice a m c] z fy)) (hl:vs.length=xss.length) (k:Nat) (hk:k<xss.length)
    (hx:evL L x=some (.pointer (some ⟨b,off+k*1,none⟩))) (had:ad=some ⟨b,off,none⟩) (hy:evL L y=some (.slice a m c))
    (kk:∀ w' f' g',Sep M w0 (Δ.set i (mine [.slice ad len cap] (vs.set k ⟨a,m,c⟩) f')) (F.set j (rows (vs.set k ⟨a,m,c⟩) (xss.set k z) g')) w'→RL P n ops Q rest L w') :
    RL P n ops Q (⟨none,.store t x y,ty,p,af,g⟩::rest) L w:=by
  obtain ⟨b',o',cur,T,e1,hb,hsz,_,f',g',h⟩:=H.rowSet i j e hi hj he hl k hk
  rw [had] at e1
  simp only [Option.some.injEq,Addr.mk.injEq,and_true] at e1
  obtain ⟨rfl,rfl⟩:=e1
  rw [Nat.mul_one] at hx
  exact xV hw rfl (eM hs hx hy rfl hb hsz) (kk _ f' g' h)
end
section
variable {P:Program}{n:Nat}{ops:Array Oper}{Q:Post}{S:World→Prop}{L:Env}{w w0:World}{M:Nat→Prop}{Δ F:List Rsc}{l:Nat}{d:Tmp}{ty:TypeId}{p:String}{af:Array Edge}{g:Option (Nat × Bool)}{rest:List (Nat × Bool)}{β:Type}[Rp β]
theorem mU {t:TypeId}{x y:Operand}{b off:Nat}{ad:Option Addr}{len cap:Nat}{vs:List View}{xss:List (List β)}{f gg:List Nat}{s a m c} {z:List β}{fy} (ho:ops.toList[l]? = some ⟨none,.store t x y,ty,p,af,g⟩) (hw:Wn ops n L ⟨none,.store t x y,ty,p,af,g⟩) (hs:∀ w,(sizeOf t).run P w = .ok 1 w)
    (H:Sep M w0 Δ F w) (i j e:Nat) (hi:Δ[i]? = some (mine [.slice ad len cap] vs f)) (hj:F[j]? = some (rows vs xss gg)) (he:F[e]? = some (seen s [.slice a m c] z fy)) (hl:vs.length=xss.length) (k:Nat) (hk:k<xss.length)
    (hx:evL L x=some (.pointer (some ⟨b,off+k*1,none⟩))) (had:ad=some ⟨b,off,none⟩) (hy:evL L y=some (.slice a m c)) (hS:∀ (b o:Nat) (cur:Array Value) (T:TypeId),ad=some ⟨b,o,none⟩→w.heap[b]? = some (.cells cur T (0,0))→o+k<cur.size→S w→rest≠[]→S (put w b (.cells (cur.setIfInBounds (o+k) (.slice a m c)) T (0,0))))
    (kk:∀ w' f' g',Sep M w0 (Δ.set i (mine [.slice ad len cap] (vs.set k ⟨a,m,c⟩) f')) (F.set j (rows (vs.set k ⟨a,m,c⟩) (xss.set k z) g')) w'→DL P n ops Q S rest L w') :
    DL P n ops Q S ((l,false)::rest) L w:=by
  obtain ⟨b',o',cur,T,e1,hb,hsz,hbf,f',g',h⟩:=H.rowSet i j e hi hj he hl k hk
  rw [had] at e1
  simp only [Option.some.injEq,Addr.mk.injEq,and_true] at e1
  obtain ⟨rfl,rfl⟩:=e1
  rw [Nat.mul_one] at hx
  exact yK ho hw rfl (eM hs hx hy rfl hb hsz) (fun hSw hr=>hS _ _ cur T had hb hsz hSw hr) (kk _ f' g' h)
end
theorem Du {w:World}{b o a r:Nat}{cur:Array Value}{T:TypeId}{v:Value}(hb:w.heap[b]? = some (.cells cur T (0,0))) (hr:o+r<cur.size) (hc:w.cell? ⟨b,o+a*1,none⟩=some v) :
    (put w b (.cells (cur.setIfInBounds (o+r) v) T (0,0))).cell? ⟨b,o+a*1,none⟩=some v:=by
  rw [Nat.mul_one] at hc ⊢
  refine kr (iU hb) ?_
  have hc':cur[o+a]? = some v:=by simpa [World.cell?,hb] using hc
  by_cases e:r=a
  · subst e; simp [hr]
  · rw [Array.getElem?_setIfInBounds_ne (by omega)]; exact hc'
def RowsMut {β:Type}[Rp β] (w w':World) (fp:List Nat) (V:Value) (K:Nat) (m:List (List β)):Prop:=
  ∃ (vs:List View) (f g:List Nat),vs.length=K∧Ext (· ∈ fp) w w'∧own true w' [V] vs f∧f.Nodup∧(∀ b∈f,b∈fp∨w.heap.size≤b)∧cq false w' (vs.map View.val) m g∧∀ b∈g,b ∉ f
section
variable {β:Type}[Rp β] {M:Nat→Prop}{w0 w w':World}{Δ F:List Rsc}
theorem Sep.rowsOut {w:World}{fp:List Nat}{V:Value}{vs:List View}{f g:List Nat}{m:List (List β)}{K:Nat}(h:Sep (· ∈ fp) w [Wk.mine [V] vs f] [rows vs m g] w') (hl:vs.length=K):RowsMut w w' fp V K m:=
  ⟨vs,f,g,hl,h.ext,h.mine 0 rfl,h.nodup1 (i:=0) rfl,fun b hb=>h.new b (by simpa [blocks,Wk.mine] using hb),h.rowsAt 0 rfl,fun b hb=>h.off 0 rfl 0 rfl hb⟩
theorem Sep.beginRows {fp:List Nat}{V:Value}{vs:List View}{g:List Nat}{m:List (List β)}(o:own true w [V] vs fp) (nd:fp.Nodup) (hr:cq false w (vs.map View.val) m g) (hd:∀ b∈g,b ∉ fp):Sep (· ∈ fp) w [Wk.mine [V] vs fp] [rows vs m g] w:=
  (Sep.begin o nd).look (r:=rows vs m g) hr fun b hb hm=>hd b hb (by simpa [blocks,Wk.mine] using hm)
theorem Sep.rowsMut (h:Sep M w0 Δ F w) (i:Nat) {V:Value}{vs:List View}{fp:List Nat}(hi:Δ[i]? = some (Wk.mine [V] vs fp)) (honly:∀ b∈blocks Δ,b∈fp) {K:Nat}{m:List (List β)}(hm:RowsMut w w' fp V K m) :
    ∃ vs' f' g',vs'.length=K∧Sep M w0 (Δ.set i (Wk.mine [V] (vs':List View) f')) (F++[rows vs' m g']) w':=by
  obtain ⟨vs',f',g',h1,h2,h3,h4,h5,h6,h7⟩:=hm
  have H:=h.set hi (q:=Wk.mine [V] vs' f') h2 h3 h4 h5
  refine ⟨vs',f',g',h1,H.look (r:=rows vs' m g') h6 fun b hb hm=>?_⟩
  obtain ⟨r,hr,hbr⟩:=cb.1 hm
  rcases gO hi h.nd r hr with rfl | ⟨hr1,hr2⟩
  · exact h7 b hb hbr
  · exact hr2 b hbr (honly b (cb.2 ⟨r,hr1,hbr⟩))
end
theorem wj {m M:Mat}{c r:Nat}(h:redM m c=(M,r)) (hp:M.length≤kT M c r):redM m (c+1)=(M,r):=by
  show stepM (redM m c).1 c (redM m c).2=_
  rw [h]
  exact if_pos hp
theorem vq {m M:Mat}{c r j:Nat}(h:redM m c=(M,r)) (hp:kT M c r=j) (hj:j<M.length):redM m (c+1)=(cD (kV M c r j) c r M.length,r+1):=by
  show stepM (redM m c).1 c (redM m c).2=_
  rw [h]
  show stepM M c r=_
  rw [stepM,if_neg (by omega),hp]
theorem F5 {N:Mat}{c r i:Nat}{x:UInt8}(h:(decide ((i:Int)≠(r:Int)) && decide ((x.toNat:Int)≠0))=true):i≠r:=by
  simp only [Bool.and_eq_true,decide_eq_true_eq] at h; omega
theorem El {N:Mat}{K l c r i:Nat}(hR:Rect N K l) (hi:i<K) (hr:r<K) (h:(decide ((i:Int)≠(r:Int)) && decide (((((cD N c r i).getD i []).getD c 0).toNat:Int)≠0))=false) :
    cD N c r i=cD N c r (i+1):=by
  by_cases e:i=r
  · exact sc (.inl e)
  · refine xo hR hi hr ?_
    rw [qP (by rw [hR.1]; exact hi)] at h
    have e1:decide ((i:Int)≠(r:Int))=true:=by simp; omega
    rw [e1,Bool.true_and,decide_eq_false_iff_not,Decidable.not_not] at h
    exact km h
theorem GD {M:Mat}{c r j:Nat}(hr:r<M.length) (hj:j<M.length) :
    ((M.set r (M.getD j [])).set j (M.getD r [])).set r (ct (((M.set r (M.getD j [])).set j (M.getD r [])).getD r []) (cA 1 (mP ((((M.set r (M.getD j [])).set j (M.getD r [])).getD r []).getD c 0))))=kV M c r j:=by
  have e:=Ha (m:=M) hr hj
  rw [vw] at e
  rw [e,kR]
  exact Eg
end Go.Wk
namespace Go.Wk
open Rp (sz own)
theorem Sep.resN {α:Type}[Rp α] {M w0 Δ F} {w w':World}{cs:List Value}{x:α}(h:Sep M w0 Δ F w) (e:Ext No w w') (hr:Res w w' cs x):∃ fp,Sep M w0 (Δ++[Wk.mine cs x fp]) F w'∧∀ b∈fp,w.heap.size≤b:=by
  obtain ⟨fp,h1,h2,h3⟩:=hr
  exact ⟨fp,h.add e (r:=Wk.mine cs x fp) h1 h2 h3,h3⟩
section
variable {P:Program}{n:Nat}{ops:Array Oper}{Q:Post}{S:World→Prop}{L:Env}{w w0 wr:World}{M M':Nat→Prop}{Δ F:List Rsc}{i:Nat}{d:Tmp}{ty:TypeId}{p:String}{af:Array Edge}{g:Option (Nat × Bool)}{rest:List (Nat × Bool)}{α:Type}[Rp α]
theorem d_S {l:List (Nat × Bool)}(h:S w→DL P n ops Q S l L w) (hl:l≠[]):DL P n ops Q S l L w:=fun hs a ha hS=>h (hS hl) hs a ha hS
theorem ig {x y:Operand}{t e:TypeId}{z:Value}{bytes:Nat}{v:Value}{xs:List α}{fp:List Nat}{b2 c2:Nat}{T} {cs:List Value}{u:α}(ho:ops.toList[i]? = some ⟨some d,.call ⟨.builtin .append,#[x,y],#[t,t]⟩,ty,p,af,g⟩) (hw:Wn ops n L ⟨some d,.call ⟨.builtin .append,#[x,y],#[t,t]⟩,ty,p,af,g⟩) (hn:Nat.blt d n=true)
    (ht:P.underlying t=some (.slice e)) (hT:Ty P e z (sz α) bytes) (hz:z.cells.size=sz α) (hx:evL L x=some v) (hy:evL L y=some (.slice (some ⟨b2,0,none⟩) 1 c2))
    (H:Sep M w0 Δ F w) (q j:Nat) (hi:Δ[q]? = some (mine [v] xs fp)) (hj:Δ[j]? = some (box b2 (.cells cs.toArray T))) (hu:own true w cs u []) (h63:xs.length+1≤maxLen) (hb48:(xs.length+1)*bytes≤140737488355328)
    (hf:∀ b∈fp,wr.heap.size≤b)
    (k:∀ v' w' fp',(∀ b∈fp',b∈fp∨w.heap.size≤b)→Sep M w0 (Δ.set q (mine [v'] (xs++[u]) fp')) F w'→DL P n ops Q (Ext M' wr) rest ((d,v')::L) w') :
    DL P n ops Q (Ext M' wr) ((i,false)::rest) L w:=by
  obtain ⟨v',w',fp',h1,h2,h3,h4,h5⟩:=iu (ty:=ty) ht hT hz (H.mine q hi) (ys:=[u]) (c2:=c2) (m:=1) (by rw [Rp.len hu]; simp) rfl (At.whole (H.box j hj)) (Rp.one hu) (.one hu) (by simp) (H.nodup1 hi) .nil (by simp) h63 hb48
  have h6:∀ b∈fp',b∈fp∨w.heap.size≤b:=fun b hb=>by rcases h4 b hb with h | h | h; exact .inl h; simp at h; exact .inr h
  exact rW ho hw rfl hn (pB hx hy h1) (fun h _=>h.step h3 fun b hb => .inr (hf b hb)) (k _ _ _ h6 (H.set hi (q:=Wk.mine [v'] (xs++[u]) fp') h3 h2 h5 h6))
theorem eF [Flat α] {x y:Operand}{t e:TypeId}{z:Value}{bytes:Nat}{v:Value}{xs ys:List α}{fp fy:List Nat}{s ad m c2} (ho:ops.toList[i]? = some ⟨some d,.call ⟨.builtin .append,#[x,y],#[t,t]⟩,ty,p,af,g⟩) (hw:Wn ops n L ⟨some d,.call ⟨.builtin .append,#[x,y],#[t,t]⟩,ty,p,af,g⟩) (hn:Nat.blt d n=true)
    (ht:P.underlying t=some (.slice e)) (hT:Ty P e z (sz α) bytes) (hz:z.cells.size=sz α) (hx:evL L x=some v) (hy:evL L y=some (.slice ad m c2))
    (H:Sep M w0 Δ F w) (q:Nat) (hi:Δ[q]? = some (mine [v] xs fp)) (hu:own s w [.slice ad m c2] ys fy) (h63:xs.length+ys.length≤maxLen) (hb48:(xs.length+ys.length)*bytes≤140737488355328)
    (hf:∀ b∈fp,wr.heap.size≤b)
    (k:∀ v' w' fp',(∀ b∈fp',b∈fp∨w.heap.size≤b)→Sep M w0 (Δ.set q (mine [v'] (xs++ys) fp')) F w'→DL P n ops Q (Ext M' wr) rest ((d,v')::L) w') :
    DL P n ops Q (Ext M' wr) ((i,false)::rest) L w:=by
  obtain ⟨v',w',fp',h1,h2,h3,h4,h5⟩:=rU (ty:=ty) ht hT hz (H.mine q hi) hu (H.nodup1 hi) h63 hb48
  exact rW ho hw rfl hn (pB hx hy h1) (fun h _=>h.step h3 fun b hb => .inr (hf b hb)) (k _ _ _ h4 (H.set hi (q:=Wk.mine [v'] (xs++ys) fp') h3 h2 h5 h4))
theorem CT {t:TypeId}{x y:Operand}{b off:Nat}{v:Value}{ad:Option Addr}{len cap:Nat}{xs:List α}{fp fu:List Nat}{u:α}(ho:ops.toList[i]? = some ⟨none,.store t x y,ty,p,af,g⟩) (hw:Wn ops n L ⟨none,.store t x y,ty,p,af,g⟩) (hs:∀ w,(sizeOf t).run P w = .ok (sz α) w) (h1:sz α=1)
    (H:Sep M w0 Δ F w) (l j:Nat) (hi:Δ[l]? = some (mine [.slice ad len cap] xs fp)) (hj:Δ[j]? = some (mine [v] u fu)) (hij:Nat.beq j l=false) (q:Nat) (hq:q<xs.length) (hx:evL L x=some (.pointer (some ⟨b,off+q*sz α,none⟩))) (had:ad=some ⟨b,off,none⟩) (hy:evL L y=some v)
    (k:∀ w' fp',Sep M w0 ((Δ.set j gone).set l (mine [.slice ad len cap] (xs.set q u) fp')) F w'→DL P n ops Q S [] L w') :
    DL P n ops Q S [(i,false)] L w:=by
  obtain ⟨b',o',cur,T,fp',e1,hb,hsz,hk⟩:=H.elset2 l j hi hj hij q hq
  rw [had] at e1
  simp only [Option.some.injEq,Addr.mk.injEq,and_true] at e1
  obtain ⟨rfl,rfl⟩:=e1
  exact yK ho hw rfl (eM (by rw [h1] at hs; exact hs) hx hy (Rp.one (H.mine j hj) v (by simp)) hb (by omega)) (fun _ hr=>absurd rfl hr) (k _ fp' hk)
end
def augTo (m:Mat) (b:List UInt8) (k:Nat):Mat:=(List.range k).map fun i=>m.getD i []++[b.getD i 0]
def aug (m:Mat) (b:List UInt8):Mat:=augTo m b m.length
theorem iA {m:Mat}{b k}:(augTo m b k).length=k:=by simp [augTo]
theorem lI {m:Mat}{b k}:augTo m b k++[m.getD k []++[b.getD k 0]]=augTo m b (k+1):=by simp [augTo,List.range_succ]
def augIn (m:Mat) (b:List UInt8) (k:Nat):Mat:=augTo m b k++List.replicate (m.length-k) []
theorem zL {m:Mat}{b}:augIn m b 0=List.replicate m.length []:=by simp [augIn,augTo]
theorem wd {m:Mat}{b}:augIn m b m.length=aug m b:=by simp [augIn,aug]
theorem qN {m:Mat}{b k} (h:k≤m.length):(augIn m b k).length=m.length:=by simp [augIn,iA]; omega
theorem vG {m:Mat}{b k} (h:k<m.length):(augIn m b k).set k (m.getD k []++[b.getD k 0])=augIn m b (k+1):=by
  rw [augIn,List.set_append_right _ _ (by rw [iA]; exact Nat.le_refl _),iA,Nat.sub_self,augIn,← lI]
  have:List.replicate (m.length-k) ([]:List UInt8)=[]::List.replicate (m.length-(k+1)) []:=by
    rw [show m.length-k=(m.length-(k+1))+1 by omega]; rfl
  rw [this,List.set_cons_zero]; simp
theorem yT {m:Mat}{b:List UInt8}{n:Nat}(h:Rect m n n):Rect (aug m b) n (n+1):=by
  obtain ⟨h1,h2⟩:=h
  refine ⟨by rw [aug,iA]; exact h1,fun i hi=>?_⟩
  have:(aug m b).getD i []=m.getD i []++[b.getD i 0]:=by simp [aug,augTo,List.getD,h1,hi]
  rw [this,List.length_append,h2 i hi]; rfl
def ot (m:Mat) (c k:Nat):List UInt8:=(List.range k).map fun i=>entry m i c
theorem wa {m:Mat}{c k}:(ot m c k).length=k:=by simp [ot]
theorem ur {m:Mat}{c k}:ot m c k++[(m.getD k []).getD c 0]=ot m c (k+1):=by simp [ot,List.range_succ,entry]
def qw (m:Mat) (b:List UInt8):Bool:=decide (m.length≤(redM (aug m b) m.length).2)
def t0 (m:Mat) (b:List UInt8):List UInt8:=if qw m b=true then ot (redM (aug m b) m.length).1 m.length m.length else []
theorem Fc {m:Mat}{b} (h:(redM (aug m b) m.length).2<m.length):qw m b=false∧t0 m b=[]:=by
  have:qw m b=false:=by rw [qw,decide_eq_false (by omega)]
  exact ⟨this,by rw [t0,this]; rfl⟩
theorem wX {m:Mat}{b} (h:¬ (redM (aug m b) m.length).2<m.length):qw m b=true∧t0 m b=ot (redM (aug m b) m.length).1 m.length m.length:=by
  have:qw m b=true:=by rw [qw,decide_eq_true (by omega)]
  exact ⟨this,by rw [t0,if_pos this]⟩
end Go.Wk
namespace Go.Wk
open Rp (sz own)
def hole {β:Type}[Rp β] (b o k:Nat) (cur:Array Value) (T:TypeId) (ad:Option Addr) (n cap:Nat) (xss:List (List β)) (f1 f2:List Nat):Rsc:=
  ⟨b::(f1++f2),fun w=>w.heap[b]? = some (.cells cur T (0,0))∧(∀ x∈b::(f1++f2),x<w.heap.size) ∧
    ∀ w' cur' x' fk',w'.heap[b]? = some (.cells cur' T (0,0))→cur'.size=cur.size→(∀ j,j<o+k∨o+(k+1)≤j→cur'[j]? = cur[j]?)→(∀ b∈f1,w'.heap[b]? = w.heap[b]?)→(∀ b∈f2,w'.heap[b]? = w.heap[b]?) →
        own true w' ((cur'.toList.drop (o+k)).take 1) x' fk'→own true w' [.slice ad n cap] (xss.set k x') (b::(f1++(fk'++f2))),
   fun h e=>⟨(e b (by simp)).trans h.1,fun x hx=>by
      have h1:=h.2.1 x hx
      have h2:=e x hx
      rw [Array.getElem?_eq_getElem h1] at h2
      exact (Array.getElem?_eq_some_iff.1 h2).1,fun w' cur' x' fk' h1 h2 h3 h4 h5 h6=>h.2.2 w' cur' x' fk' h1 h2 h3 (fun b hb=>(h4 b hb).trans (e b (by simp [hb]))) (fun b hb=>(h5 b hb).trans (e b (by simp [hb]))) h6⟩,
   fun h=>h.2.1⟩
def reord (r:Rsc) (fp:List Nat) (h:∀ b,b∈fp↔b∈r.fp):Rsc:=⟨fp,r.φ,fun a e=>r.st a fun b hb=>e b ((h b).2 hb),fun a b hb=>r.lt a b ((h b).1 hb)⟩
section
variable {M:Nat→Prop}{w0 w w':World}{Δ F:List Rsc}{β:Type}[Rp β]
theorem pO {a b:Rsc}{t:List Rsc}:∀ {Δ:List Rsc}{i:Nat},i<Δ.length→(Δ.set i a++b::t).Perm (Δ.set i b++a::t)
  | [],_,h=>by simp at h
  | x::Δ,0,_=>by
    show (a::(Δ++b::t)).Perm (b::(Δ++a::t))
    exact (List.perm_middle.cons a).trans ((List.Perm.swap _ _ _).trans (List.perm_middle.symm.cons b))
  | x::Δ,i+1,h=>(pO (Δ:=Δ) (i:=i) (by simpa using h)).cons x
theorem Sep.unhook (h:Sep M w0 Δ F w) (i:Nat) {ad n cap} {xss:List (List β)}{fp} (hi:Δ[i]? = some (Wk.mine [.slice ad n cap] xss fp)) (k:Nat) (hk:k<xss.length) :
    ∃ b o cur T f1 f2 fk a c,ad=some ⟨b,o,none⟩∧o+k<cur.size∧w.cell? ⟨b,o+k*1,none⟩=some (.slice a (xss.getD k []).length c)∧b ∉ fk∧Sep M w0 (Δ.set i (hole b o k cur T ad n cap xss f1 f2)++[Wk.mine [.slice a (xss.getD k []).length c] (xss.getD k []) fk]) F w:=by
  have hnd:=h.nodup1 hi
  obtain ⟨b,o,cur,T,f1,fk,f2,e1,e2,hb,hsz,hx,hback⟩:=qG (h.mine i hi) k hk
  have hs1:sz (List β)=1:=rfl
  rw [hs1,Nat.mul_one] at hsz hx
  have hlt:=Rp.lt (h.mine i hi)
  change fp.Nodup at hnd
  subst e2
  have hnd0:=hnd
  obtain ⟨n1,n2⟩:=List.nodup_cons.1 hnd
  rw [List.nodup_append,List.nodup_append] at n2
  obtain ⟨d1,⟨d2,d3,d4⟩,d5⟩:=n2
  have hmem:∀ x,x∈(b::(f1++f2))++fk↔x∈b::(f1++(fk++f2)):=fun x=>by
    simp only [List.cons_append,List.mem_cons,List.mem_append]
    constructor
    · rintro (h | (h | h) | h)
      · exact .inl h
      · exact .inr (.inl h)
      · exact .inr (.inr (.inr h))
      · exact .inr (.inr (.inl h))
    · rintro (h | h | h | h)
      · exact .inl h
      · exact .inr (.inl (.inl h))
      · exact .inr (.inr h)
      · exact .inr (.inl (.inr h))
  have H1:=h.set hi (q:=reord (Wk.mine [.slice ad n cap] xss (b::(f1++(fk++f2)))) ((b::(f1++f2))++fk) hmem) Ext.refl (h.mine i hi)
    (by
      change ((b::(f1++f2))++fk).Nodup
      refine List.nodup_append.2 ⟨List.nodup_cons.2 ⟨fun hm=>n1 (by rcases List.mem_append.1 hm with hm | hm<;>simp [hm]),List.nodup_append.2 ⟨d1,d3,fun p hp q hq e=>d5 p hp q (by simp [hq]) e⟩⟩,d2,fun p hp q hq e=>?_⟩
      subst e
      rcases List.mem_cons.1 hp with rfl | hp
      · exact n1 (by simp [hq])
      · rcases List.mem_append.1 hp with hp | hp
        · exact d5 p hp p (by simp [hq]) rfl
        · exact d4 p hq p hp rfl)
    (fun x hx => .inl ((hmem x).1 hx))
  have hsz1:((cur.toList.drop (o+k)).take 1).length=1:=by
    have e:cur.toList.length=cur.size:=by simp
    rw [List.length_take,List.length_drop]; omega
  obtain ⟨v,ev⟩:=List.length_eq_one_iff.1 hsz1
  have hx2:=hx
  rw [ev] at hx2
  obtain ⟨a,c,e3⟩:=ax hx2
  have ek:xss.getD k []=xss[k]:=by simp [List.getD,hk]
  have hcell:cur[o+k]? = some v:=by
    have:(cur.toList.drop (o+k))[0]? = some v:=by
      have:((cur.toList.drop (o+k)).take 1)[0]? = some v:=by rw [ev]; rfl
      simpa [List.getElem?_take] using this
    simpa using this
  rw [e3] at hx2
  have hil:i<Δ.length:=(List.getElem?_eq_some_iff.1 hi).1
  refine ⟨b,o,cur,T,f1,f2,fk,a,c,e1,by omega,?_,fun hm=>n1 (by simp [hm]),?_⟩
  · rw [Nat.mul_one,ek,← (List.cons.inj e3).1]
    exact kr hb hcell
  · have H2:=H1.part i (r:=reord (Wk.mine [.slice ad n cap] xss (b::(f1++(fk++f2)))) ((b::(f1++f2))++fk) hmem) (by rw [List.getElem?_set_self hil]) [hole b o k cur T ad n cap xss f1 f2,Wk.mine [.slice a (xss.getD k []).length c] (xss.getD k []) fk] ?_ ?_
    · rw [List.set_set] at H2
      exact (H2.perm (pO hil)).sub ((List.Sublist.refl _).append (.cons _ (.refl _)))
    · refine all_cons ⟨hb,fun x hx=>hlt x ((hmem x).1 (by simp only [List.mem_append]; exact .inl hx)),fun w' cur' x' fk' q1 q2 q3 q4 q5 q6=>hback w' cur' x' fk' q1 q2 (fun j hj=>q3 j (by rw [hs1] at hj; omega)) q4 q5 (by rw [hs1,Nat.mul_one]; exact q6)⟩ (all_cons ?_ (by simp))
      rw [ek]; exact hx2
    · simp [blocks,hole,Wk.mine,reord]
theorem Sep.hook (h:Sep M w0 Δ F w) (i j:Nat) {b o k cur T ad n cap} {xss:List (List β)}{f1 f2 v fk} {x:List β}(hi:Δ[i]? = some (hole b o k cur T ad n cap xss f1 f2)) (hj:Δ[j]? = some (Wk.mine [v] x fk)) (hij:Nat.beq j i=false) (hk:o+k<cur.size) :
    Sep M w0 ((Δ.set j gone).set i (Wk.mine [.slice ad n cap] (xss.set k x) (b::(f1++(fk++f2))))) F (Wk.put w b (.cells (cur.setIfInBounds (o+k) v) T (0,0))):=by
  have hne:j≠i:=fun e=>by subst e; simp at hij
  obtain ⟨hb,hlt,hback⟩:(hole b o k cur T ad n cap xss f1 f2).φ w:=h.rs _ (List.mem_of_getElem? hi)
  have hx:=h.mine j hj
  have hnd:=h.nodup1 hi
  change (b::(f1++f2)).Nodup at hnd
  have hnk:=h.nodup1 hj
  change fk.Nodup at hnk
  have hap:∀ x∈fk,x ∉ b::(f1++f2):=fun x hx hm=>h.apart (i:=i) (j:=j) hi hj hij x hx hm
  obtain ⟨n1,n2⟩:=List.nodup_cons.1 hnd
  obtain ⟨d1,d2,d3⟩:=List.nodup_append.1 n2
  have hE:Ext (· = b) w (Wk.put w b (.cells (cur.setIfInBounds (o+k) v) T (0,0))):=Ext.refl.put (.inl rfl)
  have hbk:b ∉ fk:=fun hm=>hap b hm (by simp)
  refine h.set2 hi hj hij (q:=Wk.mine [.slice ad n cap] (xss.set k x) (b::(f1++(fk++f2)))) (hE.mono fun b' _ e=>by subst e; simp [hole]) ?_ ?_ ?_
  · refine hback _ _ x fk (iU hb) (by simp) (fun j hj=>Array.getElem?_setIfInBounds_ne (by omega)) (fun b' hb'=>hE.block b' (hlt b' (by simp [hb'])) fun e=>?_) (fun b' hb'=>hE.block b' (hlt b' (by simp [hb'])) fun e=>?_) ?_
    · subst e; exact n1 (by simp [hb'])
    · subst e; exact n1 (by simp [hb'])
    · have e:((cur.setIfInBounds (o+k) v).toList.drop (o+k)).take 1=[v]:=by
        have:=tA [v] cur (o+k) (by show o+k+1≤cur.size; omega)
        exact this
      rw [e]
      exact Rp.st hx fun b' hb'=>hE.block b' (Rp.lt hx b' hb') fun e=>by subst e; exact hbk hb'
  · change (b::(f1++(fk++f2))).Nodup
    refine List.nodup_cons.2 ⟨fun hm=>?_,List.nodup_append.2 ⟨d1,List.nodup_append.2 ⟨hnk,d2,fun p hp q hq e=>?_⟩,fun p hp q hq e=>?_⟩⟩
    · simp only [List.mem_append,not_or] at hm n1
      rcases hm with hm | hm | hm
      · exact n1.1 hm
      · exact hbk hm
      · exact n1.2 hm
    · subst e; exact hap p hp (by simp [hq])
    · subst e
      rcases List.mem_append.1 hq with hq | hq
      · exact hap p hq (by simp [hp])
      · exact d3 p hp p hq rfl
  · intro x hx
    change x∈b::(f1++(fk++f2)) at hx
    simp only [List.mem_cons,List.mem_append] at hx
    rcases hx with h | h | h | h
    · exact .inl (by simp [hole,h])
    · exact .inl (by simp [hole,h])
    · exact .inr (.inl h)
    · exact .inl (by simp [hole,h])
end
section
variable {P:Program}{n:Nat}{ops:Array Oper}{Q:Post}{L:Env}{w w0:World}{M:Nat→Prop}{Δ F:List Rsc}{d:Tmp}{ty:TypeId}{p:String}{af:Array Edge}{g:Option (Nat × Bool)}{β:Type}[Rp β]
theorem Ip {rest:List Oper}{t:TypeId}{x y:Operand}{b o k:Nat}{cur T} {ad:Option Addr}{len cap:Nat}{xss:List (List β)}{f1 f2 fk:List Nat}{v:Value}{z:List β}(hw:Wn ops n L ⟨none,.store t x y,ty,p,af,g⟩) (hs:∀ w,(sizeOf t).run P w = .ok 1 w)
    (H:Sep M w0 Δ F w) (i j:Nat) (hi:Δ[i]? = some (hole b o k cur T ad len cap xss f1 f2)) (hj:Δ[j]? = some (mine [v] z fk)) (hij:Nat.beq j i=false) (hk:o+k<cur.size)
    (hx:evL L x=some (.pointer (some ⟨b,o+k*1,none⟩))) (hy:evL L y=some v)
    (kk:∀ w' fp',Sep M w0 ((Δ.set j gone).set i (mine [.slice ad len cap] (xss.set k z) fp')) F w'→RL P n ops Q rest L w') :
    RL P n ops Q (⟨none,.store t x y,ty,p,af,g⟩::rest) L w:=by
  obtain ⟨hb,_,_⟩:(hole b o k cur T ad len cap xss f1 f2).φ w:=H.rs _ (List.mem_of_getElem? hi)
  rw [Nat.mul_one] at hx
  exact xV hw rfl (eM hs hx hy (Rp.one (H.mine j hj) v (by simp)) hb hk) (kk _ _ (H.hook i j hi hj hij hk))
theorem Ir {S:World→Prop}{l:Nat}{t:TypeId}{x y:Operand}{b o k:Nat}{cur T} {ad:Option Addr}{len cap:Nat}{xss:List (List β)}{f1 f2 fk:List Nat}{v:Value}{z:List β}(ho:ops.toList[l]? = some ⟨none,.store t x y,ty,p,af,g⟩) (hw:Wn ops n L ⟨none,.store t x y,ty,p,af,g⟩) (hs:∀ w,(sizeOf t).run P w = .ok 1 w)
    (H:Sep M w0 Δ F w) (i j:Nat) (hi:Δ[i]? = some (hole b o k cur T ad len cap xss f1 f2)) (hj:Δ[j]? = some (mine [v] z fk)) (hij:Nat.beq j i=false) (hk:o+k<cur.size)
    (hx:evL L x=some (.pointer (some ⟨b,o+k*1,none⟩))) (hy:evL L y=some v)
    (kk:∀ w' fp',Sep M w0 ((Δ.set j gone).set i (mine [.slice ad len cap] (xss.set k z) fp')) F w'→DL P n ops Q S [] L w') :
    DL P n ops Q S [(l,false)] L w:=by
  obtain ⟨hb,_,_⟩:(hole b o k cur T ad len cap xss f1 f2).φ w:=H.rs _ (List.mem_of_getElem? hi)
  rw [Nat.mul_one] at hx
  exact yK ho hw rfl (eM hs hx hy (Rp.one (H.mine j hj) v (by simp)) hb hk) (fun _ hr=>absurd rfl hr) (kk _ _ (H.hook i j hi hj hij hk))
end
def trF (g:Nat→List UInt8) (n j i:Nat):Mat:=(List.range n).map fun x=>(List.range (if x<i then j+1 else j)).map fun t=>(g t).getD x 0
theorem sS {g n j i}:(trF g n j i).length=n:=by simp [trF]
theorem sU {g n j i x} (h:x<n):(trF g n j i).getD x []=(List.range (if x<i then j+1 else j)).map fun t=>(g t).getD x 0:=by simp [trF,List.getD,h]
theorem yw {g n}:trF g n 0 0=List.replicate n []:=by
  refine List.ext_getElem (by simp [trF]) fun i h1 h2=>?_
  simp [trF]
theorem yn {g n j i} (h:i<n):(trF g n j i).set i ((trF g n j i).getD i []++[(g j).getD i 0])=trF g n j (i+1):=by
  refine List.ext_getElem (by simp [trF]) fun x h1 h2=>?_
  rw [List.getElem_set]
  simp only [trF,List.getElem_map,List.getElem_range]
  by_cases e:i=x
  · subst e
    have e:=sU (g:=g) (j:=j) (i:=i) h
    rw [if_neg (by omega)] at e
    rw [if_pos rfl,if_pos (by omega),List.range_succ,List.map_append]
    exact congrArg (· ++ _) e
  · rw [if_neg e]
    by_cases h3:x<i
    · rw [if_pos h3,if_pos (by omega)]
    · rw [if_neg h3,if_neg (by omega)]
theorem yO {g n j}:trF g n j n=trF g n (j+1) 0:=by
  refine List.ext_getElem (by simp [trF]) fun x h1 h2=>?_
  have:x<n:=by simpa [trF] using h1
  simp [trF,this]
theorem E9 {g n m}:Rect (trF g n m 0) n m:=⟨sS,fun i hi=>by rw [sU hi]; simp⟩
def hv (n:Nat) (have_:List Int) (base:Int) (t:Nat):List UInt8:=lL n (have_.getD t 0) base
def sb (n:Nat) (have_:List Int) (base:Int):Mat:=trF (hv n have_ base) n n 0
def betw (n:Nat) (have_:List Int) (want base:Int):List UInt8:=t0 (sb n have_ base) (lL n want base)
theorem re {n h b}:(sb n h b).length=n:=sS
theorem uK {n h b}:Rect (sb n h b) (sb n h b).length (sb n h b).length:=by rw [re]; exact E9
end Go.Wk
namespace Go.Wk
theorem wou {n:Nat}{ops:Array Oper}{L:Env}{o:Oper}{j t b} (h:o.guard=some (j,b)) (hd:hX ops j=some t) (hb:look L t=some undef):Wo ops n L o:=fun a hg=>by
  have hy:yielded ops a.tmps j=none:=by
    have h:=hg.cov t _ hb
    have hd':(ops[j]?).bind (·.dst)=some t:=by simpa [hX] using hd
    simp only [yielded,hd',Option.bind_some]
    simp only [Array.getD_eq_getD_getElem?] at h
    cases ht:a.tmps[t]? with
    | none=>rfl
    | some v=>rw [ht] at h; simp at h; subst h; rfl
  simp [Region.wanted,h,hy]
def fh (xs:List Int) (m:Int) (i:Nat):Bool:=decide (0≤xs.getD i 0) && decide (xs.getD i 0≤m) && (decide (i=0) || decide (xs.getD (i-1) 0<xs.getD i 0))
def rises (xs:List Int) (m:Int):Bool:=(List.range xs.length).all (fh xs m)
theorem np {xs m} (h:∀ i,i<xs.length→fh xs m i=true):rises xs m=true:=by
  rw [rises,List.all_eq_true]
  exact fun i hi=>h i (by simpa using hi)
theorem pG {xs m} (i:Nat) (hi:i<xs.length) (h:fh xs m i=false):rises xs m=false:=by
  cases hr:rises xs m with
  | false=>rfl
  | true=>
    rw [rises,List.all_eq_true] at hr
    rw [hr i (by simpa using hi)] at h
    cases h
theorem lq {xs m} (h:rises xs m=true) (i:Nat) (hi:i<xs.length):0≤xs.getD i 0∧xs.getD i 0≤m:=by
  rw [rises,List.all_eq_true] at h
  have:=h i (by simpa using hi)
  simp only [fh,Bool.and_eq_true,decide_eq_true_eq] at this
  exact this.1
end Go.Wk
namespace Go.Wk
open Rp (sz own)
theorem DS {s w cs} {x:Shape}{fp} (h:own s w cs x fp):cs=[.int .i64 x.Groups,.int .i64 x.Column,.int .i64 x.Data,.int .i64 x.Spare,.int .i64 x.Rows,.int .i64 x.Cap,.int .i64 x.Batch,.int .i64 x.Queue,.int .i64 x.Stage]∧fp=[]∧x.Ok:=by
  obtain ⟨_,_,_,_,rfl,e0,h0,k0⟩:=cu h
  obtain ⟨rfl,rfl,i0⟩:=dL h0
  obtain ⟨_,_,_,_,rfl,e1,h1,k1⟩:=cu k0
  obtain ⟨rfl,rfl,i1⟩:=dL h1
  obtain ⟨_,_,_,_,rfl,e2,h2,k2⟩:=cu k1
  obtain ⟨rfl,rfl,i2⟩:=dL h2
  obtain ⟨_,_,_,_,rfl,e3,h3,k3⟩:=cu k2
  obtain ⟨rfl,rfl,i3⟩:=dL h3
  obtain ⟨_,_,_,_,rfl,e4,h4,k4⟩:=cu k3
  obtain ⟨rfl,rfl,i4⟩:=dL h4
  obtain ⟨_,_,_,_,rfl,e5,h5,k5⟩:=cu k4
  obtain ⟨rfl,rfl,i5⟩:=dL h5
  obtain ⟨_,_,_,_,rfl,e6,h6,k6⟩:=cu k5
  obtain ⟨rfl,rfl,i6⟩:=dL h6
  obtain ⟨_,_,_,_,rfl,e7,h7,k7⟩:=cu k6
  obtain ⟨rfl,rfl,i7⟩:=dL h7
  obtain ⟨rfl,rfl,i8⟩:=dL k7
  exact ⟨rfl,by subst_vars; simp,⟨i0,i1,i2,i3,i4,i5,i6,i7,i8⟩⟩
theorem Shape.own_mk {s:Bool}{w:World}{x:Shape}(ok:x.Ok):own s w [.int .i64 x.Groups,.int .i64 x.Column,.int .i64 x.Data,.int .i64 x.Spare,.int .i64 x.Rows,.int .i64 x.Cap,.int .i64 x.Batch,.int .i64 x.Queue,.int .i64 x.Stage] x ([]):=by
  obtain ⟨i0,i1,i2,i3,i4,i5,i6,i7,i8⟩:=ok
  have h:own s w _ (x.Groups,x.Column,x.Data,x.Spare,x.Rows,x.Cap,x.Batch,x.Queue,x.Stage) _:=(cL (dX i0) (cL (dX i1) (cL (dX i2) (cL (dX i3) (cL (dX i4) (cL (dX i5) (cL (dX i6) (cL (dX i7) (dX i8)))))))))
  refine jB h ?_
  simp
theorem yi {w:World}:own true w [.int .i64 0,.int .i64 0,.string ⟨#[]⟩,.int .i64 0,.int .i64 0,.int .i64 0,.slice none 0 0,.slice none 0 0,.slice none 0 0] (default:Rec) []:=jB (Rec.own_mk (s:=true) (x:=(default:Rec)) ⟨(show I64ok 0 by unfold I64ok; omega),(show I64ok 0 by unfold I64ok; omega),(show (0:Nat)≤maxLen from Nat.zero_le _),(show I64ok 0 by unfold I64ok; omega),(show I64ok 0 by unfold I64ok; omega),(show I64ok 0 by unfold I64ok; omega)⟩ (.inr (.inl ⟨rfl,rfl,rfl⟩)) (.inr (.inl ⟨rfl,rfl,rfl⟩)) (.inr (.inl ⟨rfl,rfl,rfl⟩))) (by first | rfl | simp)
structure Block where
  Stamp:Int
  Bytes:List UInt8
instance:Rp Block:=Rp.via fun x=>(x.Stamp,x.Bytes)
noncomputable instance:DecidableEq Block:=fun _ _=>Classical.propDecidable _
instance:Inhabited Block:=⟨⟨0,[]⟩⟩
def Block.val (x:Block) (A1:Option Addr) (C1:Nat):Value := .agg #[.int .i64 x.Stamp,.slice A1 x.Bytes.length C1]
def Block.Ok (x:Block):Prop:=I64ok x.Stamp
theorem dS {s w cs} {x:Block}{fp} (h:own s w cs x fp):∃ (A1:Option Addr) (C1:Nat) (f1:List Nat) ,cs=[.int .i64 x.Stamp,.slice A1 x.Bytes.length C1]∧fp=f1∧x.Ok∧own s w [.slice A1 x.Bytes.length C1] x.Bytes f1:=by
  obtain ⟨_,_,_,_,rfl,e0,h0,k0⟩:=cu h
  obtain ⟨rfl,rfl,i0⟩:=dL h0
  obtain ⟨A1,C1,rfl⟩:=ax k0
  exact ⟨A1,C1,_,rfl,by subst_vars; simp,i0,k0⟩
theorem Block.own_mk {s:Bool}{w:World}{x:Block}{A1:Option Addr}{C1:Nat}{f1:List Nat}(ok:x.Ok) (o1:own s w [.slice A1 x.Bytes.length C1] x.Bytes f1):own s w [.int .i64 x.Stamp,.slice A1 x.Bytes.length C1] x (f1):=by
  have i0:=ok
  have h:own s w _ (x.Stamp,x.Bytes) _:=(cL (dX i0) o1)
  refine jB h ?_
  simp
theorem Block.out {w0 w:World}{F:List Rsc}{x:Block}{A1:Option Addr}{C1:Nat}{f1:List Nat}(h:Sep No w0 [mine [.slice A1 x.Bytes.length C1] x.Bytes f1] F w) (ok:x.Ok):Res w0 w [.int .i64 x.Stamp,.slice A1 x.Bytes.length C1] x:=
  ⟨_,Block.own_mk ok (h.mine 0 rfl),by have:=h.nd; simpa [blocks,mine] using this,fun b hb=>(h.new b (by simpa [blocks,mine] using hb)).resolve_left id⟩
theorem z2 {w:World}:own true w [.int .i64 0,.slice none 0 0] (default:Block) []:=jB (Block.own_mk (s:=true) (x:=(default:Block)) (show I64ok 0 by unfold I64ok; omega) (.inr (.inl ⟨rfl,rfl,rfl⟩))) (by first | rfl | simp)
structure Drive where
  Wiped:Bool
  Blocks:List Block
instance:Rp Drive:=Rp.via fun x=>(x.Wiped,x.Blocks)
noncomputable instance:DecidableEq Drive:=fun _ _=>Classical.propDecidable _
instance:Inhabited Drive:=⟨⟨false,[]⟩⟩
def Drive.val (x:Drive) (A1:Option Addr) (C1:Nat):Value := .agg #[.bool x.Wiped,.slice A1 x.Blocks.length C1]
def Drive.Ok (x:Drive):Prop:=True
theorem cX {s w cs} {x:Drive}{fp} (h:own s w cs x fp):∃ (A1:Option Addr) (C1:Nat) (f1:List Nat) ,cs=[.bool x.Wiped,.slice A1 x.Blocks.length C1]∧fp=f1∧x.Ok∧own s w [.slice A1 x.Blocks.length C1] x.Blocks f1:=by
  obtain ⟨_,_,_,_,rfl,e0,h0,k0⟩:=cu h
  obtain ⟨rfl,rfl⟩:=h0
  obtain ⟨A1,C1,rfl⟩:=ax k0
  exact ⟨A1,C1,_,rfl,by subst_vars; simp,trivial,k0⟩
theorem Drive.own_mk {s:Bool}{w:World}{x:Drive}{A1:Option Addr}{C1:Nat}{f1:List Nat}(ok:x.Ok) (o1:own s w [.slice A1 x.Blocks.length C1] x.Blocks f1):own s w [.bool x.Wiped,.slice A1 x.Blocks.length C1] x (f1):=by
  have h:own s w _ (x.Wiped,x.Blocks) _:=(cL xr o1)
  refine jB h ?_
  simp
theorem Drive.out {w0 w:World}{F:List Rsc}{x:Drive}{A1:Option Addr}{C1:Nat}{f1:List Nat}(h:Sep No w0 [mine [.slice A1 x.Blocks.length C1] x.Blocks f1] F w) (ok:x.Ok):Res w0 w [.bool x.Wiped,.slice A1 x.Blocks.length C1] x:=
  ⟨_,Drive.own_mk ok (h.mine 0 rfl),by have:=h.nd; simpa [blocks,mine] using this,fun b hb=>(h.new b (by simpa [blocks,mine] using hb)).resolve_left id⟩
theorem AN {w:World}:own true w [.bool false,.slice none 0 0] (default:Drive) []:=jB (Drive.own_mk (s:=true) (x:=(default:Drive)) trivial (.inr (.inl ⟨rfl,rfl,rfl⟩))) (by first | rfl | simp)
structure Tape where
  Wiped:Bool
  Recs:List Rec
instance:Rp Tape:=Rp.via fun x=>(x.Wiped,x.Recs)
noncomputable instance:DecidableEq Tape:=fun _ _=>Classical.propDecidable _
instance:Inhabited Tape:=⟨⟨false,[]⟩⟩
def Tape.val (x:Tape) (A1:Option Addr) (C1:Nat):Value := .agg #[.bool x.Wiped,.slice A1 x.Recs.length C1]
def Tape.Ok (x:Tape):Prop:=True
theorem cl {s w cs} {x:Tape}{fp} (h:own s w cs x fp):∃ (A1:Option Addr) (C1:Nat) (f1:List Nat) ,cs=[.bool x.Wiped,.slice A1 x.Recs.length C1]∧fp=f1∧x.Ok∧own s w [.slice A1 x.Recs.length C1] x.Recs f1:=by
  obtain ⟨_,_,_,_,rfl,e0,h0,k0⟩:=cu h
  obtain ⟨rfl,rfl⟩:=h0
  obtain ⟨A1,C1,rfl⟩:=ax k0
  exact ⟨A1,C1,_,rfl,by subst_vars; simp,trivial,k0⟩
theorem Tape.own_mk {s:Bool}{w:World}{x:Tape}{A1:Option Addr}{C1:Nat}{f1:List Nat}(ok:x.Ok) (o1:own s w [.slice A1 x.Recs.length C1] x.Recs f1):own s w [.bool x.Wiped,.slice A1 x.Recs.length C1] x (f1):=by
  have h:own s w _ (x.Wiped,x.Recs) _:=(cL xr o1)
  refine jB h ?_
  simp
theorem Tape.out {w0 w:World}{F:List Rsc}{x:Tape}{A1:Option Addr}{C1:Nat}{f1:List Nat}(h:Sep No w0 [mine [.slice A1 x.Recs.length C1] x.Recs f1] F w) (ok:x.Ok):Res w0 w [.bool x.Wiped,.slice A1 x.Recs.length C1] x:=
  ⟨_,Tape.own_mk ok (h.mine 0 rfl),by have:=h.nd; simpa [blocks,mine] using this,fun b hb=>(h.new b (by simpa [blocks,mine] using hb)).resolve_left id⟩
theorem DR {w:World}:own true w [.bool false,.slice none 0 0] (default:Tape) []:=jB (Tape.own_mk (s:=true) (x:=(default:Tape)) trivial (.inr (.inl ⟨rfl,rfl,rfl⟩))) (by first | rfl | simp)
structure Wld where
  Shape:Shape
  Groups:List (List Drive)
  On:List Int
  Tapes:List Tape
  Writes:Int
  Stop:Int
  Down:Bool
instance:Rp Wld:=Rp.via fun x=>(x.Shape,x.Groups,x.On,x.Tapes,x.Writes,x.Stop,x.Down)
noncomputable instance:DecidableEq Wld:=fun _ _=>Classical.propDecidable _
def Wld.val (x:Wld) (A9:Option Addr) (C9:Nat) (A10:Option Addr) (C10:Nat) (A11:Option Addr) (C11:Nat):Value := .agg #[.int .i64 x.Shape.Groups,.int .i64 x.Shape.Column,.int .i64 x.Shape.Data,.int .i64 x.Shape.Spare,.int .i64 x.Shape.Rows,.int .i64 x.Shape.Cap,.int .i64 x.Shape.Batch,.int .i64 x.Shape.Queue,.int .i64 x.Shape.Stage,.slice A9 x.Groups.length C9,.slice A10 x.On.length C10,.slice A11 x.Tapes.length C11,.int .i64 x.Writes,.int .i64 x.Stop,.bool x.Down]
def Wld.Ok (x:Wld):Prop:=x.Shape.Ok∧I64ok x.Writes∧I64ok x.Stop
theorem tc {s w cs} {x:Wld}{fp} (h:own s w cs x fp):∃ (A9:Option Addr) (C9:Nat) (A10:Option Addr) (C10:Nat) (A11:Option Addr) (C11:Nat) (f9:List Nat) (f10:List Nat) (f11:List Nat) ,cs=[.int .i64 x.Shape.Groups,.int .i64 x.Shape.Column,.int .i64 x.Shape.Data,.int .i64 x.Shape.Spare,.int .i64 x.Shape.Rows,.int .i64 x.Shape.Cap,.int .i64 x.Shape.Batch,.int .i64 x.Shape.Queue,.int .i64 x.Shape.Stage,.slice A9 x.Groups.length C9,.slice A10 x.On.length C10,.slice A11 x.Tapes.length C11,.int .i64 x.Writes,.int .i64 x.Stop,.bool x.Down]∧fp=f9++(f10++(f11))∧x.Ok∧own s w [.slice A9 x.Groups.length C9] x.Groups f9∧own s w [.slice A10 x.On.length C10] x.On f10∧own s w [.slice A11 x.Tapes.length C11] x.Tapes f11:=by
  obtain ⟨_,_,_,_,rfl,e0,h0,k0⟩:=cu h
  obtain ⟨rfl,rfl,i0⟩:=DS h0
  obtain ⟨_,_,_,_,rfl,e1,h1,k1⟩:=cu k0
  obtain ⟨A9,C9,rfl⟩:=ax h1
  obtain ⟨_,_,_,_,rfl,e2,h2,k2⟩:=cu k1
  obtain ⟨A10,C10,rfl⟩:=ax h2
  obtain ⟨_,_,_,_,rfl,e3,h3,k3⟩:=cu k2
  obtain ⟨A11,C11,rfl⟩:=ax h3
  obtain ⟨_,_,_,_,rfl,e4,h4,k4⟩:=cu k3
  obtain ⟨rfl,rfl,i4⟩:=dL h4
  obtain ⟨_,_,_,_,rfl,e5,h5,k5⟩:=cu k4
  obtain ⟨rfl,rfl,i5⟩:=dL h5
  obtain ⟨rfl,rfl⟩:=k5
  exact ⟨A9,C9,A10,C10,A11,C11,_,_,_,rfl,by subst_vars; simp,⟨i0,i4,i5⟩,h1,h2,h3⟩
theorem eL {s w A9 C9 A10 C10 A11 C11} {x:Wld}{fp} (h:own s w [.int .i64 x.Shape.Groups,.int .i64 x.Shape.Column,.int .i64 x.Shape.Data,.int .i64 x.Shape.Spare,.int .i64 x.Shape.Rows,.int .i64 x.Shape.Cap,.int .i64 x.Shape.Batch,.int .i64 x.Shape.Queue,.int .i64 x.Shape.Stage,.slice A9 x.Groups.length C9,.slice A10 x.On.length C10,.slice A11 x.Tapes.length C11,.int .i64 x.Writes,.int .i64 x.Stop,.bool x.Down] x fp):∃ (f9:List Nat) (f10:List Nat) (f11:List Nat),fp=f9++(f10++(f11))∧x.Ok∧own s w [.slice A9 x.Groups.length C9] x.Groups f9∧own s w [.slice A10 x.On.length C10] x.On f10∧own s w [.slice A11 x.Tapes.length C11] x.Tapes f11:=by
  obtain ⟨_,_,_,_,_,_,f9,f10,f11,e,ef,ok,o9,o10,o11⟩:=tc h
  simp only [List.cons.injEq,Value.slice.injEq,and_true,true_and] at e
  obtain ⟨⟨rfl,rfl⟩,⟨rfl,rfl⟩,⟨rfl,rfl⟩⟩:=e
  exact ⟨f9,f10,f11,ef,ok,o9,o10,o11⟩
theorem Wld.own_mk {s:Bool}{w:World}{x:Wld}{A9:Option Addr}{C9:Nat}{A10:Option Addr}{C10:Nat}{A11:Option Addr}{C11:Nat}{f9:List Nat}{f10:List Nat}{f11:List Nat}(ok:x.Ok) (o9:own s w [.slice A9 x.Groups.length C9] x.Groups f9) (o10:own s w [.slice A10 x.On.length C10] x.On f10) (o11:own s w [.slice A11 x.Tapes.length C11] x.Tapes f11):own s w [.int .i64 x.Shape.Groups,.int .i64 x.Shape.Column,.int .i64 x.Shape.Data,.int .i64 x.Shape.Spare,.int .i64 x.Shape.Rows,.int .i64 x.Shape.Cap,.int .i64 x.Shape.Batch,.int .i64 x.Shape.Queue,.int .i64 x.Shape.Stage,.slice A9 x.Groups.length C9,.slice A10 x.On.length C10,.slice A11 x.Tapes.length C11,.int .i64 x.Writes,.int .i64 x.Stop,.bool x.Down] x (f9++(f10++(f11))):=by
  obtain ⟨i0,i4,i5⟩:=ok
  have h:own s w _ (x.Shape,x.Groups,x.On,x.Tapes,x.Writes,x.Stop,x.Down) _:=(cL (Shape.own_mk (x:=x.Shape) i0) (cL o9 (cL o10 (cL o11 (cL (dX i4) (cL (dX i5) xr))))))
  refine jB h ?_
  simp
theorem Wld.out {w0 w:World}{F:List Rsc}{x:Wld}{A9:Option Addr}{C9:Nat}{A10:Option Addr}{C10:Nat}{A11:Option Addr}{C11:Nat}{f9:List Nat}{f10:List Nat}{f11:List Nat}(h:Sep No w0 [mine [.slice A9 x.Groups.length C9] x.Groups f9,mine [.slice A10 x.On.length C10] x.On f10,mine [.slice A11 x.Tapes.length C11] x.Tapes f11] F w) (ok:x.Ok):Res w0 w [.int .i64 x.Shape.Groups,.int .i64 x.Shape.Column,.int .i64 x.Shape.Data,.int .i64 x.Shape.Spare,.int .i64 x.Shape.Rows,.int .i64 x.Shape.Cap,.int .i64 x.Shape.Batch,.int .i64 x.Shape.Queue,.int .i64 x.Shape.Stage,.slice A9 x.Groups.length C9,.slice A10 x.On.length C10,.slice A11 x.Tapes.length C11,.int .i64 x.Writes,.int .i64 x.Stop,.bool x.Down] x:=
  ⟨_,Wld.own_mk ok (h.mine 0 rfl) (h.mine 1 rfl) (h.mine 2 rfl),by have:=h.nd; simpa [blocks,mine] using this,fun b hb=>(h.new b (by simpa [blocks,mine] using hb)).resolve_left id⟩
theorem Wld.see9 {s:Bool}{w:World}{x:Wld}{A9:Option Addr}{C9:Nat}{A10:Option Addr}{C10:Nat}{A11:Option Addr}{C11:Nat}{fp:List Nat}(h:own s w [.int .i64 x.Shape.Groups,.int .i64 x.Shape.Column,.int .i64 x.Shape.Data,.int .i64 x.Shape.Spare,.int .i64 x.Shape.Rows,.int .i64 x.Shape.Cap,.int .i64 x.Shape.Batch,.int .i64 x.Shape.Queue,.int .i64 x.Shape.Stage,.slice A9 x.Groups.length C9,.slice A10 x.On.length C10,.slice A11 x.Tapes.length C11,.int .i64 x.Writes,.int .i64 x.Stop,.bool x.Down] x fp):Sees w [.slice A9 x.Groups.length C9] x.Groups:=by
  obtain ⟨_,_,_,_,_,o,_,_⟩:=eL h
  exact ⟨_,aT o⟩
theorem Wld.see10 {s:Bool}{w:World}{x:Wld}{A9:Option Addr}{C9:Nat}{A10:Option Addr}{C10:Nat}{A11:Option Addr}{C11:Nat}{fp:List Nat}(h:own s w [.int .i64 x.Shape.Groups,.int .i64 x.Shape.Column,.int .i64 x.Shape.Data,.int .i64 x.Shape.Spare,.int .i64 x.Shape.Rows,.int .i64 x.Shape.Cap,.int .i64 x.Shape.Batch,.int .i64 x.Shape.Queue,.int .i64 x.Shape.Stage,.slice A9 x.Groups.length C9,.slice A10 x.On.length C10,.slice A11 x.Tapes.length C11,.int .i64 x.Writes,.int .i64 x.Stop,.bool x.Down] x fp):Sees w [.slice A10 x.On.length C10] x.On:=by
  obtain ⟨_,_,_,_,_,_,o,_⟩:=eL h
  exact ⟨_,aT o⟩
theorem Wld.see11 {s:Bool}{w:World}{x:Wld}{A9:Option Addr}{C9:Nat}{A10:Option Addr}{C10:Nat}{A11:Option Addr}{C11:Nat}{fp:List Nat}(h:own s w [.int .i64 x.Shape.Groups,.int .i64 x.Shape.Column,.int .i64 x.Shape.Data,.int .i64 x.Shape.Spare,.int .i64 x.Shape.Rows,.int .i64 x.Shape.Cap,.int .i64 x.Shape.Batch,.int .i64 x.Shape.Queue,.int .i64 x.Shape.Stage,.slice A9 x.Groups.length C9,.slice A10 x.On.length C10,.slice A11 x.Tapes.length C11,.int .i64 x.Writes,.int .i64 x.Stop,.bool x.Down] x fp):Sees w [.slice A11 x.Tapes.length C11] x.Tapes:=by
  obtain ⟨_,_,_,_,_,_,_,o⟩:=eL h
  exact ⟨_,aT o⟩
theorem Wld.mutOut {w w':World}{fp:List Nat}{x:Wld}{A9:Option Addr}{C9:Nat}{A10:Option Addr}{C10:Nat}{A11:Option Addr}{C11:Nat}{y9:List (List Drive)}{y10:List Int}{y11:List Tape}{f9:List Nat}{f10:List Nat}{f11:List Nat}{F:List Rsc}(ok:x.Ok) (h:Sep (· ∈ fp) w [gone,mine [.slice A9 x.Groups.length C9] y9 f9,mine [.slice A10 x.On.length C10] y10 f10,mine [.slice A11 x.Tapes.length C11] y11 f11] F w') (l9:y9.length=x.Groups.length) (l10:y10.length=x.On.length) (l11:y11.length=x.Tapes.length):Mut w w' fp [.int .i64 x.Shape.Groups,.int .i64 x.Shape.Column,.int .i64 x.Shape.Data,.int .i64 x.Shape.Spare,.int .i64 x.Shape.Rows,.int .i64 x.Shape.Cap,.int .i64 x.Shape.Batch,.int .i64 x.Shape.Queue,.int .i64 x.Shape.Stage,.slice A9 x.Groups.length C9,.slice A10 x.On.length C10,.slice A11 x.Tapes.length C11,.int .i64 x.Writes,.int .i64 x.Stop,.bool x.Down] (⟨⟨x.Shape.Groups,x.Shape.Column,x.Shape.Data,x.Shape.Spare,x.Shape.Rows,x.Shape.Cap,x.Shape.Batch,x.Shape.Queue,x.Shape.Stage⟩,y9,y10,y11,x.Writes,x.Stop,x.Down⟩:Wld):=by
  have o9:=h.mine 1 rfl
  rw [← l9] at o9
  have o10:=h.mine 2 rfl
  rw [← l10] at o10
  have o11:=h.mine 3 rfl
  rw [← l11] at o11
  have hh:=Wld.own_mk (x:=(⟨⟨x.Shape.Groups,x.Shape.Column,x.Shape.Data,x.Shape.Spare,x.Shape.Rows,x.Shape.Cap,x.Shape.Batch,x.Shape.Queue,x.Shape.Stage⟩,y9,y10,y11,x.Writes,x.Stop,x.Down⟩:Wld)) ok o9 o10 o11
  dsimp only at hh
  rw [l9,l10,l11] at hh
  exact ⟨h.ext,_,hh,(by have:=h.nd; simpa [blocks,mine,gone] using this),fun b hb=>h.new b (by simpa [blocks,mine,gone] using hb)⟩
structure WldResult where
  Code:Int
  Wd:Wld
instance:Rp WldResult:=Rp.via fun x=>(x.Code,x.Wd)
noncomputable instance:DecidableEq WldResult:=fun _ _=>Classical.propDecidable _
def WldResult.val (x:WldResult) (A10:Option Addr) (C10:Nat) (A11:Option Addr) (C11:Nat) (A12:Option Addr) (C12:Nat):Value := .agg #[.int .i64 x.Code,.int .i64 x.Wd.Shape.Groups,.int .i64 x.Wd.Shape.Column,.int .i64 x.Wd.Shape.Data,.int .i64 x.Wd.Shape.Spare,.int .i64 x.Wd.Shape.Rows,.int .i64 x.Wd.Shape.Cap,.int .i64 x.Wd.Shape.Batch,.int .i64 x.Wd.Shape.Queue,.int .i64 x.Wd.Shape.Stage,.slice A10 x.Wd.Groups.length C10,.slice A11 x.Wd.On.length C11,.slice A12 x.Wd.Tapes.length C12,.int .i64 x.Wd.Writes,.int .i64 x.Wd.Stop,.bool x.Wd.Down]
def WldResult.Ok (x:WldResult):Prop:=I64ok x.Code∧x.Wd.Ok
theorem oo {s w cs} {x:WldResult}{fp} (h:own s w cs x fp):∃ (A10:Option Addr) (C10:Nat) (A11:Option Addr) (C11:Nat) (A12:Option Addr) (C12:Nat) (f10:List Nat) (f11:List Nat) (f12:List Nat) ,cs=[.int .i64 x.Code,.int .i64 x.Wd.Shape.Groups,.int .i64 x.Wd.Shape.Column,.int .i64 x.Wd.Shape.Data,.int .i64 x.Wd.Shape.Spare,.int .i64 x.Wd.Shape.Rows,.int .i64 x.Wd.Shape.Cap,.int .i64 x.Wd.Shape.Batch,.int .i64 x.Wd.Shape.Queue,.int .i64 x.Wd.Shape.Stage,.slice A10 x.Wd.Groups.length C10,.slice A11 x.Wd.On.length C11,.slice A12 x.Wd.Tapes.length C12,.int .i64 x.Wd.Writes,.int .i64 x.Wd.Stop,.bool x.Wd.Down]∧fp=f10++(f11++(f12))∧x.Ok∧own s w [.slice A10 x.Wd.Groups.length C10] x.Wd.Groups f10∧own s w [.slice A11 x.Wd.On.length C11] x.Wd.On f11∧own s w [.slice A12 x.Wd.Tapes.length C12] x.Wd.Tapes f12:=by
  obtain ⟨_,_,_,_,rfl,e0,h0,k0⟩:=cu h
  obtain ⟨rfl,rfl,i0⟩:=dL h0
  obtain ⟨A10,C10,A11,C11,A12,C12,g10,g11,g12,rfl,rfl,i1,o10,o11,o12⟩:=tc k0
  exact ⟨A10,C10,A11,C11,A12,C12,_,_,_,rfl,by subst_vars; simp,⟨i0,i1⟩,o10,o11,o12⟩
theorem eO {s w A10 C10 A11 C11 A12 C12} {x:WldResult}{fp} (h:own s w [.int .i64 x.Code,.int .i64 x.Wd.Shape.Groups,.int .i64 x.Wd.Shape.Column,.int .i64 x.Wd.Shape.Data,.int .i64 x.Wd.Shape.Spare,.int .i64 x.Wd.Shape.Rows,.int .i64 x.Wd.Shape.Cap,.int .i64 x.Wd.Shape.Batch,.int .i64 x.Wd.Shape.Queue,.int .i64 x.Wd.Shape.Stage,.slice A10 x.Wd.Groups.length C10,.slice A11 x.Wd.On.length C11,.slice A12 x.Wd.Tapes.length C12,.int .i64 x.Wd.Writes,.int .i64 x.Wd.Stop,.bool x.Wd.Down] x fp):∃ (f10:List Nat) (f11:List Nat) (f12:List Nat),fp=f10++(f11++(f12))∧x.Ok∧own s w [.slice A10 x.Wd.Groups.length C10] x.Wd.Groups f10∧own s w [.slice A11 x.Wd.On.length C11] x.Wd.On f11∧own s w [.slice A12 x.Wd.Tapes.length C12] x.Wd.Tapes f12:=by
  obtain ⟨_,_,_,_,_,_,f10,f11,f12,e,ef,ok,o10,o11,o12⟩:=oo h
  simp only [List.cons.injEq,Value.slice.injEq,and_true,true_and] at e
  obtain ⟨⟨rfl,rfl⟩,⟨rfl,rfl⟩,⟨rfl,rfl⟩⟩:=e
  exact ⟨f10,f11,f12,ef,ok,o10,o11,o12⟩
theorem WldResult.own_mk {s:Bool}{w:World}{x:WldResult}{A10:Option Addr}{C10:Nat}{A11:Option Addr}{C11:Nat}{A12:Option Addr}{C12:Nat}{f10:List Nat}{f11:List Nat}{f12:List Nat}(ok:x.Ok) (o10:own s w [.slice A10 x.Wd.Groups.length C10] x.Wd.Groups f10) (o11:own s w [.slice A11 x.Wd.On.length C11] x.Wd.On f11) (o12:own s w [.slice A12 x.Wd.Tapes.length C12] x.Wd.Tapes f12):own s w [.int .i64 x.Code,.int .i64 x.Wd.Shape.Groups,.int .i64 x.Wd.Shape.Column,.int .i64 x.Wd.Shape.Data,.int .i64 x.Wd.Shape.Spare,.int .i64 x.Wd.Shape.Rows,.int .i64 x.Wd.Shape.Cap,.int .i64 x.Wd.Shape.Batch,.int .i64 x.Wd.Shape.Queue,.int .i64 x.Wd.Shape.Stage,.slice A10 x.Wd.Groups.length C10,.slice A11 x.Wd.On.length C11,.slice A12 x.Wd.Tapes.length C12,.int .i64 x.Wd.Writes,.int .i64 x.Wd.Stop,.bool x.Wd.Down] x (f10++(f11++(f12))):=by
  obtain ⟨i0,i1⟩:=ok
  have h:own s w _ (x.Code,x.Wd) _:=(cL (dX i0) (Wld.own_mk (x:=x.Wd) i1 o10 o11 o12))
  refine jB h ?_
  simp
theorem WldResult.out {w0 w:World}{F:List Rsc}{x:WldResult}{A10:Option Addr}{C10:Nat}{A11:Option Addr}{C11:Nat}{A12:Option Addr}{C12:Nat}{f10:List Nat}{f11:List Nat}{f12:List Nat}(h:Sep No w0 [mine [.slice A10 x.Wd.Groups.length C10] x.Wd.Groups f10,mine [.slice A11 x.Wd.On.length C11] x.Wd.On f11,mine [.slice A12 x.Wd.Tapes.length C12] x.Wd.Tapes f12] F w) (ok:x.Ok):Res w0 w [.int .i64 x.Code,.int .i64 x.Wd.Shape.Groups,.int .i64 x.Wd.Shape.Column,.int .i64 x.Wd.Shape.Data,.int .i64 x.Wd.Shape.Spare,.int .i64 x.Wd.Shape.Rows,.int .i64 x.Wd.Shape.Cap,.int .i64 x.Wd.Shape.Batch,.int .i64 x.Wd.Shape.Queue,.int .i64 x.Wd.Shape.Stage,.slice A10 x.Wd.Groups.length C10,.slice A11 x.Wd.On.length C11,.slice A12 x.Wd.Tapes.length C12,.int .i64 x.Wd.Writes,.int .i64 x.Wd.Stop,.bool x.Wd.Down] x:=
  ⟨_,WldResult.own_mk ok (h.mine 0 rfl) (h.mine 1 rfl) (h.mine 2 rfl),by have:=h.nd; simpa [blocks,mine] using this,fun b hb=>(h.new b (by simpa [blocks,mine] using hb)).resolve_left id⟩
theorem WldResult.see10 {s:Bool}{w:World}{x:WldResult}{A10:Option Addr}{C10:Nat}{A11:Option Addr}{C11:Nat}{A12:Option Addr}{C12:Nat}{fp:List Nat}(h:own s w [.int .i64 x.Code,.int .i64 x.Wd.Shape.Groups,.int .i64 x.Wd.Shape.Column,.int .i64 x.Wd.Shape.Data,.int .i64 x.Wd.Shape.Spare,.int .i64 x.Wd.Shape.Rows,.int .i64 x.Wd.Shape.Cap,.int .i64 x.Wd.Shape.Batch,.int .i64 x.Wd.Shape.Queue,.int .i64 x.Wd.Shape.Stage,.slice A10 x.Wd.Groups.length C10,.slice A11 x.Wd.On.length C11,.slice A12 x.Wd.Tapes.length C12,.int .i64 x.Wd.Writes,.int .i64 x.Wd.Stop,.bool x.Wd.Down] x fp):Sees w [.slice A10 x.Wd.Groups.length C10] x.Wd.Groups:=by
  obtain ⟨_,_,_,_,_,o,_,_⟩:=eO h
  exact ⟨_,aT o⟩
theorem WldResult.see11 {s:Bool}{w:World}{x:WldResult}{A10:Option Addr}{C10:Nat}{A11:Option Addr}{C11:Nat}{A12:Option Addr}{C12:Nat}{fp:List Nat}(h:own s w [.int .i64 x.Code,.int .i64 x.Wd.Shape.Groups,.int .i64 x.Wd.Shape.Column,.int .i64 x.Wd.Shape.Data,.int .i64 x.Wd.Shape.Spare,.int .i64 x.Wd.Shape.Rows,.int .i64 x.Wd.Shape.Cap,.int .i64 x.Wd.Shape.Batch,.int .i64 x.Wd.Shape.Queue,.int .i64 x.Wd.Shape.Stage,.slice A10 x.Wd.Groups.length C10,.slice A11 x.Wd.On.length C11,.slice A12 x.Wd.Tapes.length C12,.int .i64 x.Wd.Writes,.int .i64 x.Wd.Stop,.bool x.Wd.Down] x fp):Sees w [.slice A11 x.Wd.On.length C11] x.Wd.On:=by
  obtain ⟨_,_,_,_,_,_,o,_⟩:=eO h
  exact ⟨_,aT o⟩
theorem WldResult.see12 {s:Bool}{w:World}{x:WldResult}{A10:Option Addr}{C10:Nat}{A11:Option Addr}{C11:Nat}{A12:Option Addr}{C12:Nat}{fp:List Nat}(h:own s w [.int .i64 x.Code,.int .i64 x.Wd.Shape.Groups,.int .i64 x.Wd.Shape.Column,.int .i64 x.Wd.Shape.Data,.int .i64 x.Wd.Shape.Spare,.int .i64 x.Wd.Shape.Rows,.int .i64 x.Wd.Shape.Cap,.int .i64 x.Wd.Shape.Batch,.int .i64 x.Wd.Shape.Queue,.int .i64 x.Wd.Shape.Stage,.slice A10 x.Wd.Groups.length C10,.slice A11 x.Wd.On.length C11,.slice A12 x.Wd.Tapes.length C12,.int .i64 x.Wd.Writes,.int .i64 x.Wd.Stop,.bool x.Wd.Down] x fp):Sees w [.slice A12 x.Wd.Tapes.length C12] x.Wd.Tapes:=by
  obtain ⟨_,_,_,_,_,_,_,o⟩:=eO h
  exact ⟨_,aT o⟩
structure BlockResult where
  Code:Int
  Block:Block
noncomputable instance:DecidableEq BlockResult:=fun _ _=>Classical.propDecidable _
def BlockResult.val (x:BlockResult) (A2:Option Addr) (C2:Nat):Value := .agg #[.int .i64 x.Code,.int .i64 x.Block.Stamp,.slice A2 x.Block.Bytes.length C2]
structure IntResult where
  Code:Int
  Val:Int
noncomputable instance:DecidableEq IntResult:=fun _ _=>Classical.propDecidable _
def IntResult.val (x:IntResult):Value := .agg #[.int .i64 x.Code,.int .i64 x.Val]
structure IntsResult where
  Code:Int
  Lst:List Int
noncomputable instance:DecidableEq IntsResult:=fun _ _=>Classical.propDecidable _
def IntsResult.val (x:IntsResult) (A1:Option Addr) (C1:Nat):Value := .agg #[.int .i64 x.Code,.slice A1 x.Lst.length C1]
structure GroupsResult where
  Code:Int
  Groups:List Int
noncomputable instance:DecidableEq GroupsResult:=fun _ _=>Classical.propDecidable _
def GroupsResult.val (x:GroupsResult) (A1:Option Addr) (C1:Nat):Value := .agg #[.int .i64 x.Code,.slice A1 x.Groups.length C1]
structure RecsResult where
  Code:Int
  Recs:List Rec
noncomputable instance:DecidableEq RecsResult:=fun _ _=>Classical.propDecidable _
def RecsResult.val (x:RecsResult) (A1:Option Addr) (C1:Nat):Value := .agg #[.int .i64 x.Code,.slice A1 x.Recs.length C1]
structure ListsResult where
  Code:Int
  Lists:List (List UInt8)
noncomputable instance:DecidableEq ListsResult:=fun _ _=>Classical.propDecidable _
def ListsResult.val (x:ListsResult) (A1:Option Addr) (C1:Nat):Value := .agg #[.int .i64 x.Code,.slice A1 x.Lists.length C1]
end Go.Wk
namespace Go.Wk
open Rp (sz own)
theorem Sep.fbox {M:Nat→Prop}{w0 w:World}{Δ F:List Rsc}(h:Sep M w0 Δ F w) (j:Nat) {b:Nat}{o:Obj}(hj:F[j]? = some (Wk.box b o)):w.heap[b]? = some o:=h.fs _ (List.mem_of_getElem? hj)
theorem Ext.atM {M:Nat→Prop}{w w':World}(h:Ext M w w') {b o:Nat}{cs:List Value}(hm:¬ M b) (hc:At w b o cs):At w' b o cs:=fun j v hj=>h.cellM hm (hc j v hj)
theorem aS {α:Type}[Rp α] [Inhabited α] {s w ad n cap} {xs:List α}{fp} (h:own s w [.slice ad n cap] xs fp) (k:Nat) (hk:k<xs.length) :
    ∃ b o cs f,ad=some ⟨b,o,none⟩∧At w b (o+k*sz α) cs∧own s w cs (xs.getD k default) f∧(∀ b∈f,b∈fp)∧b∈fp:=by
  obtain ⟨b,o,cs,f,h1,h2,h3,h4,h5⟩:=fc h k hk
  rw [show xs.getD k default=xs[k] from by simp [List.getD,hk]]
  exact ⟨b,o,cs,f,h1,h2,h3,h4,h5⟩
section
variable {P:Program}{n:Nat}{ops:Array Oper}{Q:Post}{L:Env}{ty:TypeId}{p:String}{af:Array Edge}{g:Option (Nat × Bool)}{M:Nat→Prop}{w0 w:World}{Δ F:List Rsc}{α:Type}[Rp α]
theorem qi {rest:List Oper}{t:TypeId}{x y:Operand}{b off:Nat}{vs:List Value}{ad:Option Addr}{len cap:Nat}{xs:List α}{fp fu:List Nat}{u:α}(hw:Wn ops n L ⟨none,.store t x y,ty,p,af,g⟩) (hs:∀ w,(sizeOf t).run P w = .ok (sz α) w)
    (H:Sep M w0 Δ F w) (i j:Nat) (hi:Δ[i]? = some (mine [.slice ad len cap] xs fp)) (hj:Δ[j]? = some (mine vs u fu)) (hij:Nat.beq j i=false) (q:Nat) (hq:q<xs.length) (hx:evL L x=some (.pointer (some ⟨b,off+q*sz α,none⟩))) (had:ad=some ⟨b,off,none⟩) (hy:evL L y=some (.agg vs.toArray))
    (k:∀ w' fp',Sep M w0 ((Δ.set j gone).set i (mine [.slice ad len cap] (xs.set q u) fp')) F w'→RL P n ops Q rest L w') :
    RL P n ops Q (⟨none,.store t x y,ty,p,af,g⟩::rest) L w:=by
  obtain ⟨b',o',cur,T,fp',e1,hb,hsz,hk⟩:=H.elset2 i j hi hj hij q hq
  rw [had] at e1
  simp only [Option.some.injEq,Addr.mk.injEq,and_true] at e1
  obtain ⟨rfl,rfl⟩:=e1
  have hm:=H.mine j hj
  exact xV hw rfl (lj hs hx hy (Rp.len hm) (Rp.one hm) hb hsz) (k _ fp' hk)
end
def szL {α:Type}[Inhabited α] (f:α→Nat) (xs:List α):Nat:=xs.length+bH (fun i=>f (xs.getD i default)) xs.length
theorem gx {α:Type}[Inhabited α] {f:α→Nat}{xs:List α}:szL f xs=xs.length+bH (fun i=>f (xs.getD i default)) xs.length:=rfl
theorem dx {α:Type}[Inhabited α] {f:α→Nat}{xs:List α}{m:Nat}(h:szL f xs≤m) (k:Nat) (hk:k<xs.length):f (xs.getD k default)≤m∧xs.length≤m:=by
  have:bH (fun i=>f (xs.getD i default)) (k+1)≤bH (fun i=>f (xs.getD i default)) xs.length:=kl (by omega)
  have h2:bH (fun i=>f (xs.getD i default)) (k+1)=bH (fun i=>f (xs.getD i default)) k+f (xs.getD k default):=rfl
  unfold szL at h
  omega
def cG (x:Rec):Nat:=x.Name.size+x.Rows.length+x.Data.length+x.Delta.length
def cI (x:Block):Nat:=x.Bytes.length
def bx (x:Drive):Nat:=szL cI x.Blocks
def cT (x:Tape):Nat:=szL cG x.Recs
def gm (x:Wld):Nat:=szL (szL bx) x.Groups+x.On.length+szL cT x.Tapes
def mkL {α:Type}[Inhabited α] (f:α→Nat) (xs:List α):Nat:=bH (fun i=>f (xs.getD i default)) xs.length
def cn (x:Rec):Nat:=6+x.Rows.length+x.Data.length+x.Delta.length
def cQ (x:Block):Nat:=1+x.Bytes.length
def bj (x:Drive):Nat:=1+mkL cQ x.Blocks
def cR (x:Tape):Nat:=1+mkL cn x.Recs
def cm (x:Wld):Nat:=mkL (mkL bj) x.Groups+x.On.length+mkL cR x.Tapes
theorem zk {α:Type}[Inhabited α] {f g:α→Nat}(h:∀ x,f x≤7+7*g x) {xs:List α}:mkL f xs≤7*szL g xs:=by
  have:∀ k,bH (fun i=>f (xs.getD i default)) k≤7*k+7*bH (fun i=>g (xs.getD i default)) k:=by
    intro k
    induction k with
    | zero=>exact Nat.le_refl _
    | succ k ih=>
      have:=h (xs.getD k default)
      simp only [bH]; omega
  have:=this xs.length
  unfold mkL szL; omega
theorem F0 (x:Rec):cn x≤7+7*cG x:=by unfold cn cG; omega
theorem Cu (x:Block):cQ x≤7+7*cI x:=by unfold cQ cI; omega
theorem AI (x:Drive):bj x≤7+7*bx x:=by
  have:=zk Cu (xs:=x.Blocks)
  unfold bj bx; omega
theorem Ed (x:Tape):cR x≤7+7*cT x:=by
  have:=zk F0 (xs:=x.Recs)
  unfold cR cT; omega
theorem BR (x:List Drive):mkL bj x≤7+7*szL bx x:=by
  have:=zk AI (xs:=x); omega
theorem EZ (x:Wld):cm x≤7*gm x:=by
  have h1:=zk BR (xs:=x.Groups)
  have h2:=zk Ed (xs:=x.Tapes)
  unfold cm gm; omega
end Go.Wk
namespace Go.Wk
open Go.Proofs Rp Go.Proofs.Tryz
set_option maxRecDepth 10000
theorem qe {w:World}{s t:Shape}  : Ret Tryz.prog 90 #[s.v,t.v] w fun v w'=>Ext No w w'∧(v = .bool (decide (s=t))):=by
 refine aC (vs:=[s.v,t.v]) func90 Z ntmps90 Z (fun Q hQ hN=>?_);have H0:=Sep.start (w:=w) (F:=[]) (by simp);refine ab (aZ (wn Z) Z Z H0 (fun b1 w1 e1 g1 H1=>aZ (wn Z) Z Z H1 (fun b2 w2 e2 g2 H2=>sA Z Z (aa (ac (ab (sF br Z ts2 (sLd tu2 (H2.box 0 Z) Z (sF br Z ts2 (sLd tu2 (H2.box 1 Z) Z (sV Z (bv Z Z) (aa (ay Z (fun c1=>?_) (fun c1=>?_))))))))))))))
 ·refine ab (sA Z Z (aa (rT hQ results90 Z (⟨H2.ext,?_⟩))));rw [decide_eq_false (fun e=>by subst e; first | exact c1 rfl | simp at c1)]
 ·refine ah (ac (ab (sF br Z ts2 (sLd tu2 (H2.box 0 Z) Z (sF br Z ts2 (sLd tu2 (H2.box 1 Z) Z (sV Z (bv Z Z) (aa (ay Z (fun c2=>?_) (fun c2=>?_))))))))))
  ·refine ab (sA Z Z (aa (rT hQ results90 Z (⟨H2.ext,?_⟩))));rw [decide_eq_false (fun e=>by subst e; first | exact c2 rfl | simp at c2)]
  ·refine ah (ac (ab (sF br Z ts2 (sLd tu2 (H2.box 0 Z) Z (sF br Z ts2 (sLd tu2 (H2.box 1 Z) Z (sV Z (bv Z Z) (aa (ay Z (fun c3=>?_) (fun c3=>?_))))))))))
   ·refine ab (sA Z Z (aa (rT hQ results90 Z (⟨H2.ext,?_⟩))));rw [decide_eq_false (fun e=>by subst e; first | exact c3 rfl | simp at c3)]
   ·refine ah (ac (ab (sF br Z ts2 (sLd tu2 (H2.box 0 Z) Z (sF br Z ts2 (sLd tu2 (H2.box 1 Z) Z (sV Z (bv Z Z) (aa (ay Z (fun c4=>?_) (fun c4=>?_))))))))))
    ·refine ab (sA Z Z (aa (rT hQ results90 Z (⟨H2.ext,?_⟩))));rw [decide_eq_false (fun e=>by subst e; first | exact c4 rfl | simp at c4)]
    ·refine ah (ac (ab (sF br Z ts2 (sLd tu2 (H2.box 0 Z) Z (sF br Z ts2 (sLd tu2 (H2.box 1 Z) Z (sV Z (bv Z Z) (aa (ay Z (fun c5=>?_) (fun c5=>?_))))))))))
     ·refine ab (sA Z Z (aa (rT hQ results90 Z (⟨H2.ext,?_⟩))));rw [decide_eq_false (fun e=>by subst e; first | exact c5 rfl | simp at c5)]
     ·refine ah (ac (ab (sF br Z ts2 (sLd tu2 (H2.box 0 Z) Z (sF br Z ts2 (sLd tu2 (H2.box 1 Z) Z (sV Z (bv Z Z) (aa (ay Z (fun c6=>?_) (fun c6=>?_))))))))))
      ·refine ab (sA Z Z (aa (rT hQ results90 Z (⟨H2.ext,?_⟩))));rw [decide_eq_false (fun e=>by subst e; first | exact c6 rfl | simp at c6)]
      ·refine ah (ac (ab (sF br Z ts2 (sLd tu2 (H2.box 0 Z) Z (sF br Z ts2 (sLd tu2 (H2.box 1 Z) Z (sV Z (bv Z Z) (aa (ay Z (fun c7=>?_) (fun c7=>?_))))))))))
       ·refine ab (sA Z Z (aa (rT hQ results90 Z (⟨H2.ext,?_⟩))));rw [decide_eq_false (fun e=>by subst e; first | exact c7 rfl | simp at c7)]
       ·refine ah (ac (ab (sF br Z ts2 (sLd tu2 (H2.box 0 Z) Z (sF br Z ts2 (sLd tu2 (H2.box 1 Z) Z (sV Z (bv Z Z) (aa (ay Z (fun c8=>?_) (fun c8=>?_))))))))))
        ·refine ab (sA Z Z (aa (rT hQ results90 Z (⟨H2.ext,?_⟩))));rw [decide_eq_false (fun e=>by subst e; first | exact c8 rfl | simp at c8)]
        ·refine ah (ac (ab (sF br Z ts2 (sLd tu2 (H2.box 0 Z) Z (sF br Z ts2 (sLd tu2 (H2.box 1 Z) Z (sV Z (bv Z Z) (aa (ay Z (fun c9=>?_) (fun c9=>?_))))))))))
         ·refine ab (sA Z Z (aa (rT hQ results90 Z (⟨H2.ext,?_⟩))));rw [decide_eq_false (fun e=>by subst e; first | exact c9 rfl | simp at c9)]
         ·refine ah (ab (sA Z Z (aa (rT hQ results90 Z (⟨H2.ext,?_⟩)))));rw [decide_eq_true];cases s; cases t; simp_all [jp]
theorem pM {w:World}{x:Block}{xA1:Option Addr}{xC1:Nat}{l:Int}(xK:x.Ok) (xS1:Sees w [.slice xA1 x.Bytes.length xC1] x.Bytes) (hl : -1≤l∧l≤1048576):Ret Tryz.prog 429 #[x.val xA1 xC1,.int .i64 l] w fun v w'=>Ext No w w'∧(v = .int .i64 (if l-cI x<0 then -1 else l-cI x)):=by
 have xK2:=xK;unfold Block.Ok at xK2
 try unfold I64ok at xK2
 try unfold maxLen at xK2
 have xL1:=sL xS1;obtain ⟨xF1,xO1⟩:=xS1;refine aC (vs:=[x.val xA1 xC1,.int .i64 l]) func429 Z ntmps429 Z (fun Q hQ hN=>?_);have H0:=Sep.start (w:=w) (F:=[seen false [.slice xA1 x.Bytes.length xC1] x.Bytes xF1]) (all_cons xO1 (by simp));refine ab (aZ (wn Z) Z Z H0 (fun b1 w1 e1 g1 H1=>sA Z Z (aa (ab (sF zd Z aR (sLd aM (H1.box 0 Z) Z (sM Z Z (sE func430 oS Z (gT (H1.sees 0 Z) (by omega)) H1 (fun w2 e2 H2=>sA Z Z (aa (ac (ab (sR 2 Z (aa (ay Z (fun c1=>?_) (fun c1=>?_))))))))))))))))
 ·refine ab (rA hQ results429 Z ?_);exact ⟨H2.ext,congrArg (Value.int .i64) (by unfold cI; omega)⟩
 ·refine ah (ab (sR 2 Z (rN hQ results429 Z ?_)));exact ⟨H2.ext,congrArg (Value.int .i64) (by unfold cI; omega)⟩
theorem qE {w:World}{x:Block}{xA1:Option Addr}{xC1:Nat}(xK:x.Ok) (xS1:Sees w [.slice xA1 x.Bytes.length xC1] x.Bytes) (hb:cI x≤1048576):Ret Tryz.prog 431 #[x.val xA1 xC1] w fun v w'=>Ext No w w'∧(∃ A1 C1,v=x.val A1 C1∧Res w w' [.int .i64 x.Stamp,.slice A1 x.Bytes.length C1] x):=by
 have xK2:=xK;unfold Block.Ok at xK2
 try unfold I64ok at xK2
 try unfold maxLen at xK2
 have xL1:=sL xS1;obtain ⟨xF1,xO1⟩:=xS1;unfold cI at hb;refine aC (vs:=[x.val xA1 xC1]) func431 Z ntmps431 Z (fun Q hQ hN=>?_);have H0:=Sep.start (w:=w) (F:=[seen false [.slice xA1 x.Bytes.length xC1] x.Bytes xF1]) (all_cons xO1 (by simp));refine ab (aZ (wn Z) Z Z H0 (fun b1 w1 e1 g1 H1=>bW (wn Z) Z zeroValue64 H1 (fun b2 w2 e2 g2 H2=>aa (ab (bW (wn Z) Z zeroValue64 H2 (fun b3 w3 e3 g3 H3=>aa (ab (sF zd Z ts2 (sLd tu2 (H3.box 0 Z) Z (sF gW Z ts2 (bR (wn Z) ts2 Z Z Z H3 2 Z Z (fun w4 e4 H4=>?_))))))))))));dsimp only[lNA,lCA,lSZ,lSS,aL] at H4;refine aa (ab (sF zd Z aR (sLd aM (H4.box 0 Z) Z (sC func432 pu Z (gV (H4.sees 0 Z) (by omega)) (fun v1 w5 r1=>?_)))));obtain ⟨e5,r1⟩:=r1;obtain ⟨fp1,H5⟩:=H4.res e5 r1;obtain ⟨a1,k1,q1⟩:=ax (H5.mine 3 Z);cases q1;refine sF gW Z aR (bR (wn Z) aR Z Z Z H5 2 Z Z (fun w6 e6 H6=>?_));dsimp only[lNA,lCA,lSZ,lSS,aL] at H6;refine aa (ab (sV Z (an gW Z iD Z Z (At.whole (H6.box 2 Z))) (bc (wn Z) iD Z Z Z Z H6 1 Z Z (fun w7 e7 H7=>?_))));dsimp only[lNA,lCA,lSZ,lSS,aL] at H7;refine aa (bM (hQ _ _ (dI results431 Z (aI gW Z iD Z (At.whole (H7.box 1 Z))) ?_)));exact ⟨H7.ext,_,_,Z,Block.out (H7.sub (.cons _ (.cons _ (.cons _ (.cons_cons _ List.Sublist.slnil))))) xK⟩
theorem qu {w:World}{a:Block}{aA1:Option Addr}{aC1:Nat}{b:Block}{bA1:Option Addr}{bC1:Nat}(aK:a.Ok) (aS1:Sees w [.slice aA1 a.Bytes.length aC1] a.Bytes) (bK:b.Ok) (bS1:Sees w [.slice bA1 b.Bytes.length bC1] b.Bytes):Ret Tryz.prog 438 #[a.val aA1 aC1,b.val bA1 bC1] w fun v w'=>Ext No w w'∧(v = .bool (decide (a=b))):=by
 have aK2:=aK;unfold Block.Ok at aK2
 try unfold I64ok at aK2
 try unfold maxLen at aK2
 have aL1:=sL aS1;obtain ⟨aF1,aO1⟩:=aS1;have bK2:=bK;unfold Block.Ok at bK2
 try unfold I64ok at bK2
 try unfold maxLen at bK2
 have bL1:=sL bS1;obtain ⟨bF1,bO1⟩:=bS1;refine aC (vs:=[a.val aA1 aC1,b.val bA1 bC1]) func438 Z ntmps438 Z (fun Q hQ hN=>?_);have H0:=Sep.start (w:=w) (F:=[seen false [.slice aA1 a.Bytes.length aC1] a.Bytes aF1,seen false [.slice bA1 b.Bytes.length bC1] b.Bytes bF1]) (all_cons aO1 (all_cons bO1 (by simp)));refine ab (aZ (wn Z) Z Z H0 (fun b1 w1 e1 g1 H1=>aZ (wn Z) Z Z H1 (fun b2 w2 e2 g2 H2=>sA Z Z (aa (ac (ab (sF gW Z ts2 (sLd tu2 (H2.box 0 Z) Z (sF gW Z ts2 (sLd tu2 (H2.box 1 Z) Z (sV Z (bv Z Z) (aa (ay Z (fun c1=>?_) (fun c1=>?_))))))))))))))
 ·refine ab (sA Z Z (aa (rT hQ results438 Z (⟨H2.ext,?_⟩))));rw [decide_eq_false (fun e=>by subst e; first | exact c1 rfl | simp at c1)]
 ·refine ah (ac (ab (sF gW Z aR (sLd aM (H2.box 0 Z) Z (sF gW Z aR (sLd aM (H2.box 1 Z) Z (sE func113 oY Z (ii (H2.sees 0 Z) (H2.sees 1 Z)) H2 (fun w3 e3 H3=>sV Z (aX Z) (aa (bI Z (fun c2=>?_) (fun c2=>?_)))))))))))
  ·refine ab (sA Z Z (aa (rT hQ results438 Z (⟨H3.ext,?_⟩))));rw [decide_eq_false (fun e=>by subst e; first | exact c2 rfl | simp at c2)]
  ·refine ah (ab (sA Z Z (aa (rT hQ results438 Z (⟨H3.ext,?_⟩)))));rw [decide_eq_true];cases a; cases b; simp_all [jp]
theorem pj {w:World}{xs:List Block}{xsA:Option Addr}{xsC:Nat}{l:Int}(xsS:Sees w [.slice xsA xs.length xsC] xs) (hl : -1≤l∧l≤1048576):Ret Tryz.prog 379 #[.slice xsA xs.length xsC,.int .i64 l] w fun v w'=>Ext No w w'∧(v = .int .i64 (if l-szL cI xs<0 then -1 else l-szL cI xs)):=by
 have xsL:=sL xsS;obtain ⟨xsF,xsO⟩:=xsS;refine aC (vs:=[.slice xsA xs.length xsC,.int .i64 l]) func379 Z ntmps379 Z (fun Q hQ hN=>?_);have H0:=Sep.start (w:=w) (F:=[seen false [.slice xsA xs.length xsC] xs xsF]) (all_cons xsO (by simp));refine ab (sA Z Z (aa (ab (sR 2 Z (sV Z (aB rV Z) (sV Z (bn Z Z iO) (sA Z Z (aa (ac (ab (sR 2 Z (aa (ay Z (fun c1=>?_) (fun c1=>?_))))))))))))))
 ·refine ab (rA hQ results379 Z ?_);exact ⟨H0.ext,by rw [if_pos (by rw [gx (f:=cI)]; omega)]⟩
 ·refine ah (ac (ab (sA Z Z (aa (ao (ba (γ:=Nat × Int) (fun (k,m)=>[(0,.slice xsA xs.length xsC),(1,.int .i64 m),(5,.int .i64 k)]) (fun (k,m) w'=>Sep No w [] [seen false [.slice xsA xs.length xsC] xs xsF] w'∧k≤xs.length∧0≤m∧m=l-xs.length-bH (fun i=>cI (xs.getD i default)) k) (fun (k,m)=>xs.length-k) (0,_) ⟨Z,Z,Z,trivial⟩ ⟨H0,by omega,by omega,by simp only [bH]; omega⟩ (fun (k,m) w1 H1=>?_)))))));obtain ⟨H1,hk,hm,hs⟩:=H1;refine ac (ab (sR 2 Z (sV Z (aB rV Z) (sV Z (aN Z Z) (aa (ay Z (fun c2=>?_) (fun c2=>?_)))))))
  ·refine ah (ac (ao (ac ?_)));obtain ⟨eb1,eo1,es1,ef1,ee1,ec1,eO1,eH1,em1⟩:=aS (H1.seen 0 Z) k (by omega);obtain ⟨ea1,ek1,eg1,rfl,eq1,eK1,eo2⟩:=dS eO1;have eK1U:=eK1;unfold Block.Ok at eK1U
   try unfold I64ok at eK1U
   try unfold maxLen at eK1U
   have eP1:=H1.look1 0 Z eo2 (fun b hb=>eH1 b (by rw [eq1]; simp [hb]));have eL1:=oL eo2;refine aj (sR 2 Z (sV Z (au rV Dk Z Z ee1 k (by omega) (by omega)) (sV Z (an zd Z Dk Z Z ec1) (sM Z Z (sE func429 AD Z (pM (by assumption) (eP1.sees 1 Z) (by omega)) eP1 (fun w2 e1 H2=>sA Z Z (aa (ab (sR 2 Z (aa (ay Z (fun c3=>?_) (fun c3=>?_))))))))))))
   ·refine ab (rA hQ results379 Z ?_);have sg:bH (fun i=>cI (xs.getD i default)) (k+1)=bH (fun i=>cI (xs.getD i default)) k+cI (xs.getD k default):=Z;have sl:=kl (f:=(fun i=>cI (xs.getD i default))) (j:=k+1) (k:=xs.length) (by omega);exact ⟨H2.ext,by rw [if_pos (by rw [gx (f:=cI)]; omega)]⟩
   ·refine ah (aj (sM Z Z (sV Z (az Z Z iO) (sA Z Z (aa ?_)))));have sg:bH (fun i=>cI (xs.getD i default)) (k+1)=bH (fun i=>cI (xs.getD i default)) k+cI (xs.getD k default):=Z;refine ⟨(k+1,_),⟨Z,Z,Z,trivial⟩,⟨(H2.ftake 1),by omega,by omega,by omega⟩,by dsimp only; omega⟩
  ·refine aG (ab (sR 2 Z (rN hQ results379 Z ?_)));obtain rfl:k=xs.length:=by omega
   exact ⟨H1.ext,congrArg (Value.int .i64) (by rw [gx (f:=cI)]; omega)⟩
theorem oX {w:World}{xs:List Block}{xsA:Option Addr}{xsC:Nat}(xsS:Sees w [.slice xsA xs.length xsC] xs) (hl:szL cI xs≤1048576):Ret Tryz.prog 381 #[.slice xsA xs.length xsC] w fun v w'=>Ext No w w'∧(Res w w' [v] xs):=by
 have xsL:=sL xsS;obtain ⟨xsF,xsO⟩:=xsS;have hl0:xs.length≤1048576:=by unfold szL at hl; omega
 refine aC (vs:=[.slice xsA xs.length xsC]) func381 Z ntmps381 Z (fun Q hQ hN=>?_);have H0:=Sep.start (w:=w) (F:=[seen false [.slice xsA xs.length xsC] xs xsF]) (all_cons xsO (by simp));refine ab (sA Z Z (aa (ab (sM Z Z (sV Z (aB rV Z) (gw (wn Z) Z ep lf (show ∀ w,own true w (Value.agg #[.int .i64 0,.slice none 0 0]).cells.toList (default:Block) [] from fun _=>z2) Z (by omega) (by unfold maxLen; omega) H0 (fun b1 w1 e1 g1 H1=>sA Z Z (aa (ac (ab (sA Z Z (aa (ao (ba (γ:=Nat × List Nat) (fun (k,fp)=>[(0,.slice xsA xs.length xsC),(3,.slice (some ⟨b1,0,none⟩) xs.length xs.length),(4,.int .i64 k)]) (fun (k,fp) w'=>Sep No w [mine [.slice (some ⟨b1,0,none⟩) xs.length xs.length] (cp xs k default) fp] [seen false [.slice xsA xs.length xsC] xs xsF] w'∧k≤xs.length) (fun (k,fp)=>xs.length-k) (0,[b1]) ⟨Z,Z,Z,trivial⟩ ⟨lO ▸ H1,by omega⟩ (fun (k,fp) w2 H2=>?_)))))))))))))));obtain ⟨H2,hk⟩:=H2;refine ac (ab (sR 2 Z (sV Z (aB rV Z) (sV Z (aN Z Z) (aa (ay Z (fun c1=>?_) (fun c1=>?_)))))))
 ·refine ah (ac (ao ?_));obtain ⟨hg,hg2⟩:=dx hl k (by omega);obtain ⟨eb1,eo1,es1,ef1,ee1,ec1,eO1,eH1,em1⟩:=aS (H2.seen 0 Z) k (by omega);obtain ⟨ea1,ek1,eg1,rfl,eq1,eK1,eo2⟩:=dS eO1;have eK1U:=eK1;unfold Block.Ok at eK1U
  try unfold I64ok at eK1U
  try unfold maxLen at eK1U
  have eP1:=H2.look1 0 Z eo2 (fun b hb=>eH1 b (by rw [eq1]; simp [hb]));have eL1:=oL eo2;obtain ⟨eb2,eo3,ee2⟩:=dW (eP1.mine 0 Z) k (by rw [hZ (xs:=xs) (k:=k) (by omega)]; omega);refine aj (sR 4 Z (sV Z (au rV Dk Z Z ee1 k (by omega) (by omega)) (sV Z (an zd Z Dk Z Z ec1) (sC func431 BD Z (qE (by assumption) (eP1.sees 1 Z) (by assumption)) (fun v1 w3 r1=>?_)))));obtain ⟨e2,sa1,sk1,rfl,r1⟩:=r1;obtain ⟨fp1,H3⟩:=eP1.res e2 r1;refine sV Z (au ep iD Z Z ee2 k (by omega) (by omega)) (qi (wn Z) iD H3 0 1 Z Z Z k (by rw [hZ (xs:=xs) (k:=k) (by omega)]; omega) Z ee2 Z (fun w4 fp2 H4=>aa ?_));obtain ⟨hg,hg2⟩:=dx hl k (by omega);refine aj (sM Z Z (sV Z (az Z Z iO) (sA Z Z (aa (⟨(k+1,_),⟨Z,Z,Z,trivial⟩,⟨oG (xs:=xs) (k:=k) (d:=default) (by omega) ▸ ((H4.ftake 1).dtake 1),by omega⟩,by dsimp only; omega⟩)))))
 ·refine aG (ab (sR 2 Z (rN hQ results381 Z ?_)));obtain rfl:k=xs.length:=by omega
  exact ⟨H2.ext,by
   have h:=H2.out 0 Z
   rwa [pz] at h⟩
theorem pf {w:World}{xs:List Block}{xsA:Option Addr}{xsC:Nat}{ys:List Block}{ysA:Option Addr}{ysC:Nat}(xsS:Sees w [.slice xsA xs.length xsC] xs) (ysS:Sees w [.slice ysA ys.length ysC] ys):Ret Tryz.prog 395 #[.slice xsA xs.length xsC,.slice ysA ys.length ysC] w fun v w'=>Ext No w w'∧(v = .bool (decide (xs=ys))):=by
 have xsL:=sL xsS;obtain ⟨xsF,xsO⟩:=xsS;have ysL:=sL ysS;obtain ⟨ysF,ysO⟩:=ysS;refine aC (vs:=[.slice xsA xs.length xsC,.slice ysA ys.length ysC]) func395 Z ntmps395 Z (fun Q hQ hN=>?_);have H0:=Sep.start (w:=w) (F:=[seen false [.slice xsA xs.length xsC] xs xsF,seen false [.slice ysA ys.length ysC] ys ysF]) (all_cons xsO (all_cons ysO (by simp)));refine ab (sA Z Z (aa (ac (ab (sM Z Z (sV Z (aB ep Z) (sM Z Z (sV Z (aB ep Z) (sV Z (bv Z Z) (aa (ay Z (fun c1=>?_) (fun c1=>?_))))))))))))
 ·refine ab (sA Z Z (aa (rT hQ results395 Z (⟨H0.ext,?_⟩))));rw [decide_eq_false (fun e=>by subst e; exact c1 rfl)]
 ·refine ah (ac (ab (sA Z Z (aa (ao (ba (γ:=Nat) (fun k=>[(0,.slice xsA xs.length xsC),(1,.slice ysA ys.length ysC),(5,.int .i64 k)]) (fun k w'=>Sep No w [] [seen false [.slice xsA xs.length xsC] xs xsF,seen false [.slice ysA ys.length ysC] ys ysF] w'∧k≤xs.length∧(∀ i,i<k→xs.getD i default=ys.getD i default)) (fun k=>xs.length-k) 0 ⟨Z,Z,Z,trivial⟩ ⟨H0,by omega,fun i hi=>by omega⟩ (fun k w1 H1=>?_)))))));obtain ⟨H1,hk,he⟩:=H1;refine ac (ab (sR 2 Z (sV Z (aB ep Z) (sV Z (aN Z Z) (aa (ay Z (fun c2=>?_) (fun c2=>?_)))))))
  ·refine ah (ac (ao (ac ?_)));obtain ⟨eb1,eo1,es1,ef1,ee1,ec1,eO1,eH1,em1⟩:=aS (H1.seen 0 Z) k (by omega);obtain ⟨ea1,ek1,eg1,rfl,eq1,eK1,eo2⟩:=dS eO1;have eK1U:=eK1;unfold Block.Ok at eK1U
   try unfold I64ok at eK1U
   try unfold maxLen at eK1U
   have eP1:=H1.look1 0 Z eo2 (fun b hb=>eH1 b (by rw [eq1]; simp [hb]));have eL1:=oL eo2;obtain ⟨eb2,eo3,es2,ef2,ee2,ec2,eO2,eH2,em2⟩:=aS (eP1.seen 1 Z) k (by omega);obtain ⟨ea2,ek2,eg2,rfl,eq2,eK2,eo4⟩:=dS eO2;have eK2U:=eK2;unfold Block.Ok at eK2U
   try unfold I64ok at eK2U
   try unfold maxLen at eK2U
   have eP2:=eP1.look1 1 Z eo4 (fun b hb=>eH2 b (by rw [eq2]; simp [hb]));have eL2:=oL eo4;refine bE (S:=Ext No _) (oQ [1,3,5,7,9,11,13,15,16,18]) (by kernel_rfl) (by kernel_rfl) (by kernel_rfl) Z (fun _=>Ext.refl.drawn _) (fun q1=>?_);have H2:=eP2.drawn q1;refine dR 2 Z (dV Z Z (fun zw hx=>au ep iD Z Z ee1 k (by omega) (by omega)) (dV Z Z (fun zw hx=>an gW Z iD Z Z (hx.at ec1)) (dR 2 Z (dV Z Z (fun zw hx=>au ep iD Z Z ee2 k (by omega) (by omega)) (dV Z Z (fun zw hx=>an gW Z iD Z Z (hx.at ec2)) (dC func438 AF Z (qu (by assumption) (H2.sees 2 Z) (by assumption) (H2.sees 3 Z)) (fun v1 w2 r1=>?_)))))));obtain ⟨e1,rfl⟩:=r1;have H3:=H2.to e1;refine aP Z (wn Z) Z Z (aX Z) (aQ (bI Z (fun c3=>?_) (fun c3=>?_)))
   ·refine ab (sA Z Z (aa (rT hQ results395 Z (⟨H3.ext,?_⟩))));rw [decide_eq_false (fun e=>by subst e; simp at c3)]
   ·refine ah (aj (sM Z Z (sV Z (az Z Z iO) (sA Z Z (aa ?_)))));have c4:xs.getD k default=ys.getD k default:=by simpa using c3
    refine ⟨k+1,⟨Z,Z,Z,trivial⟩,⟨(H3.ftake 2),by omega,fun i hi=>?_⟩,by dsimp only; omega⟩
    by_cases e:i=k
    ·subst e; exact c4
    ·exact he i (by omega)
  ·refine aG (ab (sA Z Z (aa (rT hQ results395 Z (⟨H1.ext,?_⟩)))));rw [decide_eq_true (dp (d:=default) (by omega) fun i hi=>he i (by omega))]
theorem qd {w:World}{x:Drive}{xA1:Option Addr}{xC1:Nat}{l:Int}(xK:x.Ok) (xS1:Sees w [.slice xA1 x.Blocks.length xC1] x.Blocks) (hl : -1≤l∧l≤1048576):Ret Tryz.prog 306 #[x.val xA1 xC1,.int .i64 l] w fun v w'=>Ext No w w'∧(v = .int .i64 (if l-bx x<0 then -1 else l-bx x)):=by
 have xK2:=xK;unfold Drive.Ok at xK2
 try unfold I64ok at xK2
 try unfold maxLen at xK2
 have xL1:=sL xS1;obtain ⟨xF1,xO1⟩:=xS1;refine aC (vs:=[x.val xA1 xC1,.int .i64 l]) func306 Z ntmps306 Z (fun Q hQ hN=>?_);have H0:=Sep.start (w:=w) (F:=[seen false [.slice xA1 x.Blocks.length xC1] x.Blocks xF1]) (all_cons xO1 (by simp));refine ab (aZ (wn Z) Z Z H0 (fun b1 w1 e1 g1 H1=>sA Z Z (aa (ab (sF yf Z Hi (sLd rV (H1.box 0 Z) Z (sM Z Z (sE func379 Ak Z (pj (H1.sees 0 Z) (by omega)) H1 (fun w2 e2 H2=>sA Z Z (aa (ac (ab (sR 2 Z (aa (ay Z (fun c1=>?_) (fun c1=>?_))))))))))))))))
 ·refine ab (rA hQ results306 Z ?_);exact ⟨H2.ext,congrArg (Value.int .i64) (by unfold bx; omega)⟩
 ·refine ah (ab (sR 2 Z (rN hQ results306 Z ?_)));exact ⟨H2.ext,congrArg (Value.int .i64) (by unfold bx; omega)⟩
theorem pS {w:World}{x:Drive}{xA1:Option Addr}{xC1:Nat}(xK:x.Ok) (xS1:Sees w [.slice xA1 x.Blocks.length xC1] x.Blocks) (hb:bx x≤1048576):Ret Tryz.prog 311 #[x.val xA1 xC1] w fun v w'=>Ext No w w'∧(∃ A1 C1,v=x.val A1 C1∧Res w w' [.bool x.Wiped,.slice A1 x.Blocks.length C1] x):=by
 have xK2:=xK;unfold Drive.Ok at xK2
 try unfold I64ok at xK2
 try unfold maxLen at xK2
 have xL1:=sL xS1;obtain ⟨xF1,xO1⟩:=xS1;unfold bx at hb;refine aC (vs:=[x.val xA1 xC1]) func311 Z ntmps311 Z (fun Q hQ hN=>?_);have H0:=Sep.start (w:=w) (F:=[seen false [.slice xA1 x.Blocks.length xC1] x.Blocks xF1]) (all_cons xO1 (by simp));refine ab (aZ (wn Z) Z Z H0 (fun b1 w1 e1 g1 H1=>bW (wn Z) Z zeroValue62 H1 (fun b2 w2 e2 g2 H2=>aa (ab (bW (wn Z) Z zeroValue62 H2 (fun b3 w3 e3 g3 H3=>aa (ab (sF yf Z ts4 (sLd tu4 (H3.box 0 Z) Z (sF eV Z ts4 (bR (wn Z) ts4 Z Z Z H3 2 Z Z (fun w4 e4 H4=>?_))))))))))));dsimp only[lNA,lCA,lSZ,lSS,aL] at H4;refine aa (ab (sF yf Z Hi (sLd rV (H4.box 0 Z) Z (sC func381 Bi Z (oX (H4.sees 0 Z) (by first | assumption | omega)) (fun v1 w5 r1=>?_)))));obtain ⟨e5,r1⟩:=r1;obtain ⟨fp1,H5⟩:=H4.res e5 r1;obtain ⟨a1,k1,q1⟩:=ax (H5.mine 3 Z);cases q1;refine sF eV Z lk (bR (wn Z) lk Z Z Z H5 2 Z Z (fun w6 e6 H6=>?_));dsimp only[lNA,lCA,lSZ,lSS,aL] at H6;refine aa (ab (sV Z (an eV Z fa Z Z (At.whole (H6.box 2 Z))) (bc (wn Z) fa Z Z Z Z H6 1 Z Z (fun w7 e7 H7=>?_))));dsimp only[lNA,lCA,lSZ,lSS,aL] at H7;refine aa (bM (hQ _ _ (dI results311 Z (aI eV Z fa Z (At.whole (H7.box 1 Z))) ?_)));exact ⟨H7.ext,_,_,Z,Drive.out (H7.sub (.cons _ (.cons _ (.cons _ (.cons_cons _ List.Sublist.slnil))))) xK⟩
theorem p5 {w:World}{a:Drive}{aA1:Option Addr}{aC1:Nat}{b:Drive}{bA1:Option Addr}{bC1:Nat}(aK:a.Ok) (aS1:Sees w [.slice aA1 a.Blocks.length aC1] a.Blocks) (bK:b.Ok) (bS1:Sees w [.slice bA1 b.Blocks.length bC1] b.Blocks):Ret Tryz.prog 317 #[a.val aA1 aC1,b.val bA1 bC1] w fun v w'=>Ext No w w'∧(v = .bool (decide (a=b))):=by
 have aK2:=aK;unfold Drive.Ok at aK2
 try unfold I64ok at aK2
 try unfold maxLen at aK2
 have aL1:=sL aS1;obtain ⟨aF1,aO1⟩:=aS1;have bK2:=bK;unfold Drive.Ok at bK2
 try unfold I64ok at bK2
 try unfold maxLen at bK2
 have bL1:=sL bS1;obtain ⟨bF1,bO1⟩:=bS1;refine aC (vs:=[a.val aA1 aC1,b.val bA1 bC1]) func317 Z ntmps317 Z (fun Q hQ hN=>?_);have H0:=Sep.start (w:=w) (F:=[seen false [.slice aA1 a.Blocks.length aC1] a.Blocks aF1,seen false [.slice bA1 b.Blocks.length bC1] b.Blocks bF1]) (all_cons aO1 (all_cons bO1 (by simp)));refine ab (aZ (wn Z) Z Z H0 (fun b1 w1 e1 g1 H1=>aZ (wn Z) Z Z H1 (fun b2 w2 e2 g2 H2=>sA Z Z (aa (ac (ab (sF eV Z ts4 (sLd tu4 (H2.box 0 Z) Z (sF eV Z ts4 (sLd tu4 (H2.box 1 Z) Z (sV Z (pU tu4 Z Z) (aa (bI Z (fun c1=>?_) (fun c1=>?_))))))))))))))
 ·refine ab (sA Z Z (aa (rT hQ results317 Z (⟨H2.ext,?_⟩))));rw [decide_eq_false (fun e=>by subst e; first | exact c1 rfl | simp at c1)]
 ·refine ah (ac (ab (sF eV Z lk (sLd ep (H2.box 0 Z) Z (sF eV Z lk (sLd ep (H2.box 1 Z) Z (sE func395 AU Z (pf (H2.sees 0 Z) (H2.sees 1 Z)) H2 (fun w3 e3 H3=>sV Z (aX Z) (aa (bI Z (fun c2=>?_) (fun c2=>?_)))))))))))
  ·refine ab (sA Z Z (aa (rT hQ results317 Z (⟨H3.ext,?_⟩))));rw [decide_eq_false (fun e=>by subst e; first | exact c2 rfl | simp at c2)]
  ·refine ah (ab (sA Z Z (aa (rT hQ results317 Z (⟨H3.ext,?_⟩)))));rw [decide_eq_true];cases a; cases b; simp_all [jp]
theorem px {w:World}{xs:List Drive}{xsA:Option Addr}{xsC:Nat}{l:Int}(xsS:Sees w [.slice xsA xs.length xsC] xs) (hl : -1≤l∧l≤1048576):Ret Tryz.prog 181 #[.slice xsA xs.length xsC,.int .i64 l] w fun v w'=>Ext No w w'∧(v = .int .i64 (if l-szL bx xs<0 then -1 else l-szL bx xs)):=by
 have xsL:=sL xsS;obtain ⟨xsF,xsO⟩:=xsS;refine aC (vs:=[.slice xsA xs.length xsC,.int .i64 l]) func181 Z ntmps181 Z (fun Q hQ hN=>?_);have H0:=Sep.start (w:=w) (F:=[seen false [.slice xsA xs.length xsC] xs xsF]) (all_cons xsO (by simp));refine ab (sA Z Z (aa (ab (sR 2 Z (sV Z (aB rZ Z) (sV Z (bn Z Z iO) (sA Z Z (aa (ac (ab (sR 2 Z (aa (ay Z (fun c1=>?_) (fun c1=>?_))))))))))))))
 ·refine ab (rA hQ results181 Z ?_);exact ⟨H0.ext,by rw [if_pos (by rw [gx (f:=bx)]; omega)]⟩
 ·refine ah (ac (ab (sA Z Z (aa (ao (ba (γ:=Nat × Int) (fun (k,m)=>[(0,.slice xsA xs.length xsC),(1,.int .i64 m),(5,.int .i64 k)]) (fun (k,m) w'=>Sep No w [] [seen false [.slice xsA xs.length xsC] xs xsF] w'∧k≤xs.length∧0≤m∧m=l-xs.length-bH (fun i=>bx (xs.getD i default)) k) (fun (k,m)=>xs.length-k) (0,_) ⟨Z,Z,Z,trivial⟩ ⟨H0,by omega,by omega,by simp only [bH]; omega⟩ (fun (k,m) w1 H1=>?_)))))));obtain ⟨H1,hk,hm,hs⟩:=H1;refine ac (ab (sR 2 Z (sV Z (aB rZ Z) (sV Z (aN Z Z) (aa (ay Z (fun c2=>?_) (fun c2=>?_)))))))
  ·refine ah (ac (ao (ac ?_)));obtain ⟨eb1,eo1,es1,ef1,ee1,ec1,eO1,eH1,em1⟩:=aS (H1.seen 0 Z) k (by omega);obtain ⟨ea1,ek1,eg1,rfl,eq1,eK1,eo2⟩:=cX eO1;have eP1:=H1.look1 0 Z eo2 (fun b hb=>eH1 b (by rw [eq1]; simp [hb]));have eL1:=oL eo2;refine aj (sR 2 Z (sV Z (au rZ CG Z Z ee1 k (by omega) (by omega)) (sV Z (an yf Z CG Z Z ec1) (sM Z Z (sE func306 AP Z (qd (by assumption) (eP1.sees 1 Z) (by omega)) eP1 (fun w2 e1 H2=>sA Z Z (aa (ab (sR 2 Z (aa (ay Z (fun c3=>?_) (fun c3=>?_))))))))))))
   ·refine ab (rA hQ results181 Z ?_);have sg:bH (fun i=>bx (xs.getD i default)) (k+1)=bH (fun i=>bx (xs.getD i default)) k+bx (xs.getD k default):=Z;have sl:=kl (f:=(fun i=>bx (xs.getD i default))) (j:=k+1) (k:=xs.length) (by omega);exact ⟨H2.ext,by rw [if_pos (by rw [gx (f:=bx)]; omega)]⟩
   ·refine ah (aj (sM Z Z (sV Z (az Z Z iO) (sA Z Z (aa ?_)))));have sg:bH (fun i=>bx (xs.getD i default)) (k+1)=bH (fun i=>bx (xs.getD i default)) k+bx (xs.getD k default):=Z;refine ⟨(k+1,_),⟨Z,Z,Z,trivial⟩,⟨(H2.ftake 1),by omega,by omega,by omega⟩,by dsimp only; omega⟩
  ·refine aG (ab (sR 2 Z (rN hQ results181 Z ?_)));obtain rfl:k=xs.length:=by omega
   exact ⟨H1.ext,congrArg (Value.int .i64) (by rw [gx (f:=bx)]; omega)⟩
theorem oy {w:World}{xs:List Drive}{xsA:Option Addr}{xsC:Nat}(xsS:Sees w [.slice xsA xs.length xsC] xs) (hl:szL bx xs≤1048576):Ret Tryz.prog 189 #[.slice xsA xs.length xsC] w fun v w'=>Ext No w w'∧(Res w w' [v] xs):=by
 have xsL:=sL xsS;obtain ⟨xsF,xsO⟩:=xsS;have hl0:xs.length≤1048576:=by unfold szL at hl; omega
 refine aC (vs:=[.slice xsA xs.length xsC]) func189 Z ntmps189 Z (fun Q hQ hN=>?_);have H0:=Sep.start (w:=w) (F:=[seen false [.slice xsA xs.length xsC] xs xsF]) (all_cons xsO (by simp));refine ab (sA Z Z (aa (ab (sM Z Z (sV Z (aB rZ Z) (gw (wn Z) Z dm iC (show ∀ w,own true w (Value.agg #[.bool false,.slice none 0 0]).cells.toList (default:Drive) [] from fun _=>AN) Z (by omega) (by unfold maxLen; omega) H0 (fun b1 w1 e1 g1 H1=>sA Z Z (aa (ac (ab (sA Z Z (aa (ao (ba (γ:=Nat × List Nat) (fun (k,fp)=>[(0,.slice xsA xs.length xsC),(3,.slice (some ⟨b1,0,none⟩) xs.length xs.length),(4,.int .i64 k)]) (fun (k,fp) w'=>Sep No w [mine [.slice (some ⟨b1,0,none⟩) xs.length xs.length] (cp xs k default) fp] [seen false [.slice xsA xs.length xsC] xs xsF] w'∧k≤xs.length) (fun (k,fp)=>xs.length-k) (0,[b1]) ⟨Z,Z,Z,trivial⟩ ⟨lO ▸ H1,by omega⟩ (fun (k,fp) w2 H2=>?_)))))))))))))));obtain ⟨H2,hk⟩:=H2;refine ac (ab (sR 2 Z (sV Z (aB rZ Z) (sV Z (aN Z Z) (aa (ay Z (fun c1=>?_) (fun c1=>?_)))))))
 ·refine ah (ac (ao ?_));obtain ⟨hg,hg2⟩:=dx hl k (by omega);obtain ⟨eb1,eo1,es1,ef1,ee1,ec1,eO1,eH1,em1⟩:=aS (H2.seen 0 Z) k (by omega);obtain ⟨ea1,ek1,eg1,rfl,eq1,eK1,eo2⟩:=cX eO1;have eP1:=H2.look1 0 Z eo2 (fun b hb=>eH1 b (by rw [eq1]; simp [hb]));have eL1:=oL eo2;obtain ⟨eb2,eo3,ee2⟩:=dW (eP1.mine 0 Z) k (by rw [hZ (xs:=xs) (k:=k) (by omega)]; omega);refine aj (sR 4 Z (sV Z (au rZ CG Z Z ee1 k (by omega) (by omega)) (sV Z (an yf Z CG Z Z ec1) (sC func311 A4 Z (pS (by assumption) (eP1.sees 1 Z) (by assumption)) (fun v1 w3 r1=>?_)))));obtain ⟨e2,sa1,sk1,rfl,r1⟩:=r1;obtain ⟨fp1,H3⟩:=eP1.res e2 r1;refine sV Z (au dm fa Z Z ee2 k (by omega) (by omega)) (qi (wn Z) fa H3 0 1 Z Z Z k (by rw [hZ (xs:=xs) (k:=k) (by omega)]; omega) Z ee2 Z (fun w4 fp2 H4=>aa ?_));obtain ⟨hg,hg2⟩:=dx hl k (by omega);refine aj (sM Z Z (sV Z (az Z Z iO) (sA Z Z (aa (⟨(k+1,_),⟨Z,Z,Z,trivial⟩,⟨oG (xs:=xs) (k:=k) (d:=default) (by omega) ▸ ((H4.ftake 1).dtake 1),by omega⟩,by dsimp only; omega⟩)))))
 ·refine aG (ab (sR 2 Z (rN hQ results189 Z ?_)));obtain rfl:k=xs.length:=by omega
  exact ⟨H2.ext,by
   have h:=H2.out 0 Z
   rwa [pz] at h⟩
theorem py {w:World}{xs:List Drive}{xsA:Option Addr}{xsC:Nat}{ys:List Drive}{ysA:Option Addr}{ysC:Nat}(xsS:Sees w [.slice xsA xs.length xsC] xs) (ysS:Sees w [.slice ysA ys.length ysC] ys):Ret Tryz.prog 199 #[.slice xsA xs.length xsC,.slice ysA ys.length ysC] w fun v w'=>Ext No w w'∧(v = .bool (decide (xs=ys))):=by
 have xsL:=sL xsS;obtain ⟨xsF,xsO⟩:=xsS;have ysL:=sL ysS;obtain ⟨ysF,ysO⟩:=ysS;refine aC (vs:=[.slice xsA xs.length xsC,.slice ysA ys.length ysC]) func199 Z ntmps199 Z (fun Q hQ hN=>?_);have H0:=Sep.start (w:=w) (F:=[seen false [.slice xsA xs.length xsC] xs xsF,seen false [.slice ysA ys.length ysC] ys ysF]) (all_cons xsO (all_cons ysO (by simp)));refine ab (sA Z Z (aa (ac (ab (sM Z Z (sV Z (aB dm Z) (sM Z Z (sV Z (aB dm Z) (sV Z (bv Z Z) (aa (ay Z (fun c1=>?_) (fun c1=>?_))))))))))))
 ·refine ab (sA Z Z (aa (rT hQ results199 Z (⟨H0.ext,?_⟩))));rw [decide_eq_false (fun e=>by subst e; exact c1 rfl)]
 ·refine ah (ac (ab (sA Z Z (aa (ao (ba (γ:=Nat) (fun k=>[(0,.slice xsA xs.length xsC),(1,.slice ysA ys.length ysC),(5,.int .i64 k)]) (fun k w'=>Sep No w [] [seen false [.slice xsA xs.length xsC] xs xsF,seen false [.slice ysA ys.length ysC] ys ysF] w'∧k≤xs.length∧(∀ i,i<k→xs.getD i default=ys.getD i default)) (fun k=>xs.length-k) 0 ⟨Z,Z,Z,trivial⟩ ⟨H0,by omega,fun i hi=>by omega⟩ (fun k w1 H1=>?_)))))));obtain ⟨H1,hk,he⟩:=H1;refine ac (ab (sR 2 Z (sV Z (aB dm Z) (sV Z (aN Z Z) (aa (ay Z (fun c2=>?_) (fun c2=>?_)))))))
  ·refine ah (ac (ao (ac ?_)));obtain ⟨eb1,eo1,es1,ef1,ee1,ec1,eO1,eH1,em1⟩:=aS (H1.seen 0 Z) k (by omega);obtain ⟨ea1,ek1,eg1,rfl,eq1,eK1,eo2⟩:=cX eO1;have eP1:=H1.look1 0 Z eo2 (fun b hb=>eH1 b (by rw [eq1]; simp [hb]));have eL1:=oL eo2;obtain ⟨eb2,eo3,es2,ef2,ee2,ec2,eO2,eH2,em2⟩:=aS (eP1.seen 1 Z) k (by omega);obtain ⟨ea2,ek2,eg2,rfl,eq2,eK2,eo4⟩:=cX eO2;have eP2:=eP1.look1 1 Z eo4 (fun b hb=>eH2 b (by rw [eq2]; simp [hb]));have eL2:=oL eo4;refine bE (S:=Ext No _) (oQ [1,3,5,7,9,11,13,15,16,18]) (by kernel_rfl) (by kernel_rfl) (by kernel_rfl) Z (fun _=>Ext.refl.drawn _) (fun q1=>?_);have H2:=eP2.drawn q1;refine dR 2 Z (dV Z Z (fun zw hx=>au dm fa Z Z ee1 k (by omega) (by omega)) (dV Z Z (fun zw hx=>an eV Z fa Z Z (hx.at ec1)) (dR 2 Z (dV Z Z (fun zw hx=>au dm fa Z Z ee2 k (by omega) (by omega)) (dV Z Z (fun zw hx=>an eV Z fa Z Z (hx.at ec2)) (dC func317 Ch Z (p5 (by assumption) (H2.sees 2 Z) (by assumption) (H2.sees 3 Z)) (fun v1 w2 r1=>?_)))))));obtain ⟨e1,rfl⟩:=r1;have H3:=H2.to e1;refine aP Z (wn Z) Z Z (aX Z) (aQ (bI Z (fun c3=>?_) (fun c3=>?_)))
   ·refine ab (sA Z Z (aa (rT hQ results199 Z (⟨H3.ext,?_⟩))));rw [decide_eq_false (fun e=>by subst e; simp at c3)]
   ·refine ah (aj (sM Z Z (sV Z (az Z Z iO) (sA Z Z (aa ?_)))));have c4:xs.getD k default=ys.getD k default:=by simpa using c3
    refine ⟨k+1,⟨Z,Z,Z,trivial⟩,⟨(H3.ftake 2),by omega,fun i hi=>?_⟩,by dsimp only; omega⟩
    by_cases e:i=k
    ·subst e; exact c4
    ·exact he i (by omega)
  ·refine aG (ab (sA Z Z (aa (rT hQ results199 Z (⟨H1.ext,?_⟩)))));rw [decide_eq_true (dp (d:=default) (by omega) fun i hi=>he i (by omega))]
theorem nH {w:World}{xs:List (List Drive)}{xsA:Option Addr}{xsC:Nat}{l:Int}(xsS:Sees w [.slice xsA xs.length xsC] xs) (hl : -1≤l∧l≤1048576):Ret Tryz.prog 74 #[.slice xsA xs.length xsC,.int .i64 l] w fun v w'=>Ext No w w'∧(v = .int .i64 (if l-szL (szL bx) xs<0 then -1 else l-szL (szL bx) xs)):=by
 have xsL:=sL xsS;obtain ⟨xsF,xsO⟩:=xsS;refine aC (vs:=[.slice xsA xs.length xsC,.int .i64 l]) func74 Z ntmps74 Z (fun Q hQ hN=>?_);have H0:=Sep.start (w:=w) (F:=[seen false [.slice xsA xs.length xsC] xs xsF]) (all_cons xsO (by simp));refine ab (sA Z Z (aa (ab (sR 2 Z (sV Z (aB yQ Z) (sV Z (bn Z Z iO) (sA Z Z (aa (ac (ab (sR 2 Z (aa (ay Z (fun c1=>?_) (fun c1=>?_))))))))))))))
 ·refine ab (rA hQ results74 Z ?_);exact ⟨H0.ext,by rw [if_pos (by rw [gx (f:=(szL bx))]; omega)]⟩
 ·refine ah (ac (ab (sA Z Z (aa (ao (ba (γ:=Nat × Int) (fun (k,m)=>[(0,.slice xsA xs.length xsC),(1,.int .i64 m),(5,.int .i64 k)]) (fun (k,m) w'=>Sep No w [] [seen false [.slice xsA xs.length xsC] xs xsF] w'∧k≤xs.length∧0≤m∧m=l-xs.length-bH (fun i=>(szL bx) (xs.getD i default)) k) (fun (k,m)=>xs.length-k) (0,_) ⟨Z,Z,Z,trivial⟩ ⟨H0,by omega,by omega,by simp only [bH]; omega⟩ (fun (k,m) w1 H1=>?_)))))));obtain ⟨H1,hk,hm,hs⟩:=H1;refine ac (ab (sR 2 Z (sV Z (aB yQ Z) (sV Z (aN Z Z) (aa (ay Z (fun c2=>?_) (fun c2=>?_)))))))
  ·refine ah (ac (ao (ac ?_)));obtain ⟨eb1,eo1,ea1,ek1,ef1,ee1,ec1,eO1,eH1⟩:=cK (H1.seen 0 Z) k (by omega);have eP1:=H1.look1 0 Z eO1 eH1;refine aj (sR 2 Z (sV Z (au yQ Hd Z Z ee1 k (by omega) (by omega)) (sV Z (ae rZ Z Z ec1) (sM Z Z (sE func181 BL Z (px (eP1.sees 1 Z) (by omega)) eP1 (fun w2 e1 H2=>sA Z Z (aa (ab (sR 2 Z (aa (ay Z (fun c3=>?_) (fun c3=>?_))))))))))))
   ·refine ab (rA hQ results74 Z ?_);have sg:bH (fun i=>(szL bx) (xs.getD i default)) (k+1)=bH (fun i=>(szL bx) (xs.getD i default)) k+(szL bx) (xs.getD k []):=Z;have sl:=kl (f:=(fun i=>(szL bx) (xs.getD i default))) (j:=k+1) (k:=xs.length) (by omega);exact ⟨H2.ext,by rw [if_pos (by rw [gx (f:=(szL bx))]; omega)]⟩
   ·refine ah (aj (sM Z Z (sV Z (az Z Z iO) (sA Z Z (aa ?_)))));have sg:bH (fun i=>(szL bx) (xs.getD i default)) (k+1)=bH (fun i=>(szL bx) (xs.getD i default)) k+(szL bx) (xs.getD k []):=Z;refine ⟨(k+1,_),⟨Z,Z,Z,trivial⟩,⟨(H2.ftake 1),by omega,by omega,by omega⟩,by dsimp only; omega⟩
  ·refine aG (ab (sR 2 Z (rN hQ results74 Z ?_)));obtain rfl:k=xs.length:=by omega
   exact ⟨H1.ext,congrArg (Value.int .i64) (by rw [gx (f:=(szL bx))]; omega)⟩
theorem nM {w:World}{xs:List (List Drive)}{xsA:Option Addr}{xsC:Nat}(xsS:Sees w [.slice xsA xs.length xsC] xs) (hl:szL (szL bx) xs≤1048576):Ret Tryz.prog 82 #[.slice xsA xs.length xsC] w fun v w'=>Ext No w w'∧(Res w w' [v] xs):=by
 have xsL:=sL xsS;obtain ⟨xsF,xsO⟩:=xsS;have hl0:xs.length≤1048576:=by unfold szL at hl; omega
 refine aC (vs:=[.slice xsA xs.length xsC]) func82 Z ntmps82 Z (fun Q hQ hN=>?_);have H0:=Sep.start (w:=w) (F:=[seen false [.slice xsA xs.length xsC] xs xsF]) (all_cons xsO (by simp));refine ab (sA Z Z (aa (ab (sM Z Z (sV Z (aB yQ Z) (gw (wn Z) Z db ld (xk (α:=Drive)) Z (by omega) (by unfold maxLen; omega) H0 (fun b1 w1 e1 g1 H1=>sA Z Z (aa (ac (ab (sA Z Z (aa (ao (ba (γ:=Nat × List Nat) (fun (k,fp)=>[(0,.slice xsA xs.length xsC),(3,.slice (some ⟨b1,0,none⟩) xs.length xs.length),(4,.int .i64 k)]) (fun (k,fp) w'=>Sep No w [mine [.slice (some ⟨b1,0,none⟩) xs.length xs.length] (cp xs k []) fp] [seen false [.slice xsA xs.length xsC] xs xsF] w'∧k≤xs.length) (fun (k,fp)=>xs.length-k) (0,[b1]) ⟨Z,Z,Z,trivial⟩ ⟨lO ▸ H1,by omega⟩ (fun (k,fp) w2 H2=>?_)))))))))))))));obtain ⟨H2,hk⟩:=H2;refine ac (ab (sR 2 Z (sV Z (aB yQ Z) (sV Z (aN Z Z) (aa (ay Z (fun c1=>?_) (fun c1=>?_)))))))
 ·refine ah (ac (ao ?_));obtain ⟨hg,hg2⟩:=dx hl k (by omega);obtain ⟨eb1,eo1,ea1,ek1,ef1,ee1,ec1,eO1,eH1⟩:=cK (H2.seen 0 Z) k (by omega);have eP1:=H2.look1 0 Z eO1 eH1;obtain ⟨eb2,eo2,ee2⟩:=dW (eP1.mine 0 Z) k (by rw [hZ (xs:=xs) (k:=k) (by omega)]; omega);refine aj (sR 4 Z (sV Z (au yQ Hd Z Z ee1 k (by omega) (by omega)) (sV Z (ae rZ Z Z ec1) (sC func189 Cm Z (oy (eP1.sees 1 Z) (by first | assumption | omega)) (fun v1 w3 r1=>?_)))));obtain ⟨e2,r1⟩:=r1;obtain ⟨fp1,H3⟩:=eP1.res e2 r1;obtain ⟨a1,k1,q1⟩:=ax (H3.mine 1 Z);cases q1;refine sV Z (au db kS Z Z ee2 k (by omega) (by omega)) (Gh (wn Z) kS Z H3 0 1 Z Z Z k (by rw [hZ (xs:=xs) (k:=k) (by omega)]; omega) Z ee2 Z (fun w4 fp2 H4=>aa ?_));obtain ⟨hg,hg2⟩:=dx hl k (by omega);refine aj (sM Z Z (sV Z (az Z Z iO) (sA Z Z (aa (⟨(k+1,_),⟨Z,Z,Z,trivial⟩,⟨oG (xs:=xs) (k:=k) (d:=[]) (by omega) ▸ ((H4.ftake 1).dtake 1),by omega⟩,by dsimp only; omega⟩)))))
 ·refine aG (ab (sR 2 Z (rN hQ results82 Z ?_)));obtain rfl:k=xs.length:=by omega
  exact ⟨H2.ext,by
   have h:=H2.out 0 Z
   rwa [pz] at h⟩
theorem nW {w:World}{xs:List (List Drive)}{xsA:Option Addr}{xsC:Nat}{ys:List (List Drive)}{ysA:Option Addr}{ysC:Nat}(xsS:Sees w [.slice xsA xs.length xsC] xs) (ysS:Sees w [.slice ysA ys.length ysC] ys):Ret Tryz.prog 91 #[.slice xsA xs.length xsC,.slice ysA ys.length ysC] w fun v w'=>Ext No w w'∧(v = .bool (decide (xs=ys))):=by
 have xsL:=sL xsS;obtain ⟨xsF,xsO⟩:=xsS;have ysL:=sL ysS;obtain ⟨ysF,ysO⟩:=ysS;refine aC (vs:=[.slice xsA xs.length xsC,.slice ysA ys.length ysC]) func91 Z ntmps91 Z (fun Q hQ hN=>?_);have H0:=Sep.start (w:=w) (F:=[seen false [.slice xsA xs.length xsC] xs xsF,seen false [.slice ysA ys.length ysC] ys ysF]) (all_cons xsO (all_cons ysO (by simp)));refine ab (sA Z Z (aa (ac (ab (sM Z Z (sV Z (aB db Z) (sM Z Z (sV Z (aB db Z) (sV Z (bv Z Z) (aa (ay Z (fun c1=>?_) (fun c1=>?_))))))))))))
 ·refine ab (sA Z Z (aa (rT hQ results91 Z (⟨H0.ext,?_⟩))));rw [decide_eq_false (fun e=>by subst e; exact c1 rfl)]
 ·refine ah (ac (ab (sA Z Z (aa (ao (ba (γ:=Nat) (fun k=>[(0,.slice xsA xs.length xsC),(1,.slice ysA ys.length ysC),(5,.int .i64 k)]) (fun k w'=>Sep No w [] [seen false [.slice xsA xs.length xsC] xs xsF,seen false [.slice ysA ys.length ysC] ys ysF] w'∧k≤xs.length∧(∀ i,i<k→xs.getD i []=ys.getD i [])) (fun k=>xs.length-k) 0 ⟨Z,Z,Z,trivial⟩ ⟨H0,by omega,fun i hi=>by omega⟩ (fun k w1 H1=>?_)))))));obtain ⟨H1,hk,he⟩:=H1;refine ac (ab (sR 2 Z (sV Z (aB db Z) (sV Z (aN Z Z) (aa (ay Z (fun c2=>?_) (fun c2=>?_)))))))
  ·refine ah (ac (ao (ac ?_)));obtain ⟨eb1,eo1,ea1,ek1,ef1,ee1,ec1,eO1,eH1⟩:=cK (H1.seen 0 Z) k (by omega);have eP1:=H1.look1 0 Z eO1 eH1;obtain ⟨eb2,eo2,ea2,ek2,ef2,ee2,ec2,eO2,eH2⟩:=cK (eP1.seen 1 Z) k (by omega);have eP2:=eP1.look1 1 Z eO2 eH2;refine bE (S:=Ext No _) (oQ [1,3,5,7,9,11,13,15,16,18]) (by kernel_rfl) (by kernel_rfl) (by kernel_rfl) Z (fun _=>Ext.refl.drawn _) (fun q1=>?_);have H2:=eP2.drawn q1;refine dR 2 Z (dV Z Z (fun zw hx=>au db kS Z Z ee1 k (by omega) (by omega)) (dV Z Z (fun zw hx=>ae dm Z Z (hx.cell ec1)) (dR 2 Z (dV Z Z (fun zw hx=>au db kS Z Z ee2 k (by omega) (by omega)) (dV Z Z (fun zw hx=>ae dm Z Z (hx.cell ec2)) (dC func199 zJ Z (py (H2.sees 2 Z) (H2.sees 3 Z)) (fun v1 w2 r1=>?_)))))));obtain ⟨e1,rfl⟩:=r1;have H3:=H2.to e1;refine aP Z (wn Z) Z Z (aX Z) (aQ (bI Z (fun c3=>?_) (fun c3=>?_)))
   ·refine ab (sA Z Z (aa (rT hQ results91 Z (⟨H3.ext,?_⟩))));rw [decide_eq_false (fun e=>by subst e; simp at c3)]
   ·refine ah (aj (sM Z Z (sV Z (az Z Z iO) (sA Z Z (aa ?_)))));have c4:xs.getD k []=ys.getD k []:=by simpa using c3
    refine ⟨k+1,⟨Z,Z,Z,trivial⟩,⟨(H3.ftake 2),by omega,fun i hi=>?_⟩,by dsimp only; omega⟩
    by_cases e:i=k
    ·subst e; exact c4
    ·exact he i (by omega)
  ·refine aG (ab (sA Z Z (aa (rT hQ results91 Z (⟨H1.ext,?_⟩)))));rw [decide_eq_true (dp (d:=[]) (by omega) fun i hi=>he i (by omega))]
theorem sH {w:World}{x:Rec}{xA6 xA7 xA8:Option Addr}{xC6 xC7 xC8:Nat}{l:Int}(xK:x.Ok) (xS6:Sees w [.slice xA6 x.Rows.length xC6] x.Rows) (xS7:Sees w [.slice xA7 x.Data.length xC7] x.Data) (xS8:Sees w [.slice xA8 x.Delta.length xC8] x.Delta) (hl : -1≤l∧l≤1048576):Ret Tryz.prog 380 #[x.val xA6 xC6 xA7 xC7 xA8 xC8,.int .i64 l] w fun v w'=>Ext No w w'∧(v = .int .i64 (if l-cG x<0 then -1 else l-cG x)):=by
 have xK2:=xK;unfold Rec.Ok at xK2
 try unfold I64ok at xK2
 try unfold maxLen at xK2
 have xN2:x.Name.size≤maxLen:=by unfold maxLen; omega
 have xL6:=sL xS6;obtain ⟨xF6,xO6⟩:=xS6;have xL7:=sL xS7;obtain ⟨xF7,xO7⟩:=xS7;have xL8:=sL xS8;obtain ⟨xF8,xO8⟩:=xS8;refine aC (vs:=[x.val xA6 xC6 xA7 xC7 xA8 xC8,.int .i64 l]) func380 Z ntmps380 Z (fun Q hQ hN=>?_);have H0:=Sep.start (w:=w) (F:=[seen false [.slice xA6 x.Rows.length xC6] x.Rows xF6,seen false [.slice xA7 x.Data.length xC7] x.Data xF7,seen false [.slice xA8 x.Delta.length xC8] x.Delta xF8]) (all_cons xO6 (all_cons xO7 (all_cons xO8 (by simp))));refine ab (aZ (wn Z) Z Z H0 (fun b1 w1 e1 g1 H1=>sA Z Z (aa (ab (sM Z Z (sF jU Z ts9 (sLd tu9 (H1.box 0 Z) Z (sV Z (nE tu9 Z) (sV Z (bn Z Z iO) (sA Z Z (aa (ac (ab (sR 2 Z (aa (ay Z (fun c1=>?_) (fun c1=>?_)))))))))))))))))
 ·refine ab (rA hQ results380 Z ?_);exact ⟨H1.ext,congrArg (Value.int .i64) (by unfold cG; omega)⟩
 ·refine ah (ab (sF jU Z bJ (sLd bd (H1.box 0 Z) Z (sM Z Z (sE func75 wH Z (jR (H1.sees 0 Z) (by omega)) H1 (fun w2 e2 H2=>sA Z Z (aa (ac (ab (sR 2 Z (aa (ay Z (fun c2=>?_) (fun c2=>?_)))))))))))))
  ·refine ab (rA hQ results380 Z ?_);exact ⟨H2.ext,congrArg (Value.int .i64) (by unfold cG; omega)⟩
  ·refine ah (ab (sF jU Z aR (sLd aM (H2.box 0 Z) Z (sM Z Z (sE func430 oS Z (gT (H2.sees 1 Z) (by omega)) H2 (fun w3 e3 H3=>sA Z Z (aa (ac (ab (sR 2 Z (aa (ay Z (fun c3=>?_) (fun c3=>?_)))))))))))))
   ·refine ab (rA hQ results380 Z ?_);exact ⟨H3.ext,congrArg (Value.int .i64) (by unfold cG; omega)⟩
   ·refine ah (ab (sF jU Z aR (sLd aM (H3.box 0 Z) Z (sM Z Z (sE func430 oS Z (gT (H3.sees 2 Z) (by omega)) H3 (fun w4 e4 H4=>sA Z Z (aa (ac (ab (sR 2 Z (aa (ay Z (fun c4=>?_) (fun c4=>?_)))))))))))))
    ·refine ab (rA hQ results380 Z ?_);exact ⟨H4.ext,congrArg (Value.int .i64) (by unfold cG; omega)⟩
    ·refine ah (ab (sR 2 Z (rN hQ results380 Z ?_)));exact ⟨H4.ext,congrArg (Value.int .i64) (by unfold cG; omega)⟩
theorem sB {w:World}{x:Rec}{xA6 xA7 xA8:Option Addr}{xC6 xC7 xC8:Nat}(xK:x.Ok) (xS6:Sees w [.slice xA6 x.Rows.length xC6] x.Rows) (xS7:Sees w [.slice xA7 x.Data.length xC7] x.Data) (xS8:Sees w [.slice xA8 x.Delta.length xC8] x.Delta) (hb:cG x≤1048576):Ret Tryz.prog 382 #[x.val xA6 xC6 xA7 xC7 xA8 xC8] w fun v w'=>Ext No w w'∧(∃ A6 C6 A7 C7 A8 C8,v=x.val A6 C6 A7 C7 A8 C8∧Res w w' [.int .i64 x.Kind,.int .i64 x.Seq,.string x.Name,.int .i64 x.Length,.int .i64 x.Group,.int .i64 x.Row,.slice A6 x.Rows.length C6,.slice A7 x.Data.length C7,.slice A8 x.Delta.length C8] x):=by
 have xK2:=xK;unfold Rec.Ok at xK2
 try unfold I64ok at xK2
 try unfold maxLen at xK2
 have xN2:x.Name.size≤maxLen:=by unfold maxLen; omega
 have xL6:=sL xS6;obtain ⟨xF6,xO6⟩:=xS6;have xL7:=sL xS7;obtain ⟨xF7,xO7⟩:=xS7;have xL8:=sL xS8;obtain ⟨xF8,xO8⟩:=xS8;unfold cG at hb;refine aC (vs:=[x.val xA6 xC6 xA7 xC7 xA8 xC8]) func382 Z ntmps382 Z (fun Q hQ hN=>?_);have H0:=Sep.start (w:=w) (F:=[seen false [.slice xA6 x.Rows.length xC6] x.Rows xF6,seen false [.slice xA7 x.Data.length xC7] x.Data xF7,seen false [.slice xA8 x.Delta.length xC8] x.Delta xF8]) (all_cons xO6 (all_cons xO7 (all_cons xO8 (by simp))));refine ab (aZ (wn Z) Z Z H0 (fun b1 w1 e1 g1 H1=>bW (wn Z) Z zeroValue55 H1 (fun b2 w2 e2 g2 H2=>aa (ab (bW (wn Z) Z zeroValue55 H2 (fun b3 w3 e3 g3 H3=>aa (ab (sF jU Z ts2 (sLd tu2 (H3.box 0 Z) Z (sF aA Z ts2 (bR (wn Z) ts2 Z Z Z H3 2 Z Z (fun w4 e4 H4=>?_))))))))))));dsimp only[lNA,lCA,lSZ,lSS,aL] at H4;refine aa (ab (sF jU Z ts2 (sLd tu2 (H4.box 0 Z) Z (sF aA Z ts2 (bR (wn Z) ts2 Z Z Z H4 2 Z Z (fun w5 e5 H5=>?_))))));dsimp only[lNA,lCA,lSZ,lSS,aL] at H5;refine aa (ab (sF jU Z ts9 (sLd tu9 (H5.box 0 Z) Z (sF aA Z ts9 (bR (wn Z) ts9 Z Z Z H5 2 Z Z (fun w6 e6 H6=>?_))))));dsimp only[lNA,lCA,lSZ,lSS,aL] at H6;refine aa (ab (sF jU Z ts2 (sLd tu2 (H6.box 0 Z) Z (sF aA Z ts2 (bR (wn Z) ts2 Z Z Z H6 2 Z Z (fun w7 e7 H7=>?_))))));dsimp only[lNA,lCA,lSZ,lSS,aL] at H7;refine aa (ab (sF jU Z ts2 (sLd tu2 (H7.box 0 Z) Z (sF aA Z ts2 (bR (wn Z) ts2 Z Z Z H7 2 Z Z (fun w8 e8 H8=>?_))))));dsimp only[lNA,lCA,lSZ,lSS,aL] at H8;refine aa (ab (sF jU Z ts2 (sLd tu2 (H8.box 0 Z) Z (sF aA Z ts2 (bR (wn Z) ts2 Z Z Z H8 2 Z Z (fun w9 e9 H9=>?_))))));dsimp only[lNA,lCA,lSZ,lSS,aL] at H9;refine aa (ab (sF jU Z bJ (sLd bd (H9.box 0 Z) Z (sC func83 vt Z (jL (H9.sees 0 Z) (by omega)) (fun v1 w10 r1=>?_)))));obtain ⟨e10,r1⟩:=r1;obtain ⟨fp1,H10⟩:=H9.res e10 r1;obtain ⟨a1,k1,q1⟩:=ax (H10.mine 3 Z);cases q1;refine sF aA Z bJ (bR (wn Z) bJ Z Z Z H10 2 Z Z (fun w11 e11 H11=>?_));dsimp only[lNA,lCA,lSZ,lSS,aL] at H11;refine aa (ab (sF jU Z aR (sLd aM (H11.box 0 Z) Z (sC func432 pu Z (gV (H11.sees 1 Z) (by omega)) (fun v2 w12 r2=>?_)))));obtain ⟨e12,r2⟩:=r2;obtain ⟨fp2,H12⟩:=H11.res e12 r2;obtain ⟨a2,k2,q2⟩:=ax (H12.mine 4 Z);cases q2;refine sF aA Z aR (bR (wn Z) aR Z Z Z H12 2 Z Z (fun w13 e13 H13=>?_));dsimp only[lNA,lCA,lSZ,lSS,aL] at H13;refine aa (ab (sF jU Z aR (sLd aM (H13.box 0 Z) Z (sC func432 pu Z (gV (H13.sees 2 Z) (by omega)) (fun v3 w14 r3=>?_)))));obtain ⟨e14,r3⟩:=r3;obtain ⟨fp3,H14⟩:=H13.res e14 r3;obtain ⟨a3,k3,q3⟩:=ax (H14.mine 5 Z);cases q3;refine sF aA Z aR (bR (wn Z) aR Z Z Z H14 2 Z Z (fun w15 e15 H15=>?_));dsimp only[lNA,lCA,lSZ,lSS,aL] at H15;refine aa (ab (sV Z (an aA Z aJ Z Z (At.whole (H15.box 2 Z))) (bc (wn Z) aJ Z Z Z Z H15 1 Z Z (fun w16 e16 H16=>?_))));dsimp only[lNA,lCA,lSZ,lSS,aL] at H16;refine aa (bM (hQ _ _ (dI results382 Z (aI aA Z aJ Z (At.whole (H16.box 1 Z))) ?_)));exact ⟨H16.ext,_,_,_,_,_,_,Z,Rec.out (H16.sub (.cons _ (.cons _ (.cons _ (.cons_cons _ (.cons_cons _ (.cons_cons _ List.Sublist.slnil))))))) xK⟩
theorem sN {w:World}{a b:Rec}{aA6 aA7 aA8 bA6 bA7 bA8:Option Addr}{aC6 aC7 aC8 bC6 bC7 bC8:Nat}(aK:a.Ok) (aS6:Sees w [.slice aA6 a.Rows.length aC6] a.Rows) (aS7:Sees w [.slice aA7 a.Data.length aC7] a.Data) (aS8:Sees w [.slice aA8 a.Delta.length aC8] a.Delta) (bK:b.Ok) (bS6:Sees w [.slice bA6 b.Rows.length bC6] b.Rows) (bS7:Sees w [.slice bA7 b.Data.length bC7] b.Data) (bS8:Sees w [.slice bA8 b.Delta.length bC8] b.Delta):Ret Tryz.prog 396 #[a.val aA6 aC6 aA7 aC7 aA8 aC8,b.val bA6 bC6 bA7 bC7 bA8 bC8] w fun v w'=>Ext No w w'∧(v = .bool (decide (a=b))):=by
 have aK2:=aK;unfold Rec.Ok at aK2
 try unfold I64ok at aK2
 try unfold maxLen at aK2
 have aN2:a.Name.size≤maxLen:=by unfold maxLen; omega
 have aL6:=sL aS6;obtain ⟨aF6,aO6⟩:=aS6;have aL7:=sL aS7;obtain ⟨aF7,aO7⟩:=aS7;have aL8:=sL aS8;obtain ⟨aF8,aO8⟩:=aS8;have bK2:=bK;unfold Rec.Ok at bK2
 try unfold I64ok at bK2
 try unfold maxLen at bK2
 have bN2:b.Name.size≤maxLen:=by unfold maxLen; omega
 have bL6:=sL bS6;obtain ⟨bF6,bO6⟩:=bS6;have bL7:=sL bS7;obtain ⟨bF7,bO7⟩:=bS7;have bL8:=sL bS8;obtain ⟨bF8,bO8⟩:=bS8;refine aC (vs:=[a.val aA6 aC6 aA7 aC7 aA8 aC8,b.val bA6 bC6 bA7 bC7 bA8 bC8]) func396 Z ntmps396 Z (fun Q hQ hN=>?_);have H0:=Sep.start (w:=w) (F:=[seen false [.slice aA6 a.Rows.length aC6] a.Rows aF6,seen false [.slice aA7 a.Data.length aC7] a.Data aF7,seen false [.slice aA8 a.Delta.length aC8] a.Delta aF8,seen false [.slice bA6 b.Rows.length bC6] b.Rows bF6,seen false [.slice bA7 b.Data.length bC7] b.Data bF7,seen false [.slice bA8 b.Delta.length bC8] b.Delta bF8]) (all_cons aO6 (all_cons aO7 (all_cons aO8 (all_cons bO6 (all_cons bO7 (all_cons bO8 (by simp)))))));refine ab (aZ (wn Z) Z Z H0 (fun b1 w1 e1 g1 H1=>aZ (wn Z) Z Z H1 (fun b2 w2 e2 g2 H2=>sA Z Z (aa (ac (ab (sF aA Z ts2 (sLd tu2 (H2.box 0 Z) Z (sF aA Z ts2 (sLd tu2 (H2.box 1 Z) Z (sV Z (bv Z Z) (aa (ay Z (fun c1=>?_) (fun c1=>?_))))))))))))))
 ·refine ab (sA Z Z (aa (rT hQ results396 Z (⟨H2.ext,?_⟩))));rw [decide_eq_false (fun e=>by subst e; first | exact c1 rfl | simp at c1)]
 ·refine ah (ac (ab (sF aA Z ts2 (sLd tu2 (H2.box 0 Z) Z (sF aA Z ts2 (sLd tu2 (H2.box 1 Z) Z (sV Z (bv Z Z) (aa (ay Z (fun c2=>?_) (fun c2=>?_))))))))))
  ·refine ab (sA Z Z (aa (rT hQ results396 Z (⟨H2.ext,?_⟩))));rw [decide_eq_false (fun e=>by subst e; first | exact c2 rfl | simp at c2)]
  ·refine ah (ac (ab (sF aA Z ts9 (sLd tu9 (H2.box 0 Z) Z (sF aA Z ts9 (sLd tu9 (H2.box 1 Z) Z (sV Z (CS Z Z) (aa (bI Z (fun c3=>?_) (fun c3=>?_))))))))))
   ·refine ab (sA Z Z (aa (rT hQ results396 Z (⟨H2.ext,?_⟩))));rw [decide_eq_false (fun e=>by subst e; first | exact c3 rfl | simp at c3)]
   ·refine ah (ac (ab (sF aA Z ts2 (sLd tu2 (H2.box 0 Z) Z (sF aA Z ts2 (sLd tu2 (H2.box 1 Z) Z (sV Z (bv Z Z) (aa (ay Z (fun c4=>?_) (fun c4=>?_))))))))))
    ·refine ab (sA Z Z (aa (rT hQ results396 Z (⟨H2.ext,?_⟩))));rw [decide_eq_false (fun e=>by subst e; first | exact c4 rfl | simp at c4)]
    ·refine ah (ac (ab (sF aA Z ts2 (sLd tu2 (H2.box 0 Z) Z (sF aA Z ts2 (sLd tu2 (H2.box 1 Z) Z (sV Z (bv Z Z) (aa (ay Z (fun c5=>?_) (fun c5=>?_))))))))))
     ·refine ab (sA Z Z (aa (rT hQ results396 Z (⟨H2.ext,?_⟩))));rw [decide_eq_false (fun e=>by subst e; first | exact c5 rfl | simp at c5)]
     ·refine ah (ac (ab (sF aA Z ts2 (sLd tu2 (H2.box 0 Z) Z (sF aA Z ts2 (sLd tu2 (H2.box 1 Z) Z (sV Z (bv Z Z) (aa (ay Z (fun c6=>?_) (fun c6=>?_))))))))))
      ·refine ab (sA Z Z (aa (rT hQ results396 Z (⟨H2.ext,?_⟩))));rw [decide_eq_false (fun e=>by subst e; first | exact c6 rfl | simp at c6)]
      ·refine ah (ac (ab (sF aA Z bJ (sLd bd (H2.box 0 Z) Z (sF aA Z bJ (sLd bd (H2.box 1 Z) Z (sE func92 vN Z (jV (H2.sees 0 Z) (H2.sees 3 Z)) H2 (fun w3 e3 H3=>sV Z (aX Z) (aa (bI Z (fun c7=>?_) (fun c7=>?_)))))))))))
       ·refine ab (sA Z Z (aa (rT hQ results396 Z (⟨H3.ext,?_⟩))));rw [decide_eq_false (fun e=>by subst e; first | exact c7 rfl | simp at c7)]
       ·refine ah (ac (ab (sF aA Z aR (sLd aM (H3.box 0 Z) Z (sF aA Z aR (sLd aM (H3.box 1 Z) Z (sE func113 oY Z (ii (H3.sees 1 Z) (H3.sees 4 Z)) H3 (fun w4 e4 H4=>sV Z (aX Z) (aa (bI Z (fun c8=>?_) (fun c8=>?_)))))))))))
        ·refine ab (sA Z Z (aa (rT hQ results396 Z (⟨H4.ext,?_⟩))));rw [decide_eq_false (fun e=>by subst e; first | exact c8 rfl | simp at c8)]
        ·refine ah (ac (ab (sF aA Z aR (sLd aM (H4.box 0 Z) Z (sF aA Z aR (sLd aM (H4.box 1 Z) Z (sE func113 oY Z (ii (H4.sees 2 Z) (H4.sees 5 Z)) H4 (fun w5 e5 H5=>sV Z (aX Z) (aa (bI Z (fun c9=>?_) (fun c9=>?_)))))))))))
         ·refine ab (sA Z Z (aa (rT hQ results396 Z (⟨H5.ext,?_⟩))));rw [decide_eq_false (fun e=>by subst e; first | exact c9 rfl | simp at c9)]
         ·refine ah (ab (sA Z Z (aa (rT hQ results396 Z (⟨H5.ext,?_⟩)))));rw [decide_eq_true];cases a; cases b; simp_all [jp]
theorem qR {w:World}{xs:List Rec}{xsA:Option Addr}{xsC:Nat}{l:Int}(xsS:Sees w [.slice xsA xs.length xsC] xs) (hl : -1≤l∧l≤1048576):Ret Tryz.prog 307 #[.slice xsA xs.length xsC,.int .i64 l] w fun v w'=>Ext No w w'∧(v = .int .i64 (if l-szL cG xs<0 then -1 else l-szL cG xs)):=by
 have xsL:=sL xsS;obtain ⟨xsF,xsO⟩:=xsS;refine aC (vs:=[.slice xsA xs.length xsC,.int .i64 l]) func307 Z ntmps307 Z (fun Q hQ hN=>?_);have H0:=Sep.start (w:=w) (F:=[seen false [.slice xsA xs.length xsC] xs xsF]) (all_cons xsO (by simp));refine ab (sA Z Z (aa (ab (sR 2 Z (sV Z (aB se Z) (sV Z (bn Z Z iO) (sA Z Z (aa (ac (ab (sR 2 Z (aa (ay Z (fun c1=>?_) (fun c1=>?_))))))))))))))
 ·refine ab (rA hQ results307 Z ?_);exact ⟨H0.ext,by rw [if_pos (by rw [gx (f:=cG)]; omega)]⟩
 ·refine ah (ac (ab (sA Z Z (aa (ao (ba (γ:=Nat × Int) (fun (k,m)=>[(0,.slice xsA xs.length xsC),(1,.int .i64 m),(5,.int .i64 k)]) (fun (k,m) w'=>Sep No w [] [seen false [.slice xsA xs.length xsC] xs xsF] w'∧k≤xs.length∧0≤m∧m=l-xs.length-bH (fun i=>cG (xs.getD i default)) k) (fun (k,m)=>xs.length-k) (0,_) ⟨Z,Z,Z,trivial⟩ ⟨H0,by omega,by omega,by simp only [bH]; omega⟩ (fun (k,m) w1 H1=>?_)))))));obtain ⟨H1,hk,hm,hs⟩:=H1;refine ac (ab (sR 2 Z (sV Z (aB se Z) (sV Z (aN Z Z) (aa (ay Z (fun c2=>?_) (fun c2=>?_)))))))
  ·refine ah (ac (ao (ac ?_)));obtain ⟨eb1,eo1,es1,ef1,ee1,ec1,eO1,eH1,em1⟩:=aS (H1.seen 0 Z) k (by omega);obtain ⟨ea1,ek1,ea2,ek2,ea3,ek3,eg1,eg2,eg3,rfl,eq1,eK1,eo2,eo3,eo4⟩:=cF eO1;have eK1U:=eK1;unfold Rec.Ok at eK1U
   try unfold I64ok at eK1U
   try unfold maxLen at eK1U
   have eP1:=H1.look1 0 Z eo2 (fun b hb=>eH1 b (by rw [eq1]; simp [hb]));have eL1:=oL eo2;have eP2:=eP1.look1 0 Z eo3 (fun b hb=>eH1 b (by rw [eq1]; simp [hb]));have eL2:=oL eo3;have eP3:=eP2.look1 0 Z eo4 (fun b hb=>eH1 b (by rw [eq1]; simp [hb]));have eL3:=oL eo4;refine aj (sR 2 Z (sV Z (au se Da Z Z ee1 k (by omega) (by omega)) (sV Z (an jU Z Da Z Z ec1) (sM Z Z (sE func380 Cw Z (sH (by assumption) (eP3.sees 1 Z) (eP3.sees 2 Z) (eP3.sees 3 Z) (by omega)) eP3 (fun w2 e1 H2=>sA Z Z (aa (ab (sR 2 Z (aa (ay Z (fun c3=>?_) (fun c3=>?_))))))))))))
   ·refine ab (rA hQ results307 Z ?_);have sg:bH (fun i=>cG (xs.getD i default)) (k+1)=bH (fun i=>cG (xs.getD i default)) k+cG (xs.getD k default):=Z;have sl:=kl (f:=(fun i=>cG (xs.getD i default))) (j:=k+1) (k:=xs.length) (by omega);exact ⟨H2.ext,by rw [if_pos (by rw [gx (f:=cG)]; omega)]⟩
   ·refine ah (aj (sM Z Z (sV Z (az Z Z iO) (sA Z Z (aa ?_)))));have sg:bH (fun i=>cG (xs.getD i default)) (k+1)=bH (fun i=>cG (xs.getD i default)) k+cG (xs.getD k default):=Z;refine ⟨(k+1,_),⟨Z,Z,Z,trivial⟩,⟨(H2.ftake 1),by omega,by omega,by omega⟩,by dsimp only; omega⟩
  ·refine aG (ab (sR 2 Z (rN hQ results307 Z ?_)));obtain rfl:k=xs.length:=by omega
   exact ⟨H1.ext,congrArg (Value.int .i64) (by rw [gx (f:=cG)]; omega)⟩
theorem rd {w:World}{xs:List Rec}{xsA:Option Addr}{xsC:Nat}(xsS:Sees w [.slice xsA xs.length xsC] xs) (hl:szL cG xs≤1048576):Ret Tryz.prog 312 #[.slice xsA xs.length xsC] w fun v w'=>Ext No w w'∧(Res w w' [v] xs):=by
 have xsL:=sL xsS;obtain ⟨xsF,xsO⟩:=xsS;have hl0:xs.length≤1048576:=by unfold szL at hl; omega
 refine aC (vs:=[.slice xsA xs.length xsC]) func312 Z ntmps312 Z (fun Q hQ hN=>?_);have H0:=Sep.start (w:=w) (F:=[seen false [.slice xsA xs.length xsC] xs xsF]) (all_cons xsO (by simp));refine ab (sA Z Z (aa (ab (sM Z Z (sV Z (aB se Z) (gw (wn Z) Z aV aY (show ∀ w,own true w (Value.agg #[.int .i64 0,.int .i64 0,.string ⟨#[]⟩,.int .i64 0,.int .i64 0,.int .i64 0,.slice none 0 0,.slice none 0 0,.slice none 0 0]).cells.toList (default:Rec) [] from fun _=>yi) Z (by omega) (by unfold maxLen; omega) H0 (fun b1 w1 e1 g1 H1=>sA Z Z (aa (ac (ab (sA Z Z (aa (ao (ba (γ:=Nat × List Nat) (fun (k,fp)=>[(0,.slice xsA xs.length xsC),(3,.slice (some ⟨b1,0,none⟩) xs.length xs.length),(4,.int .i64 k)]) (fun (k,fp) w'=>Sep No w [mine [.slice (some ⟨b1,0,none⟩) xs.length xs.length] (cp xs k default) fp] [seen false [.slice xsA xs.length xsC] xs xsF] w'∧k≤xs.length) (fun (k,fp)=>xs.length-k) (0,[b1]) ⟨Z,Z,Z,trivial⟩ ⟨lO ▸ H1,by omega⟩ (fun (k,fp) w2 H2=>?_)))))))))))))));obtain ⟨H2,hk⟩:=H2;refine ac (ab (sR 2 Z (sV Z (aB se Z) (sV Z (aN Z Z) (aa (ay Z (fun c1=>?_) (fun c1=>?_)))))))
 ·refine ah (ac (ao ?_));obtain ⟨hg,hg2⟩:=dx hl k (by omega);obtain ⟨eb1,eo1,es1,ef1,ee1,ec1,eO1,eH1,em1⟩:=aS (H2.seen 0 Z) k (by omega);obtain ⟨ea1,ek1,ea2,ek2,ea3,ek3,eg1,eg2,eg3,rfl,eq1,eK1,eo2,eo3,eo4⟩:=cF eO1;have eK1U:=eK1;unfold Rec.Ok at eK1U
  try unfold I64ok at eK1U
  try unfold maxLen at eK1U
  have eP1:=H2.look1 0 Z eo2 (fun b hb=>eH1 b (by rw [eq1]; simp [hb]));have eL1:=oL eo2;have eP2:=eP1.look1 0 Z eo3 (fun b hb=>eH1 b (by rw [eq1]; simp [hb]));have eL2:=oL eo3;have eP3:=eP2.look1 0 Z eo4 (fun b hb=>eH1 b (by rw [eq1]; simp [hb]));have eL3:=oL eo4;obtain ⟨eb2,eo5,ee2⟩:=dW (eP3.mine 0 Z) k (by rw [hZ (xs:=xs) (k:=k) (by omega)]; omega);refine aj (sR 4 Z (sV Z (au se Da Z Z ee1 k (by omega) (by omega)) (sV Z (an jU Z Da Z Z ec1) (sC func382 Bn Z (sB (by assumption) (eP3.sees 1 Z) (eP3.sees 2 Z) (eP3.sees 3 Z) (by assumption)) (fun v1 w3 r1=>?_)))));obtain ⟨e2,sa1,sk1,sa2,sk2,sa3,sk3,rfl,r1⟩:=r1;obtain ⟨fp1,H3⟩:=eP3.res e2 r1;refine sV Z (au aV aJ Z Z ee2 k (by omega) (by omega)) (qi (wn Z) aJ H3 0 1 Z Z Z k (by rw [hZ (xs:=xs) (k:=k) (by omega)]; omega) Z ee2 Z (fun w4 fp2 H4=>aa ?_));obtain ⟨hg,hg2⟩:=dx hl k (by omega);refine aj (sM Z Z (sV Z (az Z Z iO) (sA Z Z (aa (⟨(k+1,_),⟨Z,Z,Z,trivial⟩,⟨oG (xs:=xs) (k:=k) (d:=default) (by omega) ▸ ((H4.ftake 1).dtake 1),by omega⟩,by dsimp only; omega⟩)))))
 ·refine aG (ab (sR 2 Z (rN hQ results312 Z ?_)));obtain rfl:k=xs.length:=by omega
  exact ⟨H2.ext,by
   have h:=H2.out 0 Z
   rwa [pz] at h⟩
theorem rf {w:World}{xs ys:List Rec}{xsA ysA:Option Addr}{xsC ysC:Nat}(xsS:Sees w [.slice xsA xs.length xsC] xs) (ysS:Sees w [.slice ysA ys.length ysC] ys):Ret Tryz.prog 318 #[.slice xsA xs.length xsC,.slice ysA ys.length ysC] w fun v w'=>Ext No w w'∧(v = .bool (decide (xs=ys))):=by
 have xsL:=sL xsS;obtain ⟨xsF,xsO⟩:=xsS;have ysL:=sL ysS;obtain ⟨ysF,ysO⟩:=ysS;refine aC (vs:=[.slice xsA xs.length xsC,.slice ysA ys.length ysC]) func318 Z ntmps318 Z (fun Q hQ hN=>?_);have H0:=Sep.start (w:=w) (F:=[seen false [.slice xsA xs.length xsC] xs xsF,seen false [.slice ysA ys.length ysC] ys ysF]) (all_cons xsO (all_cons ysO (by simp)));refine ab (sA Z Z (aa (ac (ab (sM Z Z (sV Z (aB aV Z) (sM Z Z (sV Z (aB aV Z) (sV Z (bv Z Z) (aa (ay Z (fun c1=>?_) (fun c1=>?_))))))))))))
 ·refine ab (sA Z Z (aa (rT hQ results318 Z (⟨H0.ext,?_⟩))));rw [decide_eq_false (fun e=>by subst e; exact c1 rfl)]
 ·refine ah (ac (ab (sA Z Z (aa (ao (ba (γ:=Nat) (fun k=>[(0,.slice xsA xs.length xsC),(1,.slice ysA ys.length ysC),(5,.int .i64 k)]) (fun k w'=>Sep No w [] [seen false [.slice xsA xs.length xsC] xs xsF,seen false [.slice ysA ys.length ysC] ys ysF] w'∧k≤xs.length∧(∀ i,i<k→xs.getD i default=ys.getD i default)) (fun k=>xs.length-k) 0 ⟨Z,Z,Z,trivial⟩ ⟨H0,by omega,fun i hi=>by omega⟩ (fun k w1 H1=>?_)))))));obtain ⟨H1,hk,he⟩:=H1;refine ac (ab (sR 2 Z (sV Z (aB aV Z) (sV Z (aN Z Z) (aa (ay Z (fun c2=>?_) (fun c2=>?_)))))))
  ·refine ah (ac (ao (ac ?_)));obtain ⟨eb1,eo1,es1,ef1,ee1,ec1,eO1,eH1,em1⟩:=aS (H1.seen 0 Z) k (by omega);obtain ⟨ea1,ek1,ea2,ek2,ea3,ek3,eg1,eg2,eg3,rfl,eq1,eK1,eo2,eo3,eo4⟩:=cF eO1;have eK1U:=eK1;unfold Rec.Ok at eK1U
   try unfold I64ok at eK1U
   try unfold maxLen at eK1U
   have eP1:=H1.look1 0 Z eo2 (fun b hb=>eH1 b (by rw [eq1]; simp [hb]));have eL1:=oL eo2;have eP2:=eP1.look1 0 Z eo3 (fun b hb=>eH1 b (by rw [eq1]; simp [hb]));have eL2:=oL eo3;have eP3:=eP2.look1 0 Z eo4 (fun b hb=>eH1 b (by rw [eq1]; simp [hb]));have eL3:=oL eo4;obtain ⟨eb2,eo5,es2,ef2,ee2,ec2,eO2,eH2,em2⟩:=aS (eP3.seen 1 Z) k (by omega);obtain ⟨ea4,ek4,ea5,ek5,ea6,ek6,eg4,eg5,eg6,rfl,eq2,eK2,eo6,eo7,eo8⟩:=cF eO2;have eK2U:=eK2;unfold Rec.Ok at eK2U
   try unfold I64ok at eK2U
   try unfold maxLen at eK2U
   have eP4:=eP3.look1 1 Z eo6 (fun b hb=>eH2 b (by rw [eq2]; simp [hb]));have eL4:=oL eo6;have eP5:=eP4.look1 1 Z eo7 (fun b hb=>eH2 b (by rw [eq2]; simp [hb]));have eL5:=oL eo7;have eP6:=eP5.look1 1 Z eo8 (fun b hb=>eH2 b (by rw [eq2]; simp [hb]));have eL6:=oL eo8;refine bE (S:=Ext No _) (oQ [1,3,5,7,9,11,13,15,16,18]) (by kernel_rfl) (by kernel_rfl) (by kernel_rfl) Z (fun _=>Ext.refl.drawn _) (fun q1=>?_);have H2:=eP6.drawn q1;refine dR 2 Z (dV Z Z (fun zw hx=>au aV aJ Z Z ee1 k (by omega) (by omega)) (dV Z Z (fun zw hx=>an aA Z aJ Z Z (hx.at ec1)) (dR 2 Z (dV Z Z (fun zw hx=>au aV aJ Z Z ee2 k (by omega) (by omega)) (dV Z Z (fun zw hx=>an aA Z aJ Z Z (hx.at ec2)) (dC func396 BT Z (sN (by assumption) (H2.sees 2 Z) (H2.sees 3 Z) (H2.sees 4 Z) (by assumption) (H2.sees 5 Z) (H2.sees 6 Z) (H2.sees 7 Z)) (fun v1 w2 r1=>?_)))))));obtain ⟨e1,rfl⟩:=r1;have H3:=H2.to e1;refine aP Z (wn Z) Z Z (aX Z) (aQ (bI Z (fun c3=>?_) (fun c3=>?_)))
   ·refine ab (sA Z Z (aa (rT hQ results318 Z (⟨H3.ext,?_⟩))));rw [decide_eq_false (fun e=>by subst e; simp at c3)]
   ·refine ah (aj (sM Z Z (sV Z (az Z Z iO) (sA Z Z (aa ?_)))));have c4:xs.getD k default=ys.getD k default:=by simpa using c3
    refine ⟨k+1,⟨Z,Z,Z,trivial⟩,⟨(H3.ftake 2),by omega,fun i hi=>?_⟩,by dsimp only; omega⟩
    by_cases e:i=k
    ·subst e; exact c4
    ·exact he i (by omega)
  ·refine aG (ab (sA Z Z (aa (rT hQ results318 Z (⟨H1.ext,?_⟩)))));rw [decide_eq_true (dp (d:=default) (by omega) fun i hi=>he i (by omega))]
theorem qW {w:World}{x:Tape}{xA1:Option Addr}{xC1:Nat}{l:Int}(xK:x.Ok) (xS1:Sees w [.slice xA1 x.Recs.length xC1] x.Recs) (hl : -1≤l∧l≤1048576):Ret Tryz.prog 182 #[x.val xA1 xC1,.int .i64 l] w fun v w'=>Ext No w w'∧(v = .int .i64 (if l-cT x<0 then -1 else l-cT x)):=by
 have xK2:=xK;unfold Tape.Ok at xK2
 try unfold I64ok at xK2
 try unfold maxLen at xK2
 have xL1:=sL xS1;obtain ⟨xF1,xO1⟩:=xS1;refine aC (vs:=[x.val xA1 xC1,.int .i64 l]) func182 Z ntmps182 Z (fun Q hQ hN=>?_);have H0:=Sep.start (w:=w) (F:=[seen false [.slice xA1 x.Recs.length xC1] x.Recs xF1]) (all_cons xO1 (by simp));refine ab (aZ (wn Z) Z Z H0 (fun b1 w1 e1 g1 H1=>sA Z Z (aa (ab (sF yV Z Hl (sLd se (H1.box 0 Z) Z (sM Z Z (sE func307 Bv Z (qR (H1.sees 0 Z) (by omega)) H1 (fun w2 e2 H2=>sA Z Z (aa (ac (ab (sR 2 Z (aa (ay Z (fun c1=>?_) (fun c1=>?_))))))))))))))))
 ·refine ab (rA hQ results182 Z ?_);exact ⟨H2.ext,congrArg (Value.int .i64) (by unfold cT; omega)⟩
 ·refine ah (ab (sR 2 Z (rN hQ results182 Z ?_)));exact ⟨H2.ext,congrArg (Value.int .i64) (by unfold cT; omega)⟩
theorem rt {w:World}{x:Tape}{xA1:Option Addr}{xC1:Nat}(xK:x.Ok) (xS1:Sees w [.slice xA1 x.Recs.length xC1] x.Recs) (hb:cT x≤1048576):Ret Tryz.prog 190 #[x.val xA1 xC1] w fun v w'=>Ext No w w'∧(∃ A1 C1,v=x.val A1 C1∧Res w w' [.bool x.Wiped,.slice A1 x.Recs.length C1] x):=by
 have xK2:=xK;unfold Tape.Ok at xK2
 try unfold I64ok at xK2
 try unfold maxLen at xK2
 have xL1:=sL xS1;obtain ⟨xF1,xO1⟩:=xS1;unfold cT at hb;refine aC (vs:=[x.val xA1 xC1]) func190 Z ntmps190 Z (fun Q hQ hN=>?_);have H0:=Sep.start (w:=w) (F:=[seen false [.slice xA1 x.Recs.length xC1] x.Recs xF1]) (all_cons xO1 (by simp));refine ab (aZ (wn Z) Z Z H0 (fun b1 w1 e1 g1 H1=>bW (wn Z) Z zeroValue181 H1 (fun b2 w2 e2 g2 H2=>aa (ab (bW (wn Z) Z zeroValue181 H2 (fun b3 w3 e3 g3 H3=>aa (ab (sF yV Z ts4 (sLd tu4 (H3.box 0 Z) Z (sF ce Z ts4 (bR (wn Z) ts4 Z Z Z H3 2 Z Z (fun w4 e4 H4=>?_))))))))))));dsimp only[lNA,lCA,lSZ,lSS,aL] at H4;refine aa (ab (sF yV Z Hl (sLd se (H4.box 0 Z) Z (sC func312 Br Z (rd (H4.sees 0 Z) (by first | assumption | omega)) (fun v1 w5 r1=>?_)))));obtain ⟨e5,r1⟩:=r1;obtain ⟨fp1,H5⟩:=H4.res e5 r1;obtain ⟨a1,k1,q1⟩:=ax (H5.mine 3 Z);cases q1;refine sF ce Z eB (bR (wn Z) eB Z Z Z H5 2 Z Z (fun w6 e6 H6=>?_));dsimp only[lNA,lCA,lSZ,lSS,aL] at H6;refine aa (ab (sV Z (an ce Z cx Z Z (At.whole (H6.box 2 Z))) (bc (wn Z) cx Z Z Z Z H6 1 Z Z (fun w7 e7 H7=>?_))));dsimp only[lNA,lCA,lSZ,lSS,aL] at H7;refine aa (bM (hQ _ _ (dI results190 Z (aI ce Z cx Z (At.whole (H7.box 1 Z))) ?_)));exact ⟨H7.ext,_,_,Z,Tape.out (H7.sub (.cons _ (.cons _ (.cons _ (.cons_cons _ List.Sublist.slnil))))) xK⟩
theorem rr {w:World}{a:Tape}{aA1:Option Addr}{aC1:Nat}{b:Tape}{bA1:Option Addr}{bC1:Nat}(aK:a.Ok) (aS1:Sees w [.slice aA1 a.Recs.length aC1] a.Recs) (bK:b.Ok) (bS1:Sees w [.slice bA1 b.Recs.length bC1] b.Recs):Ret Tryz.prog 200 #[a.val aA1 aC1,b.val bA1 bC1] w fun v w'=>Ext No w w'∧(v = .bool (decide (a=b))):=by
 have aK2:=aK;unfold Tape.Ok at aK2
 try unfold I64ok at aK2
 try unfold maxLen at aK2
 have aL1:=sL aS1;obtain ⟨aF1,aO1⟩:=aS1;have bK2:=bK;unfold Tape.Ok at bK2
 try unfold I64ok at bK2
 try unfold maxLen at bK2
 have bL1:=sL bS1;obtain ⟨bF1,bO1⟩:=bS1;refine aC (vs:=[a.val aA1 aC1,b.val bA1 bC1]) func200 Z ntmps200 Z (fun Q hQ hN=>?_);have H0:=Sep.start (w:=w) (F:=[seen false [.slice aA1 a.Recs.length aC1] a.Recs aF1,seen false [.slice bA1 b.Recs.length bC1] b.Recs bF1]) (all_cons aO1 (all_cons bO1 (by simp)));refine ab (aZ (wn Z) Z Z H0 (fun b1 w1 e1 g1 H1=>aZ (wn Z) Z Z H1 (fun b2 w2 e2 g2 H2=>sA Z Z (aa (ac (ab (sF ce Z ts4 (sLd tu4 (H2.box 0 Z) Z (sF ce Z ts4 (sLd tu4 (H2.box 1 Z) Z (sV Z (pU tu4 Z Z) (aa (bI Z (fun c1=>?_) (fun c1=>?_))))))))))))))
 ·refine ab (sA Z Z (aa (rT hQ results200 Z (⟨H2.ext,?_⟩))));rw [decide_eq_false (fun e=>by subst e; first | exact c1 rfl | simp at c1)]
 ·refine ah (ac (ab (sF ce Z eB (sLd aV (H2.box 0 Z) Z (sF ce Z eB (sLd aV (H2.box 1 Z) Z (sE func318 Bw Z (rf (H2.sees 0 Z) (H2.sees 1 Z)) H2 (fun w3 e3 H3=>sV Z (aX Z) (aa (bI Z (fun c2=>?_) (fun c2=>?_)))))))))))
  ·refine ab (sA Z Z (aa (rT hQ results200 Z (⟨H3.ext,?_⟩))));rw [decide_eq_false (fun e=>by subst e; first | exact c2 rfl | simp at c2)]
  ·refine ah (ab (sA Z Z (aa (rT hQ results200 Z (⟨H3.ext,?_⟩)))));rw [decide_eq_true];cases a; cases b; simp_all [jp]
theorem qn {w:World}{xs:List Tape}{xsA:Option Addr}{xsC:Nat}{l:Int}(xsS:Sees w [.slice xsA xs.length xsC] xs) (hl : -1≤l∧l≤1048576):Ret Tryz.prog 76 #[.slice xsA xs.length xsC,.int .i64 l] w fun v w'=>Ext No w w'∧(v = .int .i64 (if l-szL cT xs<0 then -1 else l-szL cT xs)):=by
 have xsL:=sL xsS;obtain ⟨xsF,xsO⟩:=xsS;refine aC (vs:=[.slice xsA xs.length xsC,.int .i64 l]) func76 Z ntmps76 Z (fun Q hQ hN=>?_);have H0:=Sep.start (w:=w) (F:=[seen false [.slice xsA xs.length xsC] xs xsF]) (all_cons xsO (by simp));refine ab (sA Z Z (aa (ab (sR 2 Z (sV Z (aB xH Z) (sV Z (bn Z Z iO) (sA Z Z (aa (ac (ab (sR 2 Z (aa (ay Z (fun c1=>?_) (fun c1=>?_))))))))))))))
 ·refine ab (rA hQ results76 Z ?_);exact ⟨H0.ext,by rw [if_pos (by rw [gx (f:=cT)]; omega)]⟩
 ·refine ah (ac (ab (sA Z Z (aa (ao (ba (γ:=Nat × Int) (fun (k,m)=>[(0,.slice xsA xs.length xsC),(1,.int .i64 m),(5,.int .i64 k)]) (fun (k,m) w'=>Sep No w [] [seen false [.slice xsA xs.length xsC] xs xsF] w'∧k≤xs.length∧0≤m∧m=l-xs.length-bH (fun i=>cT (xs.getD i default)) k) (fun (k,m)=>xs.length-k) (0,_) ⟨Z,Z,Z,trivial⟩ ⟨H0,by omega,by omega,by simp only [bH]; omega⟩ (fun (k,m) w1 H1=>?_)))))));obtain ⟨H1,hk,hm,hs⟩:=H1;refine ac (ab (sR 2 Z (sV Z (aB xH Z) (sV Z (aN Z Z) (aa (ay Z (fun c2=>?_) (fun c2=>?_)))))))
  ·refine ah (ac (ao (ac ?_)));obtain ⟨eb1,eo1,es1,ef1,ee1,ec1,eO1,eH1,em1⟩:=aS (H1.seen 0 Z) k (by omega);obtain ⟨ea1,ek1,eg1,rfl,eq1,eK1,eo2⟩:=cl eO1;have eP1:=H1.look1 0 Z eo2 (fun b hb=>eH1 b (by rw [eq1]; simp [hb]));have eL1:=oL eo2;refine aj (sR 2 Z (sV Z (au xH CI Z Z ee1 k (by omega) (by omega)) (sV Z (an yV Z CI Z Z ec1) (sM Z Z (sE func182 An Z (qW (by assumption) (eP1.sees 1 Z) (by omega)) eP1 (fun w2 e1 H2=>sA Z Z (aa (ab (sR 2 Z (aa (ay Z (fun c3=>?_) (fun c3=>?_))))))))))))
   ·refine ab (rA hQ results76 Z ?_);have sg:bH (fun i=>cT (xs.getD i default)) (k+1)=bH (fun i=>cT (xs.getD i default)) k+cT (xs.getD k default):=Z;have sl:=kl (f:=(fun i=>cT (xs.getD i default))) (j:=k+1) (k:=xs.length) (by omega);exact ⟨H2.ext,by rw [if_pos (by rw [gx (f:=cT)]; omega)]⟩
   ·refine ah (aj (sM Z Z (sV Z (az Z Z iO) (sA Z Z (aa ?_)))));have sg:bH (fun i=>cT (xs.getD i default)) (k+1)=bH (fun i=>cT (xs.getD i default)) k+cT (xs.getD k default):=Z;refine ⟨(k+1,_),⟨Z,Z,Z,trivial⟩,⟨(H2.ftake 1),by omega,by omega,by omega⟩,by dsimp only; omega⟩
  ·refine aG (ab (sR 2 Z (rN hQ results76 Z ?_)));obtain rfl:k=xs.length:=by omega
   exact ⟨H1.ext,congrArg (Value.int .i64) (by rw [gx (f:=cT)]; omega)⟩
theorem p9 {w:World}{xs:List Tape}{xsA:Option Addr}{xsC:Nat}(xsS:Sees w [.slice xsA xs.length xsC] xs) (hl:szL cT xs≤1048576):Ret Tryz.prog 84 #[.slice xsA xs.length xsC] w fun v w'=>Ext No w w'∧(Res w w' [v] xs):=by
 have xsL:=sL xsS;obtain ⟨xsF,xsO⟩:=xsS;have hl0:xs.length≤1048576:=by unfold szL at hl; omega
 refine aC (vs:=[.slice xsA xs.length xsC]) func84 Z ntmps84 Z (fun Q hQ hN=>?_);have H0:=Sep.start (w:=w) (F:=[seen false [.slice xsA xs.length xsC] xs xsF]) (all_cons xsO (by simp));refine ab (sA Z Z (aa (ab (sM Z Z (sV Z (aB xH Z) (gw (wn Z) Z bX jQ (show ∀ w,own true w (Value.agg #[.bool false,.slice none 0 0]).cells.toList (default:Tape) [] from fun _=>DR) Z (by omega) (by unfold maxLen; omega) H0 (fun b1 w1 e1 g1 H1=>sA Z Z (aa (ac (ab (sA Z Z (aa (ao (ba (γ:=Nat × List Nat) (fun (k,fp)=>[(0,.slice xsA xs.length xsC),(3,.slice (some ⟨b1,0,none⟩) xs.length xs.length),(4,.int .i64 k)]) (fun (k,fp) w'=>Sep No w [mine [.slice (some ⟨b1,0,none⟩) xs.length xs.length] (cp xs k default) fp] [seen false [.slice xsA xs.length xsC] xs xsF] w'∧k≤xs.length) (fun (k,fp)=>xs.length-k) (0,[b1]) ⟨Z,Z,Z,trivial⟩ ⟨lO ▸ H1,by omega⟩ (fun (k,fp) w2 H2=>?_)))))))))))))));obtain ⟨H2,hk⟩:=H2;refine ac (ab (sR 2 Z (sV Z (aB xH Z) (sV Z (aN Z Z) (aa (ay Z (fun c1=>?_) (fun c1=>?_)))))))
 ·refine ah (ac (ao ?_));obtain ⟨hg,hg2⟩:=dx hl k (by omega);obtain ⟨eb1,eo1,es1,ef1,ee1,ec1,eO1,eH1,em1⟩:=aS (H2.seen 0 Z) k (by omega);obtain ⟨ea1,ek1,eg1,rfl,eq1,eK1,eo2⟩:=cl eO1;have eP1:=H2.look1 0 Z eo2 (fun b hb=>eH1 b (by rw [eq1]; simp [hb]));have eL1:=oL eo2;obtain ⟨eb2,eo3,ee2⟩:=dW (eP1.mine 0 Z) k (by rw [hZ (xs:=xs) (k:=k) (by omega)]; omega);refine aj (sR 4 Z (sV Z (au xH CI Z Z ee1 k (by omega) (by omega)) (sV Z (an yV Z CI Z Z ec1) (sC func190 Co Z (rt (by assumption) (eP1.sees 1 Z) (by assumption)) (fun v1 w3 r1=>?_)))));obtain ⟨e2,sa1,sk1,rfl,r1⟩:=r1;obtain ⟨fp1,H3⟩:=eP1.res e2 r1;refine sV Z (au bX cx Z Z ee2 k (by omega) (by omega)) (qi (wn Z) cx H3 0 1 Z Z Z k (by rw [hZ (xs:=xs) (k:=k) (by omega)]; omega) Z ee2 Z (fun w4 fp2 H4=>aa ?_));obtain ⟨hg,hg2⟩:=dx hl k (by omega);refine aj (sM Z Z (sV Z (az Z Z iO) (sA Z Z (aa (⟨(k+1,_),⟨Z,Z,Z,trivial⟩,⟨oG (xs:=xs) (k:=k) (d:=default) (by omega) ▸ ((H4.ftake 1).dtake 1),by omega⟩,by dsimp only; omega⟩)))))
 ·refine aG (ab (sR 2 Z (rN hQ results84 Z ?_)));obtain rfl:k=xs.length:=by omega
  exact ⟨H2.ext,by
   have h:=H2.out 0 Z
   rwa [pz] at h⟩
theorem pW {w:World}{xs:List Tape}{xsA:Option Addr}{xsC:Nat}{ys:List Tape}{ysA:Option Addr}{ysC:Nat}(xsS:Sees w [.slice xsA xs.length xsC] xs) (ysS:Sees w [.slice ysA ys.length ysC] ys):Ret Tryz.prog 93 #[.slice xsA xs.length xsC,.slice ysA ys.length ysC] w fun v w'=>Ext No w w'∧(v = .bool (decide (xs=ys))):=by
 have xsL:=sL xsS;obtain ⟨xsF,xsO⟩:=xsS;have ysL:=sL ysS;obtain ⟨ysF,ysO⟩:=ysS;refine aC (vs:=[.slice xsA xs.length xsC,.slice ysA ys.length ysC]) func93 Z ntmps93 Z (fun Q hQ hN=>?_);have H0:=Sep.start (w:=w) (F:=[seen false [.slice xsA xs.length xsC] xs xsF,seen false [.slice ysA ys.length ysC] ys ysF]) (all_cons xsO (all_cons ysO (by simp)));refine ab (sA Z Z (aa (ac (ab (sM Z Z (sV Z (aB bX Z) (sM Z Z (sV Z (aB bX Z) (sV Z (bv Z Z) (aa (ay Z (fun c1=>?_) (fun c1=>?_))))))))))))
 ·refine ab (sA Z Z (aa (rT hQ results93 Z (⟨H0.ext,?_⟩))));rw [decide_eq_false (fun e=>by subst e; exact c1 rfl)]
 ·refine ah (ac (ab (sA Z Z (aa (ao (ba (γ:=Nat) (fun k=>[(0,.slice xsA xs.length xsC),(1,.slice ysA ys.length ysC),(5,.int .i64 k)]) (fun k w'=>Sep No w [] [seen false [.slice xsA xs.length xsC] xs xsF,seen false [.slice ysA ys.length ysC] ys ysF] w'∧k≤xs.length∧(∀ i,i<k→xs.getD i default=ys.getD i default)) (fun k=>xs.length-k) 0 ⟨Z,Z,Z,trivial⟩ ⟨H0,by omega,fun i hi=>by omega⟩ (fun k w1 H1=>?_)))))));obtain ⟨H1,hk,he⟩:=H1;refine ac (ab (sR 2 Z (sV Z (aB bX Z) (sV Z (aN Z Z) (aa (ay Z (fun c2=>?_) (fun c2=>?_)))))))
  ·refine ah (ac (ao (ac ?_)));obtain ⟨eb1,eo1,es1,ef1,ee1,ec1,eO1,eH1,em1⟩:=aS (H1.seen 0 Z) k (by omega);obtain ⟨ea1,ek1,eg1,rfl,eq1,eK1,eo2⟩:=cl eO1;have eP1:=H1.look1 0 Z eo2 (fun b hb=>eH1 b (by rw [eq1]; simp [hb]));have eL1:=oL eo2;obtain ⟨eb2,eo3,es2,ef2,ee2,ec2,eO2,eH2,em2⟩:=aS (eP1.seen 1 Z) k (by omega);obtain ⟨ea2,ek2,eg2,rfl,eq2,eK2,eo4⟩:=cl eO2;have eP2:=eP1.look1 1 Z eo4 (fun b hb=>eH2 b (by rw [eq2]; simp [hb]));have eL2:=oL eo4;refine bE (S:=Ext No _) (oQ [1,3,5,7,9,11,13,15,16,18]) (by kernel_rfl) (by kernel_rfl) (by kernel_rfl) Z (fun _=>Ext.refl.drawn _) (fun q1=>?_);have H2:=eP2.drawn q1;refine dR 2 Z (dV Z Z (fun zw hx=>au bX cx Z Z ee1 k (by omega) (by omega)) (dV Z Z (fun zw hx=>an ce Z cx Z Z (hx.at ec1)) (dR 2 Z (dV Z Z (fun zw hx=>au bX cx Z Z ee2 k (by omega) (by omega)) (dV Z Z (fun zw hx=>an ce Z cx Z Z (hx.at ec2)) (dC func200 AH Z (rr (by assumption) (H2.sees 2 Z) (by assumption) (H2.sees 3 Z)) (fun v1 w2 r1=>?_)))))));obtain ⟨e1,rfl⟩:=r1;have H3:=H2.to e1;refine aP Z (wn Z) Z Z (aX Z) (aQ (bI Z (fun c3=>?_) (fun c3=>?_)))
   ·refine ab (sA Z Z (aa (rT hQ results93 Z (⟨H3.ext,?_⟩))));rw [decide_eq_false (fun e=>by subst e; simp at c3)]
   ·refine ah (aj (sM Z Z (sV Z (az Z Z iO) (sA Z Z (aa ?_)))));have c4:xs.getD k default=ys.getD k default:=by simpa using c3
    refine ⟨k+1,⟨Z,Z,Z,trivial⟩,⟨(H3.ftake 2),by omega,fun i hi=>?_⟩,by dsimp only; omega⟩
    by_cases e:i=k
    ·subst e; exact c4
    ·exact he i (by omega)
  ·refine aG (ab (sA Z Z (aa (rT hQ results93 Z (⟨H1.ext,?_⟩)))));rw [decide_eq_true (dp (d:=default) (by omega) fun i hi=>he i (by omega))]
theorem qJ {w:World}{x:Wld}{xA9 xA10 xA11:Option Addr}{xC9 xC10 xC11:Nat}{l:Int}(xK:x.Ok) (xS9:Sees w [.slice xA9 x.Groups.length xC9] x.Groups) (xS10:Sees w [.slice xA10 x.On.length xC10] x.On) (xS11:Sees w [.slice xA11 x.Tapes.length xC11] x.Tapes) (hl : -1≤l∧l≤1048576):Ret Tryz.prog 15 #[x.val xA9 xC9 xA10 xC10 xA11 xC11,.int .i64 l] w fun v w'=>Ext No w w'∧(v = .int .i64 (if l-gm x<0 then -1 else l-gm x)):=by
 have xK2:=xK;unfold Wld.Ok Shape.Ok at xK2
 try unfold I64ok at xK2
 try unfold maxLen at xK2
 have xL9:=sL xS9;obtain ⟨xF9,xO9⟩:=xS9;have xL10:=sL xS10;obtain ⟨xF10,xO10⟩:=xS10;have xL11:=sL xS11;obtain ⟨xF11,xO11⟩:=xS11;refine aC (vs:=[x.val xA9 xC9 xA10 xC10 xA11 xC11,.int .i64 l]) func15 Z ntmps15 Z (fun Q hQ hN=>?_);have H0:=Sep.start (w:=w) (F:=[seen false [.slice xA9 x.Groups.length xC9] x.Groups xF9,seen false [.slice xA10 x.On.length xC10] x.On xF10,seen false [.slice xA11 x.Tapes.length xC11] x.Tapes xF11]) (all_cons xO9 (all_cons xO10 (all_cons xO11 (by simp))));refine ab (aZ (wn Z) Z Z H0 (fun b1 w1 e1 g1 H1=>sA Z Z (aa (ab (sF pc Z IK (sLd yQ (H1.box 0 Z) Z (sM Z Z (sE func74 DA Z (nH (H1.sees 0 Z) (by omega)) H1 (fun w2 e2 H2=>sA Z Z (aa (ac (ab (sR 2 Z (aa (ay Z (fun c1=>?_) (fun c1=>?_))))))))))))))))
 ·refine ab (rA hQ results15 Z ?_);exact ⟨H2.ext,congrArg (Value.int .i64) (by unfold gm; omega)⟩
 ·refine ah (ab (sF pc Z bJ (sLd bd (H2.box 0 Z) Z (sM Z Z (sE func75 wH Z (jR (H2.sees 1 Z) (by omega)) H2 (fun w3 e3 H3=>sA Z Z (aa (ac (ab (sR 2 Z (aa (ay Z (fun c2=>?_) (fun c2=>?_)))))))))))))
  ·refine ab (rA hQ results15 Z ?_);exact ⟨H3.ext,congrArg (Value.int .i64) (by unfold gm; omega)⟩
  ·refine ah (ab (sF pc Z IO (sLd xH (H3.box 0 Z) Z (sM Z Z (sE func76 Eo Z (qn (H3.sees 2 Z) (by omega)) H3 (fun w4 e4 H4=>sA Z Z (aa (ac (ab (sR 2 Z (aa (ay Z (fun c3=>?_) (fun c3=>?_)))))))))))))
   ·refine ab (rA hQ results15 Z ?_);exact ⟨H4.ext,congrArg (Value.int .i64) (by unfold gm; omega)⟩
   ·refine ah (ab (sR 2 Z (rN hQ results15 Z ?_)));exact ⟨H4.ext,congrArg (Value.int .i64) (by unfold gm; omega)⟩
theorem fo {w:World}{x:Wld}{xA9 xA10 xA11:Option Addr}{xC9 xC10 xC11:Nat}(xK:x.Ok) (xS9:Sees w [.slice xA9 x.Groups.length xC9] x.Groups) (xS10:Sees w [.slice xA10 x.On.length xC10] x.On) (xS11:Sees w [.slice xA11 x.Tapes.length xC11] x.Tapes) (hb:gm x≤1048576):Ret Tryz.prog 17 #[x.val xA9 xC9 xA10 xC10 xA11 xC11] w fun v w'=>Ext No w w'∧(∃ A9 C9 A10 C10 A11 C11,v=x.val A9 C9 A10 C10 A11 C11∧Res w w' [.int .i64 x.Shape.Groups,.int .i64 x.Shape.Column,.int .i64 x.Shape.Data,.int .i64 x.Shape.Spare,.int .i64 x.Shape.Rows,.int .i64 x.Shape.Cap,.int .i64 x.Shape.Batch,.int .i64 x.Shape.Queue,.int .i64 x.Shape.Stage,.slice A9 x.Groups.length C9,.slice A10 x.On.length C10,.slice A11 x.Tapes.length C11,.int .i64 x.Writes,.int .i64 x.Stop,.bool x.Down] x):=by
 have xK2:=xK;unfold Wld.Ok Shape.Ok at xK2
 try unfold I64ok at xK2
 try unfold maxLen at xK2
 have xL9:=sL xS9;obtain ⟨xF9,xO9⟩:=xS9;have xL10:=sL xS10;obtain ⟨xF10,xO10⟩:=xS10;have xL11:=sL xS11;obtain ⟨xF11,xO11⟩:=xS11;unfold gm at hb;refine aC (vs:=[x.val xA9 xC9 xA10 xC10 xA11 xC11]) func17 Z ntmps17 Z (fun Q hQ hN=>?_);have H0:=Sep.start (w:=w) (F:=[seen false [.slice xA9 x.Groups.length xC9] x.Groups xF9,seen false [.slice xA10 x.On.length xC10] x.On xF10,seen false [.slice xA11 x.Tapes.length xC11] x.Tapes xF11]) (all_cons xO9 (all_cons xO10 (all_cons xO11 (by simp))));refine ab (aZ (wn Z) Z Z H0 (fun b1 w1 e1 g1 H1=>bW (wn Z) Z zeroValue34 H1 (fun b2 w2 e2 g2 H2=>aa (ab (bW (wn Z) Z zeroValue34 H2 (fun b3 w3 e3 g3 H3=>aa (ab (sF pc Z ID (sV Z (an u9 Z ID Z Z (At.sub (H3.box 0 Z) 9)) (sE func81 Do Z qj H3 (fun w4 e4 H4=>sF aW Z cj (bc (wn Z) cj Z Z Z Z H4 2 Z Z (fun w5 e5 H5=>?_)))))))))))));dsimp only[lNA,lCA,lSZ,lSS,aL] at H5;refine aa (ab (sF pc Z IK (sLd yQ (H5.box 0 Z) Z (sC func82 Dn Z (nM (H5.sees 0 Z) (by first | assumption | omega)) (fun v2 w6 r2=>?_)))));obtain ⟨e6,r2⟩:=r2;obtain ⟨fp1,H6⟩:=H5.res e6 r2;obtain ⟨a1,k1,q1⟩:=ax (H6.mine 3 Z);cases q1;refine sF aW Z fP (bR (wn Z) fP Z Z Z H6 2 Z Z (fun w7 e7 H7=>?_));dsimp only[lNA,lCA,lSZ,lSS,aL] at H7;refine aa (ab (sF pc Z bJ (sLd bd (H7.box 0 Z) Z (sC func83 vt Z (jL (H7.sees 1 Z) (by omega)) (fun v3 w8 r3=>?_)))));obtain ⟨e8,r3⟩:=r3;obtain ⟨fp2,H8⟩:=H7.res e8 r3;obtain ⟨a2,k2,q2⟩:=ax (H8.mine 4 Z);cases q2;refine sF aW Z bJ (bR (wn Z) bJ Z Z Z H8 2 Z Z (fun w9 e9 H9=>?_));dsimp only[lNA,lCA,lSZ,lSS,aL] at H9;refine aa (ab (sF pc Z IO (sLd xH (H9.box 0 Z) Z (sC func84 Eu Z (p9 (H9.sees 2 Z) (by first | assumption | omega)) (fun v4 w10 r4=>?_)))));obtain ⟨e10,r4⟩:=r4;obtain ⟨fp3,H10⟩:=H9.res e10 r4;obtain ⟨a3,k3,q3⟩:=ax (H10.mine 5 Z);cases q3;refine sF aW Z dE (bR (wn Z) dE Z Z Z H10 2 Z Z (fun w11 e11 H11=>?_));dsimp only[lNA,lCA,lSZ,lSS,aL] at H11;refine aa (ab (sF pc Z ts2 (sLd tu2 (H11.box 0 Z) Z (sF aW Z ts2 (bR (wn Z) ts2 Z Z Z H11 2 Z Z (fun w12 e12 H12=>?_))))));dsimp only[lNA,lCA,lSZ,lSS,aL] at H12;refine aa (ab (sF pc Z ts2 (sLd tu2 (H12.box 0 Z) Z (sF aW Z ts2 (bR (wn Z) ts2 Z Z Z H12 2 Z Z (fun w13 e13 H13=>?_))))));dsimp only[lNA,lCA,lSZ,lSS,aL] at H13;refine aa (ab (sF pc Z ts4 (sLd tu4 (H13.box 0 Z) Z (sF aW Z ts4 (bR (wn Z) ts4 Z Z Z H13 2 Z Z (fun w14 e14 H14=>?_))))));dsimp only[lNA,lCA,lSZ,lSS,aL] at H14;refine aa (ab (sV Z (an aW Z dd Z Z (At.whole (H14.box 2 Z))) (bc (wn Z) dd Z Z Z Z H14 1 Z Z (fun w15 e15 H15=>?_))));dsimp only[lNA,lCA,lSZ,lSS,aL] at H15;refine aa (bM (hQ _ _ (dI results17 Z (aI aW Z dd Z (At.whole (H15.box 1 Z))) ?_)));exact ⟨H15.ext,_,_,_,_,_,_,Z,Wld.out (H15.sub (.cons _ (.cons _ (.cons _ (.cons_cons _ (.cons_cons _ (.cons_cons _ List.Sublist.slnil))))))) xK⟩
theorem ki {w:World}{a b:Wld}{aA9 aA10 aA11 bA9 bA10 bA11:Option Addr}{aC9 aC10 aC11 bC9 bC10 bC11:Nat}(aK:a.Ok) (aS9:Sees w [.slice aA9 a.Groups.length aC9] a.Groups) (aS10:Sees w [.slice aA10 a.On.length aC10] a.On) (aS11:Sees w [.slice aA11 a.Tapes.length aC11] a.Tapes) (bK:b.Ok) (bS9:Sees w [.slice bA9 b.Groups.length bC9] b.Groups) (bS10:Sees w [.slice bA10 b.On.length bC10] b.On) (bS11:Sees w [.slice bA11 b.Tapes.length bC11] b.Tapes):Ret Tryz.prog 20 #[a.val aA9 aC9 aA10 aC10 aA11 aC11,b.val bA9 bC9 bA10 bC10 bA11 bC11] w fun v w'=>Ext No w w'∧(v = .bool (decide (a=b))):=by
 have aK2:=aK;unfold Wld.Ok Shape.Ok at aK2
 try unfold I64ok at aK2
 try unfold maxLen at aK2
 have aL9:=sL aS9;obtain ⟨aF9,aO9⟩:=aS9;have aL10:=sL aS10;obtain ⟨aF10,aO10⟩:=aS10;have aL11:=sL aS11;obtain ⟨aF11,aO11⟩:=aS11;have bK2:=bK;unfold Wld.Ok Shape.Ok at bK2
 try unfold I64ok at bK2
 try unfold maxLen at bK2
 have bL9:=sL bS9;obtain ⟨bF9,bO9⟩:=bS9;have bL10:=sL bS10;obtain ⟨bF10,bO10⟩:=bS10;have bL11:=sL bS11;obtain ⟨bF11,bO11⟩:=bS11;refine aC (vs:=[a.val aA9 aC9 aA10 aC10 aA11 aC11,b.val bA9 bC9 bA10 bC10 bA11 bC11]) func20 Z ntmps20 Z (fun Q hQ hN=>?_);have H0:=Sep.start (w:=w) (F:=[seen false [.slice aA9 a.Groups.length aC9] a.Groups aF9,seen false [.slice aA10 a.On.length aC10] a.On aF10,seen false [.slice aA11 a.Tapes.length aC11] a.Tapes aF11,seen false [.slice bA9 b.Groups.length bC9] b.Groups bF9,seen false [.slice bA10 b.On.length bC10] b.On bF10,seen false [.slice bA11 b.Tapes.length bC11] b.Tapes bF11]) (all_cons aO9 (all_cons aO10 (all_cons aO11 (all_cons bO9 (all_cons bO10 (all_cons bO11 (by simp)))))));refine ab (aZ (wn Z) Z Z H0 (fun b1 w1 e1 g1 H1=>aZ (wn Z) Z Z H1 (fun b2 w2 e2 g2 H2=>sA Z Z (aa (ac (ab (sF aW Z cj (sV Z (an br Z cj Z Z (At.sub (H2.box 0 Z) 9)) (sF aW Z cj (sV Z (an br Z cj Z Z (At.sub (H2.box 1 Z) 9)) (sE func90 DB Z qe H2 (fun w3 e3 H3=>sV Z (aX Z) (aa (bI Z (fun c1=>?_) (fun c1=>?_)))))))))))))))
 ·refine ab (sA Z Z (aa (rT hQ results20 Z (⟨H3.ext,?_⟩))));rw [decide_eq_false (fun e=>by subst e; first | exact c1 rfl | simp at c1)]
 ·refine ah (ac (ab (sF aW Z fP (sLd db (H3.box 0 Z) Z (sF aW Z fP (sLd db (H3.box 1 Z) Z (sE func91 DP Z (nW (H3.sees 0 Z) (H3.sees 3 Z)) H3 (fun w4 e4 H4=>sV Z (aX Z) (aa (bI Z (fun c2=>?_) (fun c2=>?_)))))))))))
  ·refine ab (sA Z Z (aa (rT hQ results20 Z (⟨H4.ext,?_⟩))));rw [decide_eq_false (fun e=>by subst e; first | exact c2 rfl | simp at c2)]
  ·refine ah (ac (ab (sF aW Z bJ (sLd bd (H4.box 0 Z) Z (sF aW Z bJ (sLd bd (H4.box 1 Z) Z (sE func92 vN Z (jV (H4.sees 1 Z) (H4.sees 4 Z)) H4 (fun w5 e5 H5=>sV Z (aX Z) (aa (bI Z (fun c3=>?_) (fun c3=>?_)))))))))))
   ·refine ab (sA Z Z (aa (rT hQ results20 Z (⟨H5.ext,?_⟩))));rw [decide_eq_false (fun e=>by subst e; first | exact c3 rfl | simp at c3)]
   ·refine ah (ac (ab (sF aW Z dE (sLd bX (H5.box 0 Z) Z (sF aW Z dE (sLd bX (H5.box 1 Z) Z (sE func93 Eh Z (pW (H5.sees 2 Z) (H5.sees 5 Z)) H5 (fun w6 e6 H6=>sV Z (aX Z) (aa (bI Z (fun c4=>?_) (fun c4=>?_)))))))))))
    ·refine ab (sA Z Z (aa (rT hQ results20 Z (⟨H6.ext,?_⟩))));rw [decide_eq_false (fun e=>by subst e; first | exact c4 rfl | simp at c4)]
    ·refine ah (ac (ab (sF aW Z ts2 (sLd tu2 (H6.box 0 Z) Z (sF aW Z ts2 (sLd tu2 (H6.box 1 Z) Z (sV Z (bv Z Z) (aa (ay Z (fun c5=>?_) (fun c5=>?_))))))))))
     ·refine ab (sA Z Z (aa (rT hQ results20 Z (⟨H6.ext,?_⟩))));rw [decide_eq_false (fun e=>by subst e; first | exact c5 rfl | simp at c5)]
     ·refine ah (ac (ab (sF aW Z ts2 (sLd tu2 (H6.box 0 Z) Z (sF aW Z ts2 (sLd tu2 (H6.box 1 Z) Z (sV Z (bv Z Z) (aa (ay Z (fun c6=>?_) (fun c6=>?_))))))))))
      ·refine ab (sA Z Z (aa (rT hQ results20 Z (⟨H6.ext,?_⟩))));rw [decide_eq_false (fun e=>by subst e; first | exact c6 rfl | simp at c6)]
      ·refine ah (ac (ab (sF aW Z ts4 (sLd tu4 (H6.box 0 Z) Z (sF aW Z ts4 (sLd tu4 (H6.box 1 Z) Z (sV Z (pU tu4 Z Z) (aa (bI Z (fun c7=>?_) (fun c7=>?_))))))))))
       ·refine ab (sA Z Z (aa (rT hQ results20 Z (⟨H6.ext,?_⟩))));rw [decide_eq_false (fun e=>by subst e; first | exact c7 rfl | simp at c7)]
       ·refine ah (ab (sA Z Z (aa (rT hQ results20 Z (⟨H6.ext,?_⟩)))));rw [decide_eq_true];cases a; cases b; simp_all [jp]
end Go.Wk
namespace Go.Wk
open Rp (sz own)
def apartAt (xs:List Int) (m:Int) (i:Nat):Bool:=ins (xs.getD i 0) 0 m && !decide (xs.getD i 0∈xs.take i)
def apartL (xs:List Int) (m:Int):Bool:=(List.range xs.length).all (apartAt xs m)
theorem jq {n:Nat}{p:Nat→Bool}(h:∀ i,i<n→p i=true):(List.range n).all p=true:=by
  rw [List.all_eq_true]; exact fun i hi=>h i (by simpa using hi)
theorem s9 {n:Nat}{p:Nat→Bool}(h:(List.range n).all p=true) (i:Nat) (hi:i<n):p i=true:=by
  rw [List.all_eq_true] at h; exact h i (by simpa using hi)
theorem lQ {n:Nat}{p:Nat→Bool}(i:Nat) (hi:i<n) (h:p i=false):(List.range n).all p=false:=by
  cases hr:(List.range n).all p with
  | false=>rfl
  | true=>rw [s9 hr i hi] at h; cases h
def fS (s:Shape) (len:Int):Int:=(len-1).tdiv (s.Data*4)+1
def eC (s:Shape) (len:Int):Int:=if len<1 then 6 else if 3*(s.Data*4)<len then 2 else 0
def iz (s:Shape) (r:Rec):Bool:=
  if r.Length = -1 then decide (r.Data.length=0) && decide (r.Rows.length=0)
  else decide (eC s r.Length=0) && if 0<r.Data.length then decide ((r.Data.length:Int)=r.Length) && decide (r.Rows.length=0) else decide ((r.Rows.length:Int)=fS s r.Length) && apartL r.Rows (s.Rows-1)
def weightsOK (s:Shape) (r:Rec):Bool:=
  decide ((r.Delta.length:Int)=s.Groups+s.Column) && decide (((r.Delta.getD r.Group.toNat 0).toNat:Int)=0) && (List.range r.Rows.length).all fun i=>decide (¬ ((r.Delta.getD (r.Rows.getD i 0).toNat 0).toNat:Int)=0)
def cY (s:Shape) (r:Rec):Bool:=
  ins r.Group 0 (s.Groups+s.Column-1) && ins r.Row 0 (s.Rows-1) && rises r.Rows (s.Groups+s.Column-1) && decide ((r.Data.length:Int)=s.Data*4) && weightsOK s r
def ia (s:Shape) (r:Rec):Bool:=ins r.Group 0 (s.Groups-1) && ins r.Row 0 (s.Rows-1) && decide ((r.Data.length:Int)=s.Data*4) && decide ((r.Delta.length:Int)=s.Data*4)
def noName (r:Rec):Bool:=decide (r.Name=⟨#[]⟩)
def bareOK (r:Rec):Bool:=
  if r.Kind=1 then decide (r.Group=0) && decide (r.Row=0) && decide (r.Delta.length=0)
  else if r.Kind=2 then noName r && decide (r.Length=0) && decide (r.Rows.length=0)
  else if r.Kind=3 then noName r && decide (r.Length=0) && decide (r.Row=0) && decide (r.Rows.length=0) && decide (r.Data.length=0) && decide (r.Delta.length=0)
  else noName r && decide (r.Length=0)
def fv (s:Shape) (r:Rec):Int:=
  if r.Kind=1 then if cW r.Name≠0 then cW r.Name else if iz s r then 0 else 3
  else if r.Kind=2 then if ia s r then 0 else 3
  else if r.Kind=3 then if ins r.Group 0 (s.Groups+s.Column-1) then 0 else 3
  else if cY s r then 0 else 3
def fO (s:Shape) (r:Rec):Int:=
  if ins r.Kind 1 4 then if ins r.Seq 1 1000000000 then if fv s r≠0 then fv s r else if bareOK r then 0 else 1 else 3 else 5
def eq (b:Block):Bool:=ins b.Stamp 0 1000000000 && decide (b.Bytes.length=4)
def eG (s:Shape) (d:Drive):Bool:=decide ((d.Blocks.length:Int)=s.Rows) && (List.range d.Blocks.length).all fun i=>eq (d.Blocks.getD i default)
def gq (s:Shape) (g:List Drive):Bool:=decide ((g.length:Int)=s.Data+s.Spare) && (List.range g.length).all fun i=>eG s (g.getD i default)
def bD (w:Wld):Bool:=decide ((w.Groups.length:Int)=w.Shape.Groups+w.Shape.Column) && (List.range w.Groups.length).all fun i=>gq w.Shape (w.Groups.getD i [])
def t5 (w:Wld):Bool:=apartL w.On (w.Shape.Groups+w.Shape.Column-1) && decide ((w.On.length:Int)≤w.Shape.Cap) && (decide (w.On.length=0) || !w.Down)
def eP (s:Shape) (rs:List Rec):Nat→Int
  | 0=>0
  | k+1=>if eP s rs k≠0 then eP s rs k else fO s (rs.getD k default)
def eD (s:Shape) (ts:List Tape):Nat→Int
  | 0=>0
  | k+1=>if eD s ts k≠0 then eD s ts k else eP s (ts.getD k default).Recs (ts.getD k default).Recs.length
def cV (t:Tape):Bool:=decide ((200:Int)<t.Recs.length)
def dy (t:Tape):Bool:=t.Wiped && decide ((0:Int)<t.Recs.length)
def fz (w:Wld):Int:=
  if w.Tapes.any cV then 2 else if eD w.Shape w.Tapes w.Tapes.length≠0 then eD w.Shape w.Tapes w.Tapes.length else if w.Tapes.any dy then 1 else 0
def ey (w:Wld):Int:=
  if w.Shape.fault≠0 then w.Shape.fault
  else if bD w && t5 w && decide (w.Tapes.length=2) then if fz w≠0 then fz w else if ins w.Writes 0 1000000000 && ins w.Stop (-1) 1000000000 then 0 else 3
  else 1
end Go.Wk
namespace Go.Wk
open Rp (sz own)
section
variable {s:Shape}{len:Int}
theorem vV (hd:1≤s.Data∧s.Data≤3) (h:1≤len):3<(len-1).tdiv (s.Data*4)+1↔3*(s.Data*4)<len:=by
  rw [Int.tdiv_eq_ediv_of_nonneg (by omega)]
  have:s.Data=1∨s.Data=2∨s.Data=3:=by omega
  rcases this with e | e | e<;>rw [e]<;>omega
theorem vZ (hd:1≤s.Data∧s.Data≤3) (h:1≤len):(len+s.Data*4-1).tdiv (s.Data*4)=fS s len:=by
  rw [fS,Int.tdiv_eq_ediv_of_nonneg (by omega),Int.tdiv_eq_ediv_of_nonneg (by omega)]
  have:s.Data=1∨s.Data=2∨s.Data=3:=by omega
  rcases this with e | e | e<;>rw [e]<;>omega
theorem yH (hd:1≤s.Data∧s.Data≤3) (h:1≤len):0≤(len-1).tdiv (s.Data*4)∧(len-1).tdiv (s.Data*4)<len:=by
  rw [Int.tdiv_eq_ediv_of_nonneg (by omega)]
  have:s.Data=1∨s.Data=2∨s.Data=3:=by omega
  rcases this with e | e | e<;>rw [e]<;>omega
def lN (s:Shape) (len:Int):Int:=if eC s len=0 then fS s len else 0
theorem yA (h:len<1):eC s len=6∧lN s len=0:=by
  have:eC s len=6:=by rw [eC,if_pos h]
  exact ⟨this,by rw [lN,this]; rfl⟩
theorem vu (h:¬ len<1) (h2:3*(s.Data*4)<len):eC s len=2∧lN s len=0:=by
  have:eC s len=2:=by rw [eC,if_neg h,if_pos h2]
  exact ⟨this,by rw [lN,this]; rfl⟩
theorem CL (h:¬ len<1) (h2:¬ 3*(s.Data*4)<len):eC s len=0∧lN s len=fS s len:=by
  have:eC s len=0:=by rw [eC,if_neg h,if_neg h2]
  exact ⟨this,by rw [lN,if_pos this]⟩
theorem vy (h:eC s len=0):1≤len∧¬ 3*(s.Data*4)<len:=by
  unfold eC at h
  split at h
  · cases h
  · split at h
    · cases h
    · exact ⟨by omega,by omega⟩
end
theorem lr {n:Nat}{p:Nat→Bool}:(List.range (n+1)).all p=((List.range n).all p && p n):=by
  rw [List.range_succ,List.all_append]; simp
theorem fb {α:Type}{xs:List α}{i:Nat}:cut xs 0 i=xs.take i:=by simp [cut]
theorem pm {s:Shape}{rs:List Rec}{j:Nat}(h:eP s rs j≠0):∀ m,j≤m→eP s rs m=eP s rs j:=by
  intro m hm
  induction m with
  | zero=>rw [show j=0 by omega]
  | succ m ih=>
    by_cases e:j=m+1
    · rw [e]
    · have ih:=ih (by omega)
      rw [eP,if_pos (by rw [ih]; exact h),ih]
theorem jC {s:Shape}{rs:List Rec}{j:Nat}(h:eP s rs j=0):eP s rs (j+1)=fO s (rs.getD j default):=by rw [eP,if_neg (by omega)]
theorem Dz {s:Shape}{rs:List Rec}{j:Nat}(hj:j<rs.length) (h:eP s rs j=0) (hr:fO s (rs.getD j default)≠0):eP s rs rs.length=fO s (rs.getD j default):=by
  have e:=jC h
  rw [pm (j:=j+1) (by rw [e]; exact hr) _ (by omega),e]
theorem po {s:Shape}{ts:List Tape}{j:Nat}(h:eD s ts j≠0):∀ m,j≤m→eD s ts m=eD s ts j:=by
  intro m hm
  induction m with
  | zero=>rw [show j=0 by omega]
  | succ m ih=>
    by_cases e:j=m+1
    · rw [e]
    · have ih:=ih (by omega)
      rw [eD,if_pos (by rw [ih]; exact h),ih]
theorem jy {s:Shape}{ts:List Tape}{j:Nat}(h:eD s ts j=0):eD s ts (j+1)=eP s (ts.getD j default).Recs (ts.getD j default).Recs.length:=by rw [eD,if_neg (by omega)]
theorem Er {s:Shape}{ts:List Tape}{j i:Nat}(hj:j<ts.length) (h:eD s ts j=0) (hi:i<(ts.getD j default).Recs.length) (h2:eP s (ts.getD j default).Recs i=0) (hr:fO s ((ts.getD j default).Recs.getD i default)≠0) :
    eD s ts ts.length=fO s ((ts.getD j default).Recs.getD i default):=by
  have e:=jy h
  rw [Dz hi h2 hr] at e
  rw [po (j:=j+1) (by rw [e]; exact hr) _ (by omega),e]
theorem xC {α:Type}[Inhabited α] {xs:List α}{p:α→Bool}(k:Nat) (hk:k<xs.length) (h:p (xs.getD k default)=true):xs.any p=true:=by
  rw [List.any_eq_true]
  exact ⟨xs[k],List.getElem_mem hk,by simpa [List.getD,hk] using h⟩
theorem t4 {α:Type}[Inhabited α] {xs:List α}{p:α→Bool}(h:∀ i,i<xs.length→p (xs.getD i default)=false):xs.any p=false:=by
  rw [List.any_eq_false]
  intro x hx
  obtain ⟨i,hi,rfl⟩:=List.getElem_of_mem hx
  have:=h i hi
  simpa [List.getD,hi] using this
end Go.Wk
namespace Go.Wk
def upF (w:Wld):Int:=if ey w≠0 then ey w else if w.Down=true then 9 else 0
def fG (w:Wld) (g:Int):Int:=if ins g 0 (w.Shape.Groups+w.Shape.Column-1)=true then if g∈w.On then 0 else 8 else 3
def rG (w:Wld) (g row:Int):Int:=if ins g 0 (w.Shape.Groups+w.Shape.Column-1)=true∧ins row 0 (w.Shape.Rows-1)=false then 3 else fG w g
def eN (w:Wld) (g row:Int):Int:=if upF w≠0 then upF w else rG w g row
theorem cd {w:Wld}(h:ey w=0):w.Shape.ok=true∧bD w=true∧t5 w=true∧w.Tapes.length=2∧fz w=0:=by
  unfold ey at h
  split at h
  · rename_i h1; exact absurd h h1
  · rename_i h1
    have hs:=iJ (s:=w.Shape) (by omega)
    split at h
    · rename_i h2
      simp only [Bool.and_eq_true,decide_eq_true_eq] at h2
      split at h
      · rename_i h3; exact absurd h h3
      · rename_i h3
        exact ⟨hs,h2.1.1,h2.1.2,h2.2,by omega⟩
    · cases h
theorem iB {w:Wld}(h:upF w=0):ey w=0∧w.Down=false:=by
  unfold upF at h
  split at h
  · rename_i h1; exact absurd h h1
  · split at h
    · cases h
    · rename_i h1 h2
      exact ⟨by omega,by simpa using h2⟩
theorem jK {w:Wld}(h:bD w=true):(w.Groups.length:Int)=w.Shape.Groups+w.Shape.Column∧∀ g,g<w.Groups.length→((w.Groups.getD g []).length:Int)=w.Shape.Data+w.Shape.Spare ∧
    ∀ d,d<(w.Groups.getD g []).length→((((w.Groups.getD g []).getD d default).Blocks.length:Int)=w.Shape.Rows) ∧
      ∀ i,i<((w.Groups.getD g []).getD d default).Blocks.length→eq (((w.Groups.getD g []).getD d default).Blocks.getD i default)=true:=by
  simp only [bD,Bool.and_eq_true,decide_eq_true_eq] at h
  refine ⟨h.1,fun g hg=>?_⟩
  have h2:=s9 h.2 g hg
  simp only [gq,Bool.and_eq_true,decide_eq_true_eq] at h2
  refine ⟨h2.1,fun d hd=>?_⟩
  have h3:=s9 h2.2 d hd
  simp only [eG,Bool.and_eq_true,decide_eq_true_eq] at h3
  exact ⟨h3.1,fun i hi=>s9 h3.2 i hi⟩
theorem xL {b:Block}(h:eq b=true):0≤b.Stamp∧b.Stamp≤1000000000∧b.Bytes.length=4:=by
  simp only [eq,Bool.and_eq_true,bQ,decide_eq_true_eq] at h
  exact ⟨h.1.1,h.1.2,h.2⟩
end Go.Wk
namespace Go.Wk
theorem eqB {a b:Bool}(h:a=b):some (Value.bool a)=some (Value.bool b):=by rw [h]
def sr (s:Shape) (r:Rec):Int:=if cW r.Name≠0 then cW r.Name else if iz s r=true then 0 else 3
theorem uB {s r} (h:cW r.Name≠0):sr s r=cW r.Name:=by rw [sr,if_pos h]
theorem mT {s r} (h:¬ cW r.Name≠0) (h2:iz s r=true):sr s r=0:=by rw [sr,if_neg h,if_pos h2]
theorem li {s r} (h:¬ cW r.Name≠0) (h2:iz s r=false):sr s r=3:=by rw [sr,if_neg h,if_neg (by simp [h2])]
end Go.Wk
namespace Go.Wk
open Rp (sz own)
section
variable {P:Program}{n:Nat}{c:Code}{Q:Post}{L:Env}{w w0:World}{M:Nat→Prop}{Δ F:List Rsc}
theorem jS {L:Env}:∀ {A B:Env},sub L A→sub L B→sub L (A++B)
  | [],_,_,h=>h
  | _::_,_,h,k=>⟨h.1,jS h.2 k⟩
theorem bU {γ:Type}(H:Sep M w0 Δ F w) (E2:Env) (h2:sub L E2) (E:γ→Env) (I:γ→Prop) (μ:γ→Nat) (g0:γ) (hs:sub L (E g0)) (h0:I g0)
  (round:∀ g w,Sep M w0 Δ F w→I g→W P n c (again (fun g=>E g++E2) (fun g w'=>Sep M w0 Δ F w'∧I g) μ g Q) (E g++E2) w):W P n (.loop c) Q L w:=
 ba (fun g=>E g++E2) (fun g w'=>Sep M w0 Δ F w'∧I g) μ g0 (jS hs h2) ⟨H,h0⟩ fun g w h=>round g w h.1 h.2
theorem FU {x y:Code}{γ:Type}(H:Sep M w0 Δ F w) (E2:Env) (h2:sub L E2) (E:γ→Env) (I:γ→Prop)
  (h:W P n x (meets (fun g=>E g++E2) (fun g w'=>Sep M w0 Δ F w'∧I g) Q) L w)
  (k:∀ g w',Sep M w0 Δ F w'→I g→W P n y Q (E g++E2) w'):W P n (.seq x y) Q L w:=
 FF (fun g=>E g++E2) (fun g w'=>Sep M w0 Δ F w'∧I g) h fun g w' hI=>k g w' hI.1 hI.2
end
end Go.Wk
namespace Go.Wk
theorem Dj {s:Shape}{r:Rec}{a b c d:Bool}(h1:r.Length ≠ -1) (h2:eC s r.Length=0) (ea:a=decide ((r.Data.length:Int)=r.Length)) (eb:b=decide ((r.Rows.length:Int)=0))
    (ec:c=decide ((r.Data.length:Int)=0)) (ed:d=decide ((r.Rows.length:Int)=fS s r.Length)):(a && b || (c && d && apartL r.Rows (s.Rows-1)))=iz s r:=by
  subst ea; subst eb; subst ec; subst ed
  have hz:=vy h2
  rw [iz,if_neg h1,decide_eq_true h2,Bool.true_and]
  by_cases hd:0<r.Data.length
  · rw [if_pos hd,decide_eq_false (by omega:¬ ((r.Data.length:Int)=0))]
    simp
  · rw [if_neg hd,decide_eq_true (by omega:((r.Data.length:Int)=0)),decide_eq_false (by omega:¬ ((r.Data.length:Int)=r.Length))]
    simp
theorem tv {s:Shape}{r:Rec}(h1:r.Length = -1):iz s r=(decide (r.Data.length=0) && decide (r.Rows.length=0)):=by rw [iz,if_pos h1]
theorem wm {s:Shape}{r:Rec}(h1:r.Length ≠ -1) (h2:eC s r.Length≠0):iz s r=false:=by rw [iz,if_neg h1,decide_eq_false h2]; rfl
theorem wE {s:Shape}{len:Int}(h:eC s len=0):lN s len=fS s len:=by rw [lN,if_pos h]
end Go.Wk
namespace Go.Wk
def kD (r:Rec):Bool:=noName r && decide (r.Length=0) && decide (r.Group=0) && decide (r.Row=0) && decide (r.Rows.length=0) && decide (r.Data.length=0) && decide (r.Delta.length=0)
def eS (r:Rec):Rec:=
  if r.Kind=1 then ⟨r.Kind,r.Seq,r.Name,r.Length,0,0,r.Rows,r.Data,[]⟩
  else if r.Kind=2 then ⟨r.Kind,r.Seq,⟨#[]⟩,0,r.Group,r.Row,[],r.Data,r.Delta⟩
  else if r.Kind=3 then ⟨r.Kind,r.Seq,⟨#[]⟩,0,r.Group,0,[],[],[]⟩
  else if r.Kind=4 then ⟨r.Kind,r.Seq,⟨#[]⟩,0,r.Group,r.Row,r.Rows,r.Data,r.Delta⟩
  else ⟨r.Kind,r.Seq,⟨#[]⟩,0,0,0,[],[],[]⟩
theorem tX {r:Rec}(hk:1≤r.Kind∧r.Kind≤4):decide (r=eS r)=bareOK r:=by
  obtain ⟨k,q,nm,ln,g,rw,rs,da,de⟩:=r
  have:k=1∨k=2∨k=3∨k=4:=by simp only at hk; omega
  rcases this with rfl | rfl | rfl | rfl<;>simp [eS,bareOK,noName,Bool.and_assoc]
theorem yp {a b:Rec}:(decide (a.Kind=b.Kind) && (decide (a.Seq=b.Seq) && ((a.Name.toList == b.Name.toList) && (decide (a.Length=b.Length) && (decide (a.Group=b.Group) && (decide (a.Row=b.Row) && (decide (a.Rows=b.Rows) && (decide (a.Data=b.Data) && decide (a.Delta=b.Delta)))))))))=decide (a=b):=by
  obtain ⟨k,q,nm,ln,g,rw,rs,da,de⟩:=a
  obtain ⟨k2,q2,nm2,ln2,g2,rw2,rs2,da2,de2⟩:=b
  simp [jp]
theorem tZ {s:Shape}{r:Rec}(h:¬ ((r.Delta.getD r.Group.toNat 0).toNat:Int)=0):weightsOK s r=false:=by rw [weightsOK,decide_eq_false h]; simp
theorem uk {s:Shape}{r:Rec}(k:Nat) (hk:k<r.Rows.length) (h:((r.Delta.getD (r.Rows.getD k 0).toNat 0).toNat:Int)=0):weightsOK s r=false:=by
  rw [weightsOK,lQ k hk (by rw [decide_eq_false (by simpa using h)])]; simp
theorem wJ {s:Shape}{r:Rec}(h:(r.Delta.length:Int)=s.Groups+s.Column) (h2:((r.Delta.getD r.Group.toNat 0).toNat:Int)=0) (h3:∀ i,i<r.Rows.length→¬ ((r.Delta.getD (r.Rows.getD i 0).toNat 0).toNat:Int)=0):weightsOK s r=true:=by
  rw [weightsOK,decide_eq_true h,decide_eq_true h2,jq fun i hi=>decide_eq_true (h3 i hi)]; rfl
theorem By {s:Shape}{r:Rec}(h:¬ (r.Delta.length:Int)=s.Groups+s.Column):weightsOK s r=false:=by rw [weightsOK,decide_eq_false h]; rfl
end Go.Wk
namespace Go.Wk
theorem oN {s:Shape}{r:Rec}(h1:r.Length ≠ -1) (h2:eC s r.Length=0):iz s r=if 0<r.Data.length then decide ((r.Data.length:Int)=r.Length) && decide (r.Rows.length=0) else decide ((r.Rows.length:Int)=fS s r.Length) && apartL r.Rows (s.Rows-1):=by
  rw [iz,if_neg h1,decide_eq_true h2,Bool.true_and]
end Go.Wk
namespace Go.Wk
theorem yX {α:Type}{d:α}{xs:List α}{p:α→Bool}(h:xs.any p=true):∃ i,i<xs.length∧p (xs.getD i d)=true:=by
  rw [List.any_eq_true] at h
  obtain ⟨x,hx,hp⟩:=h
  obtain ⟨i,hi,rfl⟩:=List.getElem_of_mem hx
  exact ⟨i,hi,by simpa [List.getD,hi] using hp⟩
theorem xw {α:Type}{d:α}{xs:List α}{p:α→Bool}(h:xs.any p=false) (i:Nat) (hi:i<xs.length):p (xs.getD i d)=false:=by
  rw [List.any_eq_false] at h
  have:=h xs[i] (List.getElem_mem hi)
  simpa [List.getD,hi] using this
theorem Au {s:Shape}{r:Rec}(h:r.Rows.any (fun k=>decide (((r.Delta.getD k.toNat 0).toNat:Int)=0))=true):weightsOK s r=false:=by
  obtain ⟨i,hi,h⟩:=yX (d:=0) h
  exact uk i hi (by simpa using h)
theorem yz {s:Shape}{r:Rec}(h:(r.Delta.length:Int)=s.Groups+s.Column) (h2:((r.Delta.getD r.Group.toNat 0).toNat:Int)=0) (h3:r.Rows.any (fun k=>decide (((r.Delta.getD k.toNat 0).toNat:Int)=0))=false):weightsOK s r=true:=
  wJ h h2 fun i hi=>by simpa using xw (d:=0) h3 i hi
end Go.Wk
namespace Go.Wk
theorem F3 {r:Rec}(h:r.Kind=1):eS r=⟨r.Kind,r.Seq,r.Name,r.Length,0,0,r.Rows,r.Data,[]⟩:=by rw [eS,if_pos h]
theorem GV {r:Rec}(h:¬ r.Kind=1) (h2:r.Kind=2):eS r=⟨r.Kind,r.Seq,⟨#[]⟩,0,r.Group,r.Row,[],r.Data,r.Delta⟩:=by rw [eS,if_neg h,if_pos h2]
theorem Gm {r:Rec}(h:¬ r.Kind=1) (h2:¬ r.Kind=2) (h3:r.Kind=3):eS r=⟨r.Kind,r.Seq,⟨#[]⟩,0,r.Group,0,[],[],[]⟩:=by rw [eS,if_neg h,if_neg h2,if_pos h3]
theorem GF {r:Rec}(h:¬ r.Kind=1) (h2:¬ r.Kind=2) (h3:¬ r.Kind=3) (h4:r.Kind=4):eS r=⟨r.Kind,r.Seq,⟨#[]⟩,0,r.Group,r.Row,r.Rows,r.Data,r.Delta⟩:=by rw [eS,if_neg h,if_neg h2,if_neg h3,if_pos h4]
theorem Gi {r:Rec}(h:¬ r.Kind=1) (h2:¬ r.Kind=2) (h3:¬ r.Kind=3) (h4:¬ r.Kind=4):eS r=⟨r.Kind,r.Seq,⟨#[]⟩,0,0,0,[],[],[]⟩:=by rw [eS,if_neg h,if_neg h2,if_neg h3,if_neg h4]
theorem Fv {r:Rec}(h:r.Ok):(eS r).Ok:=by
  unfold Rec.Ok I64ok at h ⊢
  unfold eS
  have:(⟨#[]⟩:ByteArray).size≤maxLen:=Nat.zero_le _
  split
  · simp only; omega
  · split
    · simp only; omega
    · split
      · simp only; omega
      · split
        · simp only; omega
        · simp only; omega
end Go.Wk
namespace Go.Wk
section
variable {s:Shape}{r:Rec}
theorem nr (h:ins r.Kind 1 4=false):fO s r=5:=by rw [fO,if_neg (by simp [h])]
theorem p3 (h:ins r.Kind 1 4=true) (h2:ins r.Seq 1 1000000000=false):fO s r=3:=by rw [fO,if_pos h,if_neg (by simp [h2])]
theorem er (h:ins r.Kind 1 4=true) (h2:ins r.Seq 1 1000000000=true) (h3:fv s r≠0):fO s r=fv s r:=by rw [fO,if_pos h,if_pos h2,if_pos h3]
theorem jx (h:ins r.Kind 1 4=true) (h2:ins r.Seq 1 1000000000=true) (h3:fv s r=0) (h4:bareOK r=false):fO s r=1:=by rw [fO,if_pos h,if_pos h2,if_neg (by omega),if_neg (by simp [h4])]
theorem nD (h:ins r.Kind 1 4=true) (h2:ins r.Seq 1 1000000000=true) (h3:fv s r=0) (h4:bareOK r=true):fO s r=0:=by rw [fO,if_pos h,if_pos h2,if_neg (by omega),if_pos h4]
theorem jF (h:r.Kind=1):fv s r=sr s r:=by rw [fv,if_pos h]; rfl
theorem dP (h:r.Kind=4):fv s r=if cY s r=true then 0 else 3:=by rw [fv,if_neg (by omega),if_neg (by omega),if_neg (by omega)]
theorem oh (h:r.Kind=3) (h2:ins r.Group 0 (s.Groups+s.Column-1)=false):fv s r=3:=by rw [fv,if_neg (by omega),if_neg (by omega),if_pos h,if_neg (by simp [h2])]
theorem ky (h:r.Kind=3) (h2:ins r.Group 0 (s.Groups+s.Column-1)=true):fv s r=0:=by rw [fv,if_neg (by omega),if_neg (by omega),if_pos h,if_pos h2]
theorem dO (h:r.Kind=2) (h2:ia s r=false):fv s r=3:=by rw [fv,if_neg (by omega),if_pos h,if_neg (by simp [h2])]
theorem kB (h:r.Kind=2) (h2:ia s r=true):fv s r=0:=by rw [fv,if_neg (by omega),if_pos h,if_pos h2]
end
end Go.Wk
namespace Go.Wk
section
variable {P:Program}{n:Nat}{c:Code}{Q:Post}{L:Env}{w w0:World}{M:Nat→Prop}{Δ F:List Rsc}
theorem mB {Δ:List Rsc}{i:Nat}{r:Rsc}(h:Δ[i]? = some r):Δ.set i r=Δ:=by
  apply List.ext_getElem?
  intro j
  rw [List.getElem?_set]
  split
  · rename_i e; subst e
    obtain ⟨hl,_⟩:=List.getElem?_eq_some_iff.1 h
    rw [if_pos hl,h]
  · rfl
theorem iH {α:Type}[Rp α] {γ:Type}{v0:Value}{fp0:List Nat}(f:γ→List α) (g0:γ) (H:Sep M w0 Δ F w) (i:Nat) (hi:Δ[i]? = some (mine [v0] (f g0) fp0)) (t:Nat) (ht:look L t=some v0)
  (E2:Env) (h2:sub L E2) (E:γ→Env) (I:γ→Prop) (μ:γ→Nat) (hs:sub L (E g0)) (h0:I g0)
  (round:∀ g v fp w,Sep M w0 (Δ.set i (mine [v] (f g) fp)) F w→I g→W P n c (again (fun x:γ × Value × List Nat=>(t,x.2.1)::(E x.1++E2)) (fun x w'=>Sep M w0 (Δ.set i (mine [x.2.1] (f x.1) x.2.2)) F w'∧I x.1) (fun x=>μ x.1) (g,v,fp) Q) ((t,v)::(E g++E2)) w):W P n (.loop c) Q L w:=
 ba (fun x:γ × Value × List Nat=>(t,x.2.1)::(E x.1++E2)) (fun x w'=>Sep M w0 (Δ.set i (mine [x.2.1] (f x.1) x.2.2)) F w'∧I x.1) (fun x=>μ x.1) (g0,v0,fp0) ⟨ht,jS hs h2⟩ ⟨by rw [mB hi]; exact H,h0⟩ fun x w h=>round x.1 x.2.1 x.2.2 w h.1 h.2
end
end Go.Wk
namespace Go.Wk
open Rp (sz own)
section
variable {s:Shape}{r:Rec}
theorem E6 (h:r.Ok):(⟨r.Kind,r.Seq,⟨#[]⟩,0,r.Group,r.Row,[],[],r.Delta⟩:Rec).Ok:=by
  unfold Rec.Ok I64ok at h ⊢
  have:(⟨#[]⟩:ByteArray).size≤maxLen:=Nat.zero_le _
  simp only; omega
theorem Fl (h:r.Ok):(⟨r.Kind,r.Seq,r.Name,r.Length,0,0,r.Rows,[],[]⟩:Rec).Ok:=by
  unfold Rec.Ok I64ok at h ⊢
  simp only; omega
theorem Fq (h:r.Ok):(⟨r.Kind,r.Seq,r.Name,r.Length,0,r.Row,r.Rows,r.Data,r.Delta⟩:Rec).Ok:=by
  unfold Rec.Ok I64ok at h ⊢
  simp only; omega
theorem Ey (h:r.Ok):(⟨r.Kind,r.Seq,r.Name,r.Length,0,0,[],[],[]⟩:Rec).Ok:=by
  unfold Rec.Ok I64ok at h ⊢
  simp only; omega
theorem tF (h:r.Kind=1):kD ⟨r.Kind,r.Seq,⟨#[]⟩,0,r.Group,r.Row,[],[],r.Delta⟩=bareOK r:=by rw [bareOK,if_pos h]; simp [kD,noName]
theorem uc (h:r.Kind=2):kD ⟨r.Kind,r.Seq,r.Name,r.Length,0,0,r.Rows,[],[]⟩=bareOK r:=by rw [bareOK,if_neg (by omega),if_pos h]; simp [kD,noName]
theorem uR (h:r.Kind=3):kD ⟨r.Kind,r.Seq,r.Name,r.Length,0,r.Row,r.Rows,r.Data,r.Delta⟩=bareOK r:=by rw [bareOK,if_neg (by omega),if_neg (by omega),if_pos h]; simp [kD,noName,Bool.and_assoc]
theorem un (h:r.Kind=4):kD ⟨r.Kind,r.Seq,r.Name,r.Length,0,0,[],[],[]⟩=bareOK r:=by rw [bareOK,if_neg (by omega),if_neg (by omega),if_neg (by omega)]; simp [kD,noName]
end
end Go.Wk
namespace Go.Wk
section
variable {z:Wld}{s:Shape}{g:List Drive}{d:Drive}
theorem B2 {α:Type}[Inhabited α] {xs:List α}{p:α→Bool}(h:(xs.any fun b => !p b)=false):((List.range xs.length).all fun i=>p (xs.getD i default))=true:=
  jq fun i hi=>by simpa using xw (d:=default) h i hi
theorem tQ {α:Type}[Inhabited α] {xs:List α}{p:α→Bool}(h:(xs.any fun b => !p b)=true):((List.range xs.length).all fun i=>p (xs.getD i default))=false:=by
  obtain ⟨i,hi,h⟩:=yX (d:=default) h
  exact lQ i hi (by simpa using h)
theorem si (h:¬ (d.Blocks.length:Int)=s.Rows):eG s d=false:=by rw [eG,decide_eq_false h]; rfl
theorem yb (h:(d.Blocks.any fun b => !eq b)=true):eG s d=false:=by rw [eG,tQ h,Bool.and_false]
theorem yZ (h:(d.Blocks.length:Int)=s.Rows) (h2:(d.Blocks.any fun b => !eq b)=false):eG s d=true:=by rw [eG,decide_eq_true h,B2 h2]; rfl
theorem yE (h:(d.Blocks.length:Int)=s.Rows) (h2:∀ i,i<d.Blocks.length→eq (d.Blocks.getD i default)=true):eG s d=true:=by rw [eG,decide_eq_true h,jq h2]; rfl
theorem Bh (i:Nat) (hi:i<d.Blocks.length) (h2:eq (d.Blocks.getD i default)=false):eG s d=false:=by rw [eG,lQ i hi h2,Bool.and_false]
theorem sj (h:¬ (g.length:Int)=s.Data+s.Spare):gq s g=false:=by rw [gq,decide_eq_false h]; rfl
theorem lM (k:Nat) (hk:k<g.length) (h:eG s (g.getD k default)=false):gq s g=false:=by rw [gq,lQ k hk h,Bool.and_false]
theorem sd (h:(g.length:Int)=s.Data+s.Spare) (h2:∀ i,i<g.length→eG s (g.getD i default)=true):gq s g=true:=by rw [gq,decide_eq_true h,jq h2]; rfl
theorem pL (h:¬ (z.Groups.length:Int)=z.Shape.Groups+z.Shape.Column):bD z=false:=by rw [bD,decide_eq_false h]; rfl
theorem gP (k:Nat) (hk:k<z.Groups.length) (h:gq z.Shape (z.Groups.getD k [])=false):bD z=false:=by rw [bD,lQ k hk h,Bool.and_false]
theorem qx (h:(z.Groups.length:Int)=z.Shape.Groups+z.Shape.Column) (h2:∀ i,i<z.Groups.length→gq z.Shape (z.Groups.getD i [])=true):bD z=true:=by rw [bD,decide_eq_true h,jq h2]; rfl
end
end Go.Wk
namespace Go.Wk
section
variable {z:Wld}
theorem u6 (h:(List.range z.On.length).all (apartAt z.On (z.Shape.Groups+z.Shape.Column-1))=false):t5 z=false:=by rw [t5,apartL,h]; rfl
theorem rv (h:(List.range z.On.length).all (apartAt z.On (z.Shape.Groups+z.Shape.Column-1))=true) {b:Bool}(hb:b=(decide ((z.On.length:Int)≤z.Shape.Cap) && (decide (z.On.length=0) || !z.Down))):t5 z=b:=by rw [t5,apartL,h,hb]; simp [Bool.and_assoc]
theorem iX (h:z.Tapes.any cV=true):fz z=2:=by rw [fz,if_pos h]
theorem pt (h:z.Tapes.any cV=false) {k k2:Nat}(hk:k<z.Tapes.length) (hkz:eD z.Shape z.Tapes k=0) (hk2:k2<(z.Tapes.getD k default).Recs.length) (h2:eP z.Shape (z.Tapes.getD k default).Recs k2=0)
    (hr:fO z.Shape ((z.Tapes.getD k default).Recs.getD k2 default)≠0):fz z=fO z.Shape ((z.Tapes.getD k default).Recs.getD k2 default):=by
  have e:=Er hk hkz hk2 h2 hr
  rw [fz,if_neg (by simp [h]),if_pos (by rw [e]; exact hr),e]
theorem nc (h:z.Tapes.any cV=false) (h2:eD z.Shape z.Tapes z.Tapes.length=0) (h3:z.Tapes.any dy=true):fz z=1:=by rw [fz,if_neg (by simp [h]),if_neg (by omega),if_pos h3]
theorem rx (h:z.Tapes.any cV=false) (h2:eD z.Shape z.Tapes z.Tapes.length=0) (h3:z.Tapes.any dy=false):fz z=0:=by rw [fz,if_neg (by simp [h]),if_neg (by omega),if_neg (by simp [h3])]
end
end Go.Wk
namespace Go.Wk
section
variable {z:Wld}{b:Block}
theorem Ad (h:(!ins b.Stamp 0 1000000000 || decide ((b.Bytes.length:Int)≠4))=true):eq b=false:=by
  rw [eq]
  simp only [Bool.or_eq_true,decide_eq_true_eq] at h
  rcases h with h | h
  · rw [cN h]; rfl
  · rw [decide_eq_false (by omega),Bool.and_false]
theorem yN (h:(!ins b.Stamp 0 1000000000 || decide ((b.Bytes.length:Int)≠4))=false):eq b=true:=by
  rw [Bool.or_eq_false_iff] at h
  have h2:=of_decide_eq_false h.2
  rw [eq,aE h.1,decide_eq_true (by omega)]; rfl
theorem ta {α:Type}[Inhabited α] {xs:List α}{p:α→Bool}(h:xs.length=2) (h2:p (xs.getD 0 default)=true∨p (xs.getD 1 default)=true):xs.any p=true:=by
  rcases h2 with h2 | h2
  · exact xC 0 (by omega) h2
  · exact xC 1 (by omega) h2
theorem rX {α:Type}[Inhabited α] {xs:List α}{p:α→Bool}(h:xs.length=2) (h0:p (xs.getD 0 default)=false) (h1:p (xs.getD 1 default)=false):xs.any p=false:=
  t4 fun i hi=>by
    have:i=0∨i=1:=by omega
    rcases this with rfl | rfl
    · exact h0
    · exact h1
theorem kv:(bD z && (apartL z.On (z.Shape.Groups+z.Shape.Column-1) && (decide ((z.On.length:Int)≤z.Shape.Cap) && ((decide (z.On.length=0) || !z.Down) && decide (z.Tapes.length=2)))))=(bD z && t5 z && decide (z.Tapes.length=2)):=by
  rw [t5]; simp only [Bool.and_assoc]
end
end Go.Wk
namespace Go.Wk
theorem be {w:World}{b o:Nat}{cs:List Value}(h:At w b o cs) (j:Nat) {v:Value}(hj:cs[j]? = some v):w.cell? ⟨b,o+j,none⟩=some v:=h j v hj
end Go.Wk
namespace Go.Wk
open Rp (sz own)
section
variable {z:Wld}{s:Shape}{g row d:Int}
theorem vT (h:ins g 0 (z.Shape.Groups+z.Shape.Column-1)=false):fG z g=3:=by rw [fG,if_neg (by simp [h])]
theorem uP (h:ins g 0 (z.Shape.Groups+z.Shape.Column-1)=true) (h2:¬ g∈z.On):fG z g=8:=by rw [fG,if_pos h,if_neg h2]
theorem wB (h:ins g 0 (z.Shape.Groups+z.Shape.Column-1)=true) (h2:g∈z.On):fG z g=0:=by rw [fG,if_pos h,if_pos h2]
def mH (s:Shape) (g d row:Int):Bool:=ins g 0 (s.Groups+s.Column-1) && (ins d 0 (s.Data+s.Spare-1) && ins row 0 (s.Rows-1))
theorem tW (h:s.ok=true):mH s g 0 row=(ins g 0 (s.Groups+s.Column-1) && ins row 0 (s.Rows-1)):=by
  have:=bt h
  have:ins 0 0 (s.Data+s.Spare-1)=true:=bQ.2 (by omega)
  rw [mH,this,Bool.true_and]
theorem Ai (h:z.Shape.ok=true) (h2:mH z.Shape g 0 row=false):rG z g row=3:=by
  rw [tW h] at h2
  unfold rG
  by_cases hg:ins g 0 (z.Shape.Groups+z.Shape.Column-1)=true
  · rw [if_pos ⟨hg,by rw [hg,Bool.true_and] at h2; exact h2⟩]
  · rw [if_neg (fun e=>hg e.1),vT (by simpa using hg)]
theorem sW (h:z.Shape.ok=true) (h2:mH z.Shape g 0 row=true):rG z g row=fG z g∧ins g 0 (z.Shape.Groups+z.Shape.Column-1)=true:=by
  rw [tW h,Bool.and_eq_true] at h2
  exact ⟨by rw [rG,if_neg (by simp [h2.2])],h2.1⟩
theorem E7 (h:z.Shape.ok=true) (h2:mH z.Shape g 0 row=true) (h3:decide (g∈z.On)=false):rG z g row=8:=by
  rw [(sW h h2).1,uP (sW h h2).2 (of_decide_eq_false h3)]
theorem Gw (h:z.Shape.ok=true) (h2:mH z.Shape g 0 row=true) (h3:decide (g∈z.On)=true):rG z g row=0:=by
  rw [(sW h h2).1,wB (sW h h2).2 (of_decide_eq_true h3)]
theorem xP (h:fG z g=0):ins g 0 (z.Shape.Groups+z.Shape.Column-1)=true∧g∈z.On:=by
  unfold fG at h
  split at h
  · rename_i h1
    split at h
    · rename_i h2; exact ⟨h1,h2⟩
    · cases h
  · cases h
theorem gQ (h:eN z g row=0):z.Shape.ok=true∧bD z=true∧ins g 0 (z.Shape.Groups+z.Shape.Column-1)=true∧ins row 0 (z.Shape.Rows-1)=true∧g∈z.On:=by
  unfold eN at h
  split at h
  · rename_i h1; exact absurd h h1
  · rename_i h1
    have hw:=cd (iB (w:=z) (by omega)).1
    unfold rG at h
    split at h
    · cases h
    · rename_i h2
      obtain ⟨h3,h4⟩:=xP h
      exact ⟨hw.1,hw.2.1,h3,by cases hr:ins row 0 (z.Shape.Rows-1)<;>simp_all,h4⟩
theorem vm (h:eN z g row=0):upF z=0:=by
  unfold eN at h
  split at h
  · rename_i h1; exact absurd h h1
  · omega
end
end Go.Wk
namespace Go.Wk
section
variable {z:Wld}{s:Shape}{r:Rec}{g row d:Int}
theorem EO:0≤s.fault∧s.fault≤3:=by unfold Shape.fault; split<;>omega
theorem F6 {b:ByteArray}:0≤cW b∧cW b≤5:=by unfold cW; split<;>omega
theorem EV:0≤fv s r∧fv s r≤5:=by
  have:=F6 (b:=r.Name)
  unfold fv
  repeat' split
  all_goals omega
theorem Gs:0≤fO s r∧fO s r≤5:=by
  have:=EV (s:=s) (r:=r)
  unfold fO
  repeat' split
  all_goals omega
theorem ze {rs:List Rec}:∀ k,0≤eP s rs k∧eP s rs k≤5
  | 0=>by simp [eP]
  | k+1=>by
    have h1:=ze (rs:=rs) k
    have h2:=Gs (s:=s) (r:=rs.getD k default)
    rw [eP]
    split<;>omega
theorem yI {ts:List Tape}:∀ k,0≤eD s ts k∧eD s ts k≤5
  | 0=>by simp [eD]
  | k+1=>by
    have h1:=yI (ts:=ts) k
    have h2:=ze (s:=s) (rs:=(ts.getD k default).Recs) (ts.getD k default).Recs.length
    rw [eD]
    split<;>omega
theorem Dv:0≤fz z∧fz z≤5:=by
  have:=yI (s:=z.Shape) (ts:=z.Tapes) z.Tapes.length
  unfold fz
  repeat' split
  all_goals omega
theorem DV:0≤ey z∧ey z≤5:=by
  have h1:=EO (s:=z.Shape)
  have h2:=Dv (z:=z)
  unfold ey
  repeat' split
  all_goals omega
theorem rI:0≤upF z∧upF z≤9:=by
  have h1:=DV (z:=z)
  unfold upF
  repeat' split
  all_goals omega
theorem Es:0≤fG z g∧fG z g≤8:=by unfold fG; repeat' split<;>omega
theorem F4:0≤rG z g row∧rG z g row≤8:=by
  have h1:=Es (z:=z) (g:=g)
  unfold rG; split<;>omega
theorem lg:0≤eN z g row∧eN z g row≤9:=by
  have h1:=rI (z:=z)
  have h2:=F4 (z:=z) (g:=g) (row:=row)
  unfold eN; split<;>omega
end
end Go.Wk
