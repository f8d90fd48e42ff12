/-
  Laws on walking, and the functions walked, each once: what this claim comes to.
-/
import Derived.Test.YtlbpcbdlcdbioaaGreatZB4
set_option linter.unusedVariables false
set_option linter.unusedSimpArgs false
namespace Go.Wk
open Go.Proofs Rp Go.Proofs.Tryz
set_option maxRecDepth 10000
theorem za {w:World}{l b1 b2 n q m xsC:Nat}{xsA:Option Addr}{J:Nat→World→Prop}(hm:1≤m∧m≤1000000) (hn:n=q*m∧n≤xsC∧n≤4611686018427387904) (hJd:∀ i W k,J i W→J i { W with drawn:=k })
  (hb:∀ i W,J i W→W.heap[b1]? = some (.cells [.slice xsA n xsC].toArray 46)∧W.heap[b2]? = some (.cells [.int .i64 m].toArray 3))
  (hY:∀ i W,J i W→i<q→YieldAt (inF none) 2 Tryz.prog l #[.slice (slA xsA (i*m) (i*m+m) 1) (i*m+m-i*m) (i*m+m-i*m)] W fun e W'=>e = .returned (.bool true)∧J (i+1) W') (h0:J 0 w) :
  Ret Tryz.prog 403 #[.func (.yield l) #[] #[],.pointer (some ⟨b1,0,none⟩),.pointer (some ⟨b2,0,none⟩)] w fun _ w'=>J q w':=by
 refine aF func403 Z ntmps403 Z (fun Q hQ hN=>ab (sA Z Z (aa (an (bg (γ:=Nat) (fun i=>[(0,.func (.yield l) #[] #[]),(1,.pointer (some ⟨b1,0,none⟩)),(2,.pointer (some ⟨b2,0,none⟩)),(4,.int .i64 ((i*m:Nat):Int))]) (fun i w'=>i≤q∧J i w') (fun i=>q-i) 0 ⟨Z,Z,Z,eqI σ,trivial⟩ ⟨Nat.zero_le _,h0⟩ (fun i w1 hI=>?_))))));obtain ⟨hi,hJ⟩:=hI;obtain ⟨h1,h2⟩:=hb i w1 hJ;have p1:i*m≤n:=by rw [hn.1]; exact Nat.mul_le_mul_right _ hi
 have p3:¬ i<q→i*m=n:=fun h=>by rw [hn.1]; congr 1; omega
 refine ac (ab (sM Z Z (sV Z (ag aP Z Z (ao h1 Z)) (sV Z (aE aP Z) (sV Z (aM Z Z) (aa (aB Z (fun c1=>?_) (fun c1=>?_))))))))
 ·have iq:i<q:=Decidable.byContradiction fun h=>by have:=p3 h; omega
  have p2:=rV hn.1 iq;refine ak (ac (an (ac (bH (S:=fun x=>x.heap=w1.heap) (oQ [1,3,5,7,9,11,12]) κ κ κ Z (fun _=>Z) (fun kk=>aL Z aj Z Z (fun x hx=>ag tu3 Z Z (ao (by rw [hx]; exact h2) Z)) (aL Z aj Z Z (fun x hx=>ag aP Z Z (ao (by rw [hx]; exact h1) Z)) (aL Z aj Z Z (fun x hx=>aG Z) (aL Z aj Z Z (fun x hx=>Fq aP ts5 Z Z (i*m) Z p1) (aL Z aj Z Z (fun x hx=>aE aP Z) (aL Z aj Z Z (fun x hx=>JJ Z Z) (aT Z aj Z Z (br Z) ((aU (JF (M:=[(0,.func (.yield l) #[] #[]),(1,.pointer (some ⟨b1,0,none⟩)),(2,.pointer (some ⟨b2,0,none⟩)),(4,.int .i64 ((i*m:Nat):Int)),(5,.int .i64 m)]) ⟨Z,Z,Z,Z,eqI (if_neg ω),trivial⟩ (ac (Ku (od (fw aj Z Z (aG Z) (fw aj Z Z (ag aP Z Z (ao h1 Z)) (fw aj Z Z (aG Z) (fw aj Z Z (aG Z) (fw aj Z Z (aG Z) (fw aj Z Z (aC Z Z iO) (fw aj Z Z (aG Z) (fw aj Z Z (aG Z) (fw aj Z Z (aC Z Z iO) (fw aj Z Z (Im aP ts5 Z Z Z Z (i*m) (i*m+m) (i*m+m) Z ω ω ω (Nat.le_refl _) ω) (IB Z Z Z (hY i _ (hJd _ _ _ hJ) iq) (fun e w2 he=>?_)))))))))))))))))))))))))))));obtain ⟨rfl,hJ2⟩:=he;refine ⟨_,Z,?_⟩;refine fw aj Z Z (aZ Z) (rE (jA Z (ak (am (sM Z Z (sV Z (ag tu3 Z Z (ao (hb _ _ hJ2).2 Z)) (sV Z (aC Z Z iO) (sA Z Z (aa (⟨i+1,⟨Z,Z,Z,eqI (by rw [Nat.succ_mul]; omega),trivial⟩,⟨iq,hJ2⟩,θ⟩))))))))))
 ·have iq:¬ i<q:=fun h=>by have:=rV hn.1 h; omega
  obtain rfl:i=q:=by omega
  refine aI (hN _ _ (jX results403 ?_));exact hJ
theorem wT {w:World}{b1 b2 n q m xsC:Nat}{xsA:Option Addr}(hm:1≤m∧m≤1000000) (hn:n=q*m∧n≤xsC∧n≤1000000000)
  (h1:w.heap[b1]? = some (.cells [.slice xsA n xsC].toArray 46)) (h2:w.heap[b2]? = some (.cells [.int .i64 m].toArray 3)) :
  Ret Tryz.prog 402 #[.slice none 0 0,.func (.func 403) #[] #[.pointer (some ⟨b1,0,none⟩),.pointer (some ⟨b2,0,none⟩)]] w fun v w'=>Ext No w w'∧Res w w' [v] (jh xsA m q):=by
 refine yl (vs:=[.slice none 0 0,.func (.func 403) #[] #[.pointer (some ⟨b1,0,none⟩),.pointer (some ⟨b2,0,none⟩)]]) func402 Z ntmps402 Z (fun a ha=>?_);have qn:q≤n:=by rw [hn.1]; exact Nat.le_mul_of_pos_right _ ω
 have H0:Sep No w [] [box b1 (.cells [.slice xsA n xsC].toArray 46),box b2 (.cells [.int .i64 m].toArray 3)] w:=Sep.start (by intro r hr; simp at hr; rcases hr with rfl | rfl; exact h1; exact h2);refine BE (L:=p6 0 _) (B:=fun L' w'=>∃ b,sub L' [(1,.func (.func 403) #[] #[.pointer (some ⟨b1,0,none⟩),.pointer (some ⟨b2,0,none⟩)]),(2,.pointer (some ⟨b,0,none⟩))]∧Sep No w [box b (.cells [.slice none 0 0].toArray 89)] [box b1 (.cells [.slice xsA n xsC].toArray 46),box b2 (.cells [.int .i64 m].toArray 3)] w') ha ?_ (fun a1 L1 w1 ha1 hB=>?_)
 ·refine od (Kj aj Z Z H0 (fun b w1 _ _ H1=>fw aj Z Z (br Z) ?_));exact rE ⟨Z,b,⟨Z,Z,trivial⟩,H1⟩
 obtain ⟨Bs,hs,H1⟩:=hB;have ha2:=ha1.weak hs;refine wpIn_seq (BE (B:=fun L' w'=>sub L' [(6,.func (.func 403) #[] #[.pointer (some ⟨b1,0,none⟩),.pointer (some ⟨b2,0,none⟩)]),(2,.pointer (some ⟨Bs,0,none⟩))]∧w'=w1) ha2 ?_ (fun a3 L3 w3 ha3 hB=>?_))
 ·refine od (fw aj Z Z (aG Z) ?_);exact rE ⟨Z,⟨Z,Z,trivial⟩,Z⟩
 obtain ⟨hs3,rfl⟩:=hB;have ha4:=ha3.weak hs3;refine wpIn_block ?_
 let F0:List Rsc:=[box b1 (.cells [.slice xsA n xsC].toArray 46),box b2 (.cells [.int .i64 m].toArray 3)]
 refine HD ha4 (lb := #[.pointer (some ⟨b1,0,none⟩),.pointer (some ⟨b2,0,none⟩)]) Z func403 Z CP
  (K:=fun W=>∃ v fp o,Sep No w [box Bs (.cells [v].toArray 89),mine [v] (jh xsA m q) fp,box w3.heap.size (.deferred (some [])),box (w3.heap.size+1) o] F0 W) (fun R fn hR=>?_) (fun W hK=>?_)
 ·have e1:(w3.alloc (.deferred (some []))).heap.size=w3.heap.size+1:=by simp
  have HA:=(H1.alloc (.deferred (some []))).alloc (.loop (R .ready none));rw [e1] at HA;have HB:=HA.perm (Γ:=[box Bs (.cells [.slice none 0 0].toArray 89),box w3.heap.size (.deferred (some [])),box (w3.heap.size+1) (.loop (R .ready none))]) σ;have HC:Sep No w [box Bs (.cells [.slice none 0 0].toArray 89),mine [.slice none 0 0] ((jh xsA m q).take 0) [],box w3.heap.size (.deferred (some [])),box (w3.heap.size+1) (.loop (R .ready none))] F0 ((w3.alloc (.deferred (some []))).alloc (.loop (R .ready none))):=
   ⟨HB.ext,by
    intro r hr
    simp only [List.mem_cons,List.not_mem_nil,or_false] at hr
    rcases hr with rfl | rfl | rfl | rfl
    ·exact HB.rs _ σ
    ·exact .inr (.inl ⟨Z,σ,Z⟩)
    ·exact HB.rs _ σ
    ·exact HB.rs _ σ,by simpa [blocks,mine,Wk.box] using HB.nd,by simpa [blocks,mine,Wk.box] using HB.new,HB.fs,by simpa [blocks,mine,Wk.box,F0] using HB.ap⟩
  refine Ret.mono (za (xsA:=xsA) (J:=fun i W=>∃ v fp,Sep No w [box Bs (.cells [v].toArray 89),mine [v] ((jh xsA m q).take i) fp,box w3.heap.size (.deferred (some [])),box (w3.heap.size+1) (.loop (R .ready none))] F0 W) hm ⟨hn.1,hn.2.1,ω⟩ ?_ ?_ ?_ ⟨_,_,HC⟩) ?_
  ·rintro i W k ⟨v,fp,H⟩
   exact ⟨v,fp,H.drawn k⟩
  ·rintro i W ⟨v,fp,H⟩
   exact ⟨H.fs (box b1 _) (by simp [F0]),H.fs (box b2 _) (by simp [F0])⟩
  ·rintro i W ⟨v,fp,H⟩ iq
   have cl:((jh xsA m q).take i).length=i:=by rw [List.length_take,qO]; omega
   have hy:=Hv (P:=Tryz.prog) (u := .slice (slA xsA (i*m) (i*m+m) 1) (i*m+m-i*m) (i*m+m-i*m)) hR ha4.1 Z (H.box 3 Z)
    (L2:=[(5,.slice (slA xsA (i*m) (i*m+m) 1) (i*m+m-i*m) (i*m+m-i*m)),(2,.pointer (some ⟨Bs,0,none⟩))])
    (B:=fun W2=>∃ v fp,Sep No w [box Bs (.cells [v].toArray 89),mine [v] ((jh xsA m q).take (i+1)) fp,box w3.heap.size (.deferred (some [])),box (w3.heap.size+1) (.loop (R .busy none))] F0 W2)
    (by
     refine od (fw aj Z Z (br Z) ?_)
     exact rE ⟨Z,Z,⟨Z,Z,trivial⟩⟩)
    (by
     have H2:=H.put 3 (.loop (R .busy none)) Z;dsimp only[lSZ,lSS] at H2;refine Bc (od (fw aj Z Z (ag b0 Z Z (ao (H2.box 0 Z) Z)) (fw aj Z Z (aG Z) (JI aj Z b0 bB Z Z Z Z H2 (fun b w5 _ _ H3=>JY (α:=View) (u:=⟨slA xsA (i*m) (i*m+m) 1,i*m+m-i*m,i*m+m-i*m⟩) aj Z b0 bB Z Z Z H3 1 4 Z Z ⟨Z,Z⟩ (by unfold maxLen; omega) ω (fun v' w6 fp' H4=>?_))))));dsimp only[lNA,lCA,lSZ,lSS] at H4;obtain ⟨a',c',he⟩:=az (H4.mine 1 Z);cases he;refine Js aj KB Z Z Z H4 0 Z Z (fun w7 _ H5=>?_);dsimp only[lNA,lCA,lSZ,lSS] at H5;have H6:=H5.dtake 4;have e2:i*m+m-i*m=m:=by omega
     have e3:=AH (A:=xsA) (m:=m) iq;rw [e2,e3] at H6
     exact rE ⟨Z,H5.box 3 Z,_,_,H6⟩)
   obtain ⟨f1,t1,s1,o1,r1,k1⟩:=hy;refine ⟨f1,t1,s1,o1,r1,k1.mono fun e W' he=>?_⟩;obtain ⟨he,W2,⟨v2,fp2,H2⟩,hl2,rfl⟩:=he;have H3:=H2.put 3 (.loop (R .ready none)) Z;exact ⟨he,v2,fp2,H3⟩
  ·rintro _ W2 ⟨v,fp,H⟩
   have H3:=H.put 3 (.loop (R .exhausted none)) Z;rw [List.take_of_length_le (by rw [qO]; exact Nat.le_refl _)] at H3;exact ⟨H.box 3 Z,v,fp,_,H3⟩
 ·obtain ⟨v,fp,o,H⟩:=hK
  show Code.wpIn _ _ _ _ _ _ _
  have ha5:GoodD [{ target := .collected w3.heap.size,args := #[] }] 13 { a3 with defers:=[{ target := .collected w3.heap.size,args := #[] }] } [(2,.pointer (some ⟨Bs,0,none⟩))]:=
   ⟨by have:=ha4.1; exact this.weak ⟨rfl,trivial⟩,rfl⟩
  refine BE (B:=fun L' w'=>sub L' [(4,v)]∧w'=W) ha5 ?_ (fun a6 L6 w6 ha6 hB=>?_)
  ·refine od (fw aj Z Z (ag b0 Z Z (ao (H.box 0 Z) Z)) (fw aj Z Z (br Z) ?_));exact rE ⟨Z,⟨Z,trivial⟩,Z⟩
  obtain ⟨hs6,rfl⟩:=hB;refine wpIn_ret ?_;have H7:=H.put 2 (.deferred none) Z;refine ⟨.inr Z,w3.heap.size,[(4,v)],ha6.weak hs6,H.box 2 Z,Kl results402 Z ?_⟩;exact ⟨H7.ext,H7.out 1 Z⟩
theorem zA {w:World}{b1 b2 n q m xsC:Nat}{xsA:Option Addr}(hm:1≤m∧m≤1000000) (hn:n=q*m∧n≤xsC∧n≤1000000000)
  (h1:w.heap[b1]? = some (.cells [.slice xsA n xsC].toArray 46)) (h2:w.heap[b2]? = some (.cells [.int .i64 m].toArray 3)) :
  Ret Tryz.prog 344 #[.func (.func 403) #[] #[.pointer (some ⟨b1,0,none⟩),.pointer (some ⟨b2,0,none⟩)]] w fun v w'=>Ext No w w'∧Res w w' [v] (jh xsA m q):=by
 refine aF func344 Z ntmps344 Z (fun Q hQ hN=>ab (sA Z Z (aa (ab (sM Z Z (sC func402 DW Z (wT hm hn h1 h2) (fun v w1 r=>rA hQ results344 Z ?_)))))));exact r
theorem BX {w:World}{n m xsC:Nat}{xsA:Option Addr}(hm:1≤m) :
  Ret Tryz.prog 345 #[.slice xsA n xsC,.int .i64 m] w fun v w'=>Ext No w w'∧∃ b1 b2,v = .func (.func 403) #[] #[.pointer (some ⟨b1,0,none⟩),.pointer (some ⟨b2,0,none⟩)]∧w'.heap[b1]? = some (.cells [.slice xsA n xsC].toArray 46)∧w'.heap[b2]? = some (.cells [.int .i64 m].toArray 3):=by
 refine aF func345 Z ntmps345 Z (fun Q hQ hN=>?_);have H0:=Sep.start (w:=w) (F:=[]) σ;refine ab (bf aj Z Z H0 (fun b1 w1 e1 g1 H1=>bf aj Z Z H1 (fun b2 w2 e2 g2 H2=>?_)));dsimp only[lNA,lCA] at H2;refine sA Z Z (aa (ac (ab (sLd tu3 (H2.box 1 Z) Z (sV Z (aM Z Z) (aa (aB Z (fun c1=>?_) (fun c1=>?_))))))))
 ·exact absurd c1 ω
 refine ak (ab (sV Z (lG Z) (rA hQ results345 Z ?_)));exact ⟨H2.ext,b1,b2,Z,H2.box 0 Z,H2.box 1 Z⟩
end Go.Wk
namespace Go.Wk
open Go.Proofs Rp Go.Proofs.Tryz
set_option maxRecDepth 10000
theorem gR {w:World}{x y:Int}{n s xsC:Nat}{xs:List UInt8}{xsA:Option Addr}(hx:x=n) (hy:y=s) (hn:1≤n∧n≤3∧s≤2) (hl:xs.length=n*4) (xsS:Sees w [.slice xsA xs.length xsC] xs):Ret Tryz.prog 245 #[.agg #[.int .i64 x,.int .i64 y],.slice xsA xs.length xsC] w fun v w'=>Ext No w w'∧(Res w w' [v] (oc n (n+s) xs)):=by
 subst hx; subst hy;have xsL:=sL xsS;obtain ⟨xsF,xsO⟩:=xsS;refine aF func245 Z ntmps245 Z (fun Q hQ hN=>?_);have H0:=Sep.start (ae xsO aA);refine ab (bf aj Z Z H0 (fun b1 w1 e1 g1 H1=>sA Z Z (aa (ab (sM Z Z (sC func345 CZ Z (BX (m:=4) ω) (fun chv w1 r1=>?_)))))));obtain ⟨ce1,cb1,cb2,rfl,p1,p2⟩:=r1;have HC1:=H1.to ce1;have xc:=eY (HC1.seen 0 Z);refine sC func344 El Z (zA (m:=4) (q:=n) ω ⟨ω,ω,ω⟩ p1 p2) (fun cv w2 r2=>?_);obtain ⟨e2,cf,co,cn,cfr⟩:=r2;have HC2:=HC1.to e2;obtain ⟨cg,og,sg⟩:=BY (HC2.seen 0 Z) (m:=4) (q:=n) ω hl ω;obtain ⟨ch,oh,sh⟩:=t0 co og (by rw [qO,eE]);obtain ⟨dA,dC,dq⟩:=az oh;cases dq
 have HC3:=HC2.look (r:=seen false [.slice dA (chunks xs 4 n).length dC] (chunks xs 4 n) ch) oh (fun b hb hb2=>by
  rcases sh b hb with h | h
  ·have:=cfr b h; have:=HC1.lt b hb2; omega
  ·exact HC2.ap _ (List.mem_of_getElem? (i:=0) Z) b (sg b h) hb2)
 have cl:(chunks xs 4 n).length=n:=eE;have ca:=ne hl;refine sA Z Z (aa (ab (cW (α:=(List UInt8)) aj Z b0 bB HC3 (fun b2 w2 e2 g2 H2=>sA Z Z (aa (ac (ab (sV Z (au jZ Z wG Z Z (At.whole (H2.box 0 Z))) (sE func346 CH Z (lW ω) H2 (fun w3 e3 H3=>sM Z Z (aa (an (bg (γ:=Nat × Value × List Nat) (fun (k,vo,f)=>[(2,.pointer (some ⟨b1,0,none⟩)),(5,.slice dA (chunks xs 4 n).length dC),(6,vo),(13,.int .i64 ((n:Int)+s)),(14,.int .i64 k)]) (fun (k,vo,f) w'=>Sep No w [box b1 (.cells #[.int .i64 n,.int .i64 s] 226),mine [vo] (oc n k xs) f] [seen false [.slice xsA xs.length xsC] xs xsF,seen false [.slice dA (chunks xs 4 n).length dC] (chunks xs 4 n) ch] w'∧k≤n+s) (fun (k,vo,f)=>n+s-k) (0,_,_) ⟨Z,Z,Z,Z,Z,trivial⟩ ⟨H3,ω⟩ (fun (k,vo,f) w4 H4=>?_))))))))))))));obtain ⟨H4,hk⟩:=H4;refine ab (sV Z (aM Z Z) (aa (ac (aB Z (fun c1=>?_) (fun c1=>?_)))))
 ·refine ak (ac (an (ab (sR 2 Z (aa ?_)))));have gl:(jJ n k 0).length=n:=mc;have encE:jY (chunks xs 4 n) (jJ n k 0) 4 (chunks xs 4 n).length=encK xs n k:=Z;have el:=sj (n:=n) (m:=k) (xs:=xs);refine am (sR 2 Z (sV Z (au jZ Z wG Z Z (At.whole (H4.box 0 Z))) (sM Z Z (sC func347 qk Z (eP ω) (fun v2 w5 r2=>?_)))));obtain ⟨e4,r2⟩:=r2;obtain ⟨fp1,H5⟩:=H4.res e4 r2;obtain ⟨a1,k1,q1⟩:=az (H5.mine 2 Z);cases q1;refine sC func294 wU Z (nS (H5.sees 1 Z) (H5.msees 2 Z) ω ω η ω) (fun v3 w6 r3=>?_);obtain ⟨e5,r3⟩:=r3;obtain ⟨fp2,H6⟩:=H5.res e5 r3;obtain ⟨a2,k2,q2⟩:=az (H6.mine 3 Z);cases q2;refine dx aj Z b0 bB Z Z Z Z H6 (fun b3 w7 e6 g3 H7=>nF aj Z b0 bB Z Z Z H7 1 4 3 Z Z Z Z (by unfold maxLen; omega) ω (fun v4 w8 fp3 H8=>sA Z Z (aa (am (sV Z (aC Z Z iO) (sM Z Z (aa ?_)))))));have hz:=H8.ftake 2 |>.sub (.cons_cons _ (.cons_cons _ (.cons _ (.cons _ (.cons _ List.Sublist.slnil)))))
  rw [encE,FP] at hz;refine ⟨(k+1,_,_),⟨Z,Z,Z,Z,Z,trivial⟩,⟨hz,ω⟩,θ⟩
 ·refine aI (ab (sR 2 Z (rN hQ results245 Z ?_)));obtain rfl:k=n+s:=by omega
  exact ⟨H4.ext,H4.out 1 Z⟩
end Go.Wk
namespace Go.Wk
open Go.Proofs Rp Go.Proofs.Tryz
set_option maxRecDepth 10000
theorem eA {w:World}{xs:List UInt8}{xsA:Option Addr}{xsC:Nat}(xsS:Sees w [.slice xsA xs.length xsC] xs) (hl:xs.length≤100000000):Ret Tryz.prog 109 #[.slice xsA xs.length xsC] w fun v w'=>Ext No w w'∧(Res w w' [v] xs):=by
 have xsL:=sL xsS;obtain ⟨xsF,xsO⟩:=xsS;refine aF func109 Z ntmps109 Z (fun Q hQ hN=>?_);have H0:=Sep.start (ae xsO aA);refine ab (sA Z Z (aa (ac (ab (sM Z Z (sV Z (vX aP Z Z) (aa (bJ Z (fun c1=>?_) (fun c1=>?_)))))))))
 ·refine ab (rA hQ results109 Z ?_);have e:xs=[]:=wR xsO c1;exact ⟨H0.ext,e ▸ ⟨[],.inr (.inl ⟨Z,Z,Z⟩),.nil,σ⟩⟩
 ·refine ak (ab (cW (α:=UInt8) aj Z aP bj H0 (fun b1 w1 e1 g1 H1=>sM Z Z (kY aj Z aP bj Z Z Z H1 0 Z (H1.seen 0 Z) (by (try simp only [List.length_nil]); unfold maxLen; omega) (by (try simp only [List.length_nil]); omega) (fun v1 w2 fp1 H2=>rA hQ results109 Z ?_)))))
  exact ⟨H2.ext,by
   have h:=H2.out 0 Z
   rwa [List.nil_append] at h⟩
theorem xv {w:World}{xs ys:List UInt8}{xsA ysA:Option Addr}{xsC ysC:Nat}{c:UInt8}(xsS:Sees w [.slice xsA xs.length xsC] xs) (ysS:Sees w [.slice ysA ys.length ysC] ys) (hl:xs.length=ys.length∧xs.length≤100000):Ret Tryz.prog 197 #[.slice xsA xs.length xsC,.slice ysA ys.length ysC,.int .u8 c.toNat] w fun v w'=>Ext No w w'∧(Res w w' [v] (iX xs (dd ys c))):=by
 have xsL:=sL xsS;obtain ⟨xsF,xsO⟩:=xsS;have ysL:=sL ysS;obtain ⟨ysF,ysO⟩:=ysS;refine aF func197 Z ntmps197 Z (fun Q hQ hN=>?_);have H0:=Sep.start (ae xsO (ae ysO aA));refine ab (sA Z Z (aa (ab (sM Z Z (sC func109 bt Z (eA (H0.sees 0 Z) ω) (fun v1 w1 r1=>?_))))));obtain ⟨e1,r1⟩:=r1;obtain ⟨fp1,H1⟩:=H0.res e1 r1;obtain ⟨a1,k1,q1⟩:=az (H1.mine 0 Z);cases q1;refine sA Z Z (aa (ab (sR 3 Z (sC func316 qV Z (lU (H1.mine 0 Z) (H1.nodup1 (i:=0) Z) (aS (H1.seen 1 Z)) (fun b hb=>H1.off 1 Z 0 Z hb) ξ) (fun v2 w2 r2=>?_)))));obtain ⟨fp2,H2⟩:=H1.mut 0 Z r2;refine aa (ab (sR 2 Z (rN hQ results197 Z ?_)));exact ⟨H2.ext,H2.out 0 Z⟩
end Go.Wk
namespace Go.Wk
open Go.Proofs Rp Go.Proofs.Tryz
set_option maxRecDepth 10000
theorem tn {w:World}{xs:List UInt8}{xsA:Option Addr}{xsC:Nat}{c:UInt8}(xsS:Sees w [.slice xsA xs.length xsC] xs) (hl:xs.length≤100000):Ret Tryz.prog 348 #[.slice xsA xs.length xsC,.int .u8 c.toNat] w fun v w'=>Ext No w w'∧(Res w w' [v] (dd xs c)):=by
 have xsL:=sL xsS;obtain ⟨xsF,xsO⟩:=xsS;refine aF func348 Z ntmps348 Z (fun Q hQ hN=>?_);have H0:=Sep.start (ae xsO aA);refine ab (sA Z Z (aa (ab (sM Z Z (sV Z (aE aP Z) (hX aj Z aP bj tE Z ω (by unfold maxLen; omega) H0 (fun b1 w1 e1 g1 H1=>sA Z Z (aa (ac ?_)))))))));have rl:(List.replicate xs.length (0:UInt8)).length=xs.length:=List.length_replicate;refine am (sR 3 Z (sC func316 qV Z (lU (H1.mine 0 Z) (H1.nodup1 (i:=0) Z) (aS (H1.seen 0 Z)) (fun b hb=>H1.off 0 Z 0 Z hb) ξ) (fun v1 w2 r1=>?_)));obtain ⟨fp1,H2⟩:=H1.mut 0 Z r1;refine aa (ab (sR 2 Z (rN hQ results348 Z ?_)))
 exact ⟨H2.ext,by
  have h:=H2.out 0 Z
  rwa [t9 (gc xs c)] at h⟩
theorem tB {w:World}{K l n:Nat}{m:Mat}{vs0:List View}{VA:Option Addr}{VC:Nat}{fp g0:List Nat}(o:own true w [.slice VA K VC] vs0 fp) (nd:fp.Nodup) (hr0:cb false w (vs0.map View.val) m g0) (hd:∀ b∈g0,b ∉ fp) (vl0:vs0.length=K) (hR0:Rect m K l) (hn:n<l∧l≤1000∧1≤K∧K≤1000):Ret Tryz.prog 443 #[.slice VA K VC,.int .i64 n] w fun v w'=>(v = .int .i64 ((redM m n).2:Nat)∧RowsMut w w' fp (.slice VA K VC) K (redM m n).1):=by
 refine aF func443 Z ntmps443 Z (fun Q hQ hN=>?_);have H0:=Sep.beginRows o nd hr0 hd;refine ab (sA Z Z (aa (ab (sA Z Z (aa (ac (ab (sA Z Z (aa (an (bg (γ:=Nat × Mat × Nat × List View × List Nat × List Nat) (fun (c,M,r,vs,f,g)=>[(0,.slice VA K VC),(1,.int .i64 n),(5,.int .i64 r),(6,.int .i64 c)]) (fun (c,M,r,vs,f,g) w'=>Sep (· ∈ fp) w [mine [.slice VA K VC] vs f] [rows vs M g] w'∧c≤n∧redM m c=(M,r)∧Rect M K l∧r≤K∧vs.length=K) (fun (c,M,r,vs,f,g)=>n-c) (0,m,0,_,_,_) ⟨Z,Z,Z,Z,trivial⟩ ⟨H0,ω,Z,hR0,ω,vl0⟩ (fun (c,M,r,vs,f,g) w1 H1=>?_))))))))))));obtain ⟨H1,hc,hred,hR,hrK,vl⟩:=H1;refine ac (ab (sR 3 Z (aa (aB Z (fun c1=>?_) (fun c1=>?_)))))
 ·refine ak (ac (an (ab (sA Z Z (aa (ac (ac ?_)))))));have xl:=hR.1;refine am (sR 2 Z (aa (an (bg (γ:=Nat) (fun j=>[(0,.slice VA K VC),(1,.int .i64 n),(5,.int .i64 r),(6,.int .i64 c),(7,.int .i64 (-1)),(8,.int .i64 j)]) (fun j w'=>Sep (· ∈ fp) w _ _ w'∧r≤j∧j≤K∧∀ i,r≤i→i<j→entry M i c=0) (fun j=>K-j) r ⟨Z,Z,Z,Z,Z,Z,trivial⟩ ⟨H1,ω,ω,fun i h1 h2=>by omega⟩ (fun j w2 H2=>?_)))));obtain ⟨H2,hj1,hj2,hnz⟩:=H2;refine ac (ab (sR 2 Z (sV Z (aE b0 Z) (sV Z (aM Z Z) (aa (aB Z (fun c2=>?_) (fun c2=>?_)))))))
  ·refine ak (ac (an (ac ?_)));have e1:=hR.2 j ω;obtain ⟨eb1,eo1,ea1,ek1,ef1,ee1,ec1,eO1,eH1,em1⟩:=dE (H2.mine 0 Z) (H2.rowsAt 0 Z) (by first | omega | (simp only [List.length_set]; omega)) j (by first | omega | (simp only [List.length_set]; omega));have eP1:=H2.lookR 0 Z eO1 eH1;obtain ⟨eb2,eo2,ee2,ec2⟩:=cx (eP1.seen 1 Z) c ω;refine am (sR 2 Z (sV Z (ay b0 aY Z Z ee1 j ω ω) (sV Z (ag aP Z Z ec1) (sM Z Z (sV Z (ay aP ts5 Z Z ee2 c ω ω) (sV Z (ag tu5 Z Z ec2) (sV Z (bE Z Z) (aa (aB Z (fun c3=>?_) (fun c3=>?_))))))))))
   ·refine ab (sR 2 Z (aa (aI (ac (ac ?_)))));have hpv:mj M c r=j:=rF ω ω hnz (.inr (fun e=>c3 (by rw [entry] at e; rw [e]; rfl)));refine am (sR 2 Z (aa (aB Z (fun c4=>?_) (fun c4=>?_))))
    ·exact absurd c4 ω
    ·refine ak (ac ?_);obtain ⟨eb3,eo3,ea2,ek2,ef2,ee3,ec3,eO2,eH2,em2⟩:=dE (eP1.mine 0 Z) (eP1.rowsAt 0 Z) (by first | omega | (simp only [List.length_set]; omega)) j (by first | omega | (simp only [List.length_set]; omega));have eP2:=eP1.lookR 0 Z eO2 eH2;obtain ⟨eb4,eo4,ea3,ek3,ef3,ee4,ec4,eO3,eH3,em3⟩:=dE (eP2.mine 0 Z) (eP2.rowsAt 0 Z) (by first | omega | (simp only [List.length_set]; omega)) r (by first | omega | (simp only [List.length_set]; omega));have eP3:=eP2.lookR 0 Z eO3 eH3;refine bH (S:=fun zw=>zw.cell? ⟨eb3,eo3+j*1,none⟩=some (.slice ea2 (M.getD j []).length ek2)) (oQ [1,3,5,7,9,11,13,17,19,21,15,22,24,26,28,30]) κ κ κ Z (fun _=>ec3) (fun q1=>?_);have H3:=eP3.drawn q1;refine dR 6 Z (dV Z Z (fun zw hx=>ay b0 aY Z Z ee3 j ω ω) (dR 2 Z (dV Z Z (fun zw hx=>ay b0 aY Z Z ee4 r ω ω) (dV Z Z (fun zw hx=>ag aP Z Z hx) (aT Z aj Z Z (ag aP Z Z ec4) (aT Z aj Z Z (ay b0 aY Z Z ee4 r ω ω) (oN Z aj aY H3 0 0 2 Z Z Z (by first | omega | (simp only [List.length_set]; omega)) r (by first | omega | (simp only [List.length_set]; omega)) Z ee4 Z (fun b o cur T e1 hb hs hc _=>by   rw [ee3] at e1;   cases e1;   exact FC hb hs hc) (fun w3 fp1 gp1 H4=>?_))))))))
     try dsimp only[lNA,lCA,lSZ,lSS] at H4
     refine aT Z aj Z Z (ay b0 aY Z Z ee3 j ω ω) (oN Z aj aY H4 0 0 3 Z Z Z (by first | omega | (simp only [List.length_set]; omega)) j (by first | omega | (simp only [List.length_set]; omega)) Z ee3 Z (fun _ _ _ _ _ _ _ _ hr=>absurd Z hr) (fun w4 fp2 gp2 H5=>?_))
     try dsimp only[lNA,lCA,lSZ,lSS] at H5
     refine aU (ac ?_);have hsR:=hR.swap (r:=r) (a:=j) ω ω;have e2:(((M.set r (M.getD j [])).set j (M.getD r [])).getD r []).length=l:=hsR.2 r ω;obtain ⟨eb5,eo5,ea4,ek4,ef4,ee5,ec5,eO4,eH4,em4⟩:=dE (H5.mine 0 Z) (H5.rowsAt 0 Z) (by first | omega | (simp only [List.length_set]; omega)) r (by first | omega | (simp only [List.length_set]; omega));have eP4:=H5.lookR 0 Z eO4 eH4;obtain ⟨eb6,eo6,ee6,ec6⟩:=cx (eP4.seen 4 Z) c ω;refine bH (S:=Ext No _) (oQ [1,3,5,7,9,11,13,15,17,19,21,23,25,26,28,31,32]) κ κ κ Z (fun _=>Ext.refl.drawn _) (fun q2=>?_);have H6:=eP4.drawn q2;refine dR 4 Z (dV Z Z (fun zw hx=>ay b0 aY Z Z ee5 r ω ω) (dV Z Z (fun zw hx=>ag aP Z Z (hx.cell ec5)) (dR 2 Z (dV Z Z (fun zw hx=>ay b0 aY Z Z ee5 r ω ω) (dV Z Z (fun zw hx=>ag aP Z Z (hx.cell ec5)) (dM Z Z Z (dV Z Z (fun zw hx=>ay aP ts5 Z Z ee6 c ω ω) (dV Z Z (fun zw hx=>ag tu5 Z Z (hx.cell ec6)) (dC func405 vM Z (p7 (a:=1)) (fun v1 w5 r1=>?_))))))))));obtain ⟨e3,rfl⟩:=r1;have H7:=H6.to e3;refine dC func348 DZ Z (tn (H7.sees 4 Z) ω) (fun v2 w6 r2=>?_);obtain ⟨e4,r2⟩:=r2;obtain ⟨fp3,H8⟩:=H7.res e4 r2;obtain ⟨a1,k1,q3⟩:=az (H8.mine 1 Z);cases q3;refine dV Z Z (fun zw hx=>ay b0 aY Z Z ee5 r ω ω) ?_;have H10:=H8.share 1 Z
     try dsimp only[lNA,lCA,lSZ,lSS] at H10
     refine oN Z aj aY H10 0 0 5 Z Z Z (by first | omega | (simp only [List.length_set]; omega)) r (by first | omega | (simp only [List.length_set]; omega)) Z ee5 Z (fun _ _ _ _ _ _ _ _ hr=>absurd Z hr) (fun w7 fp4 gp3 H9=>?_)
     try dsimp only[lNA,lCA,lSZ,lSS] at H9
     refine aU (ac (ac ?_));have HN:=H9;rw [IK ω ω] at HN;refine am (sM Z Z (sV Z (aE b0 Z) (sM Z Z (aa (an (bg (γ:=Nat × List View × List Nat × List Nat) (fun (i,vs2,f2,g2)=>[(0,.slice VA K VC),(1,.int .i64 n),(5,.int .i64 r),(6,.int .i64 c),(63,.slice VA K VC),(64,.int .i64 K),(65,.int .i64 i)]) (fun (i,vs2,f2,g2) w'=>Sep (· ∈ fp) w [mine [.slice VA K VC] vs2 f2] [rows vs2 (cU (ms M c r j) c r i) g2] w'∧i≤K∧vs2.length=K) (fun (i,vs2,f2,g2)=>K-i) (0,_,_,_) ⟨Z,Z,Z,Z,Z,Z,Z,trivial⟩ ⟨by rw [ut]; exact ((HN.ftake 1).dtake 1),ω,by simp only [List.length_set]; omega⟩ (fun (i,vs2,f2,g2) w8 H11=>?_)))))));obtain ⟨H11,hi,vl2⟩:=H11;refine ab (sV Z (aM Z Z) (aa (ac (aB Z (fun c5=>?_) (fun c5=>?_)))))
     ·refine ak (ac (an (ab (sR 2 Z (aa (ac ?_))))));have nR:=hR.norm (c:=c) (r:=r) (a:=j) ω ω;have eR:=nR.elim (c:=c) (r:=r) (k:=i) ω;have xl2:=eR.1;have e3:=eR.2 i ω;have e4:=eR.2 r ω;obtain ⟨eb7,eo7,ea5,ek5,ef5,ee7,ec7,eO5,eH5,em5⟩:=dE (H11.mine 0 Z) (H11.rowsAt 0 Z) (by first | omega | (simp only [List.length_set]; omega)) i (by first | omega | (simp only [List.length_set]; omega));have eP5:=H11.lookR 0 Z eO5 eH5;obtain ⟨eb8,eo8,ee8,ec8⟩:=cx (eP5.seen 1 Z) c ω;refine am (sR 4 Z (bz 8 (j:=3) (want:=true) (t:=79) Z Z Z Z (fun hg1 kk1=>ax (wgE Z Z Z hg1) Z Z (aG Z) (ax (wgE Z Z Z hg1) Z Z (aG Z) (ax (wgE Z Z Z hg1) Z Z (ay b0 aY Z Z ee7 i (by first | omega | (simp only [Bool.or_eq_false_iff,Bool.and_eq_true,Bool.and_eq_false_iff,Bool.or_eq_true,Bool.not_eq_true',Bool.not_eq_false',decide_eq_true_eq,decide_eq_false_iff_not] at hg1; omega)) ω) (ax (wgE Z Z Z hg1) Z Z (ag aP Z Z ec7) (ax (wgE Z Z Z hg1) Z Z (aG Z) (ax (wgE Z Z Z hg1) Z Z (ay aP ts5 Z Z ee8 c (by first | omega | (simp only [Bool.or_eq_false_iff,Bool.and_eq_true,Bool.and_eq_false_iff,Bool.or_eq_true,Bool.not_eq_true',Bool.not_eq_false',decide_eq_true_eq,decide_eq_false_iff_not] at hg1; omega)) ω) (ax (wgE Z Z Z hg1) Z Z (ag tu5 Z Z ec8) (ax (wgE Z Z Z hg1) Z Z (bE Z Z) (kk1 _ _ (kx Z (kx Z (kx Z (kx Z (kx Z (kx Z (kx Z (kx Z k0)))))))) Z Ext.refl))))))))) (fun w9 e6=>?_)));have H12:=eP5.to e6;refine sV Z (bi Z Z) (aa (bJ Z (fun c6=>?_) (fun c6=>?_)))
      ·obtain ⟨eb9,eo9,ea6,ek6,ef6,ee9,ec9,eO6,eH6,em6⟩:=dE (H12.mine 0 Z) (H12.rowsAt 0 Z) (by first | omega | (simp only [List.length_set]; omega)) i (by first | omega | (simp only [List.length_set]; omega));have eP6:=H12.lookR 0 Z eO6 eH6;obtain ⟨eb10,eo10,ea7,ek7,ef7,ee10,ec10,eO7,eH7,em7⟩:=dE (eP6.mine 0 Z) (eP6.rowsAt 0 Z) (by first | omega | (simp only [List.length_set]; omega)) r (by first | omega | (simp only [List.length_set]; omega));have eP7:=eP6.lookR 0 Z eO7 eH7;obtain ⟨eb11,eo11,ee11,ec11⟩:=cx (eP7.seen 2 Z) c ω;refine bH (S:=Ext No _) (oQ [1,3,5,7,9,11,13,15,17,19,21,23,25,27,29,31,33,34,37,38]) κ κ κ Z (fun _=>Ext.refl.drawn _) (fun q4=>?_);have H13:=eP7.drawn q4;refine dR 4 Z (dV Z Z (fun zw hx=>ay b0 aY Z Z ee9 i ω ω) (dV Z Z (fun zw hx=>ag aP Z Z (hx.cell ec9)) (dR 2 Z (dV Z Z (fun zw hx=>ay b0 aY Z Z ee10 r ω ω) (dV Z Z (fun zw hx=>ag aP Z Z (hx.cell ec10)) (dR 2 Z (dV Z Z (fun zw hx=>ay b0 aY Z Z ee9 i ω ω) (dV Z Z (fun zw hx=>ag aP Z Z (hx.cell ec9)) (dM Z Z Z (dV Z Z (fun zw hx=>ay aP ts5 Z Z ee11 c ω ω) (dV Z Z (fun zw hx=>ag tu5 Z Z (hx.cell ec11)) (dC func197 BJ Z (xv (H13.sees 2 Z) (H13.sees 3 Z) ξ) (fun v3 w10 r3=>?_)))))))))))));obtain ⟨e7,r3⟩:=r3;obtain ⟨fp5,H14⟩:=H13.res e7 r3;obtain ⟨a2,k2,q5⟩:=az (H14.mine 1 Z);cases q5;refine dV Z Z (fun zw hx=>ay b0 aY Z Z ee9 i ω ω) ?_;have H16:=H14.share 1 Z
       try dsimp only[lNA,lCA,lSZ,lSS] at H16
       refine oN Z aj aY H16 0 0 4 Z Z Z (by first | omega | (simp only [List.length_set]; omega)) i (by first | omega | (simp only [List.length_set]; omega)) Z ee9 Z (fun _ _ _ _ _ _ _ _ hr=>absurd Z hr) (fun w11 fp6 gp4 H15=>?_)
       try dsimp only[lNA,lCA,lSZ,lSS] at H15
       refine aU (am (sV Z (aC Z Z iO) (sM Z Z (aa ?_))));have hz:=((H15.ftake 1).dtake 1);rw [vn (by rw [nR.1]; omega) (IU (N:=[[]]) (c:=c) c6) (by rw [tN (by rw [nR.1]; omega),Bm (by rw [nR.1]; omega)]; rfl)] at hz;refine ⟨(i+1,_,_,_),⟨Z,Z,Z,Z,Z,Z,Z,trivial⟩,⟨hz,ω,by simp only [List.length_set]; omega⟩,θ⟩
      ·refine ak (am (sV Z (aC Z Z iO) (sM Z Z (aa ?_))));have hz:=(H12.ftake 1);rw [FL nR ω ω c6] at hz;refine ⟨(i+1,_,_,_),⟨Z,Z,Z,Z,Z,Z,Z,trivial⟩,⟨hz,ω,vl2⟩,θ⟩
     ·refine aI (am (sM Z Z (sV Z (aC Z Z iO) (sA Z Z (aa (am (sM Z Z (sV Z (aC Z Z iO) (sA Z Z (aa ?_))))))))));have hz:=H11;rw [show i=K by omega] at hz;refine ⟨(c+1,cU (ms M c r j) c r K,r+1,_,_,_),⟨Z,Z,Z,Z,trivial⟩,⟨hz,ω,(xT hred hpv ω).trans (by rw [xl]),(hR.norm ω ω).elim ω,ω,vl2⟩,θ⟩
   ·refine ak (am (sM Z Z (sV Z (aC Z Z iO) (sA Z Z (aa (⟨j+1,⟨Z,Z,Z,Z,Z,Z,trivial⟩,⟨(eP1.ftake 1),ω,ω,fun i h1 h2=>?_⟩,θ⟩))))))
    by_cases e:i=j
    ·subst e; show (M.getD i []).getD c 0=0; exact ly ω
    ·exact hnz i h1 ω
  ·refine aI (ac (ac ?_));have hpv:mj M c r=M.length:=rF ω (Nat.le_refl _) (fun i h1 h2=>hnz i h1 ω) (.inl Z);refine am (sR 2 Z (aa (aB Z (fun c7=>?_) (fun c7=>?_))))
   ·refine aI (am (sM Z Z (sV Z (aC Z Z iO) (sA Z Z (aa (⟨(c+1,M,r,_,_,_),⟨Z,Z,Z,Z,trivial⟩,⟨H2,ω,yA hred (Nat.le_of_eq hpv.symm),hR,hrK,vl⟩,θ⟩))))))
   ·exact absurd ω c7
 ·refine aI (ab (sR 2 Z (rN hQ results443 Z ?_)));have hz:=H1.rowsOut vl;have e9:redM m n=(M,r):=by
   obtain rfl:c=n:=by omega
   exact hred
  rw [e9];exact ⟨Z,hz⟩
theorem tY {w:World}{K l n:Nat}{m:Mat}{vs0:List View}{VA:Option Addr}{VC:Nat}{fp g0:List Nat}(o:own true w [.slice VA K VC] vs0 fp) (nd:fp.Nodup) (hr0:cb false w (vs0.map View.val) m g0) (hd:∀ b∈g0,b ∉ fp) (vl0:vs0.length=K) (hR0:Rect m K l) (hn:n<l∧l≤1000∧1≤K∧K≤1000):Ret Tryz.prog 453 #[.slice VA K VC,.int .i64 n] w fun v w'=>(v = .int .i64 ((redM m n).2:Nat)∧RowsMut w w' fp (.slice VA K VC) K (redM m n).1):=by
 refine aF func453 Z ntmps453 Z (fun Q hQ hN=>?_);have H0:=Sep.beginRows o nd hr0 hd;refine ab (sA Z Z (aa (ab (sA Z Z (aa (ac (ab (sA Z Z (aa (an (bg (γ:=Nat × Mat × Nat × List View × List Nat × List Nat) (fun (c,M,r,vs,f,g)=>[(0,.slice VA K VC),(1,.int .i64 n),(5,.int .i64 r),(6,.int .i64 c)]) (fun (c,M,r,vs,f,g) w'=>Sep (· ∈ fp) w [mine [.slice VA K VC] vs f] [rows vs M g] w'∧c≤n∧redM m c=(M,r)∧Rect M K l∧r≤K∧vs.length=K) (fun (c,M,r,vs,f,g)=>n-c) (0,m,0,_,_,_) ⟨Z,Z,Z,Z,trivial⟩ ⟨H0,ω,Z,hR0,ω,vl0⟩ (fun (c,M,r,vs,f,g) w1 H1=>?_))))))))))));obtain ⟨H1,hc,hred,hR,hrK,vl⟩:=H1;refine ac (ab (sR 4 Z (bz 4 (j:=3) (want:=true) (t:=17) Z Z Z Z (fun hg1 kk1=>ax (wgE Z Z Z hg1) Z Z (aG Z) (ax (wgE Z Z Z hg1) Z Z (aG Z) (ax (wgE Z Z Z hg1) Z Z (aE b0 Z) (ax (wgE Z Z Z hg1) Z Z (aM Z Z) (kk1 _ _ (kx Z (kx Z (kx Z (kx Z k0)))) Z Ext.refl))))) (fun w2 e1=>?_))));have H2:=H1.to e1;refine sV Z (bi Z Z) (aa (bJ Z (fun c1=>?_) (fun c1=>?_)))
 ·refine ak (ac (an (ac ?_)));simp only [Bool.and_eq_true,decide_eq_true_eq] at c1;have xl:=hR.1;refine am (sR 2 Z (aa (ac (an (bg (γ:=Nat) (fun j=>[(0,.slice VA K VC),(1,.int .i64 n),(5,.int .i64 r),(6,.int .i64 c),(7,.int .i64 j)]) (fun j w'=>Sep (· ∈ fp) w _ _ w'∧r≤j∧j≤K∧∀ i,r≤i→i<j→entry M i c=0) (fun j=>K-j) r ⟨Z,Z,Z,Z,Z,trivial⟩ ⟨H2,ω,ω,fun i h1 h2=>by omega⟩ (fun j w3 H3=>?_))))));obtain ⟨H3,hj1,hj2,hnz⟩:=H3;refine ac (ac ?_);obtain ⟨jj,hjj,hjk⟩:∃ jj,jj<K∧(j<K→jj=j):=⟨if j<K then j else 0,by split<;>omega,fun h=>if_pos h⟩;have e1:=hR.2 jj hjj;obtain ⟨eb1,eo1,ea1,ek1,ef1,ee1,ec1,eO1,eH1,em1⟩:=dE (H3.mine 0 Z) (H3.rowsAt 0 Z) (by first | omega | (simp only [List.length_set]; omega)) jj (by first | omega | (simp only [List.length_set]; omega));have eP1:=H3.lookR 0 Z eO1 eH1;obtain ⟨eb2,eo2,ee2,ec2⟩:=cx (eP1.seen 1 Z) c ω;refine am (sR 2 Z (sV Z (aE b0 Z) (sR 2 Z (bz 8 (j:=4) (want:=true) (t:=34) Z Z Z Z (fun hg2 kk2=>ax (wgE Z Z Z hg2) Z Z (aG Z) (ax (wgE Z Z Z hg2) Z Z (aG Z) (ax (wgE Z Z Z hg2) Z Z (ay b0 aY Z Z ee1 jj (by first | omega | (simp only [Bool.or_eq_false_iff,Bool.and_eq_true,Bool.and_eq_false_iff,Bool.or_eq_true,Bool.not_eq_true',Bool.not_eq_false',decide_eq_true_eq,decide_eq_false_iff_not] at hg2; omega)) ω) (ax (wgE Z Z Z hg2) Z Z (ag aP Z Z ec1) (ax (wgE Z Z Z hg2) Z Z (aG Z) (ax (wgE Z Z Z hg2) Z Z (ay aP ts5 Z Z ee2 c (by first | omega | (simp only [Bool.or_eq_false_iff,Bool.and_eq_true,Bool.and_eq_false_iff,Bool.or_eq_true,Bool.not_eq_true',Bool.not_eq_false',decide_eq_true_eq,decide_eq_false_iff_not] at hg2; omega)) ω) (ax (wgE Z Z Z hg2) Z Z (ag tu5 Z Z ec2) (ax (wgE Z Z Z hg2) Z Z (bP Z Z) (kk2 _ _ (kx Z (kx Z (kx Z (kx Z (kx Z (kx Z (kx Z (kx Z k0)))))))) Z Ext.refl))))))))) (fun w4 e2=>?_)))));have H4:=eP1.to e2;refine sV Z (bi Z Z) (aa (bJ Z (fun c2=>?_) (fun c2=>?_)))
  ·refine ak (an (am (sM Z Z (sV Z (aC Z Z iO) (sA Z Z (aa ?_))))));simp only [Bool.and_eq_true,decide_eq_true_eq] at c2;have ez:entry M j c=0:=by
    rw [← hjk ω]
    show (M.getD jj []).getD c 0=0
    exact ly ω
   refine ⟨j+1,⟨Z,Z,Z,Z,Z,trivial⟩,⟨H4.ftake 1,ω,ω,fun i h1 h2=>?_⟩,θ⟩
   by_cases e:i=j
   ·subst e; exact ez
   ·exact hnz i h1 ω
  ·refine aI (ac (ab (sR 2 Z (sV Z (aE b0 Z) (sV Z (bP Z Z) (aa (aB Z (fun c3=>?_) (fun c3=>?_))))))))
   ·refine aI (am (sM Z Z (sV Z (aC Z Z iO) (sA Z Z (aa ?_)))));have hpv:mj M c r=M.length:=rF ω (Nat.le_refl _) (fun i h1 h2=>hnz i h1 ω) (.inl Z);refine ⟨(c+1,M,r,_,_,_),⟨Z,Z,Z,Z,trivial⟩,⟨(H4.ftake 1),ω,yA hred (Nat.le_of_eq hpv.symm),hR,hrK,vl⟩,θ⟩
   ·refine ak (ac ?_)
    have hpv:mj M c r=j:=rF ω ω hnz (.inr (fun e=>by
     have ej:=hjk ω;rw [entry,← ej] at e;simp only [Bool.and_eq_false_iff,decide_eq_false_iff_not] at c2
     rcases c2 with h | h
     ·omega
     ·exact h (by rw [e]; rfl)))
    have e5:=hR.2 j ω;obtain ⟨eb3,eo3,ea2,ek2,ef2,ee3,ec3,eO2,eH2,em2⟩:=dE (H4.mine 0 Z) (H4.rowsAt 0 Z) (by first | omega | (simp only [List.length_set]; omega)) j (by first | omega | (simp only [List.length_set]; omega));have eP2:=H4.lookR 0 Z eO2 eH2;refine am (sR 2 Z (sV Z (ay b0 aY Z Z ee3 j ω ω) (sV Z (ag aP Z Z ec3) (sA Z Z (aa (ac ?_))))));obtain ⟨eb4,eo4,ea3,ek3,ef3,ee4,ec4,eO3,eH3,em3⟩:=dE (eP2.mine 0 Z) (eP2.rowsAt 0 Z) (by first | omega | (simp only [List.length_set]; omega)) r (by first | omega | (simp only [List.length_set]; omega));have eP3:=eP2.lookR 0 Z eO3 eH3;obtain ⟨eb5,eo5,ea4,ek4,ef4,ee5,ec5,eO4,eH4,em4⟩:=dE (eP3.mine 0 Z) (eP3.rowsAt 0 Z) (by first | omega | (simp only [List.length_set]; omega)) j (by first | omega | (simp only [List.length_set]; omega));have eP4:=eP3.lookR 0 Z eO4 eH4;refine am (sR 4 Z (sV Z (ay b0 aY Z Z ee4 r ω ω) (sV Z (ag aP Z Z ec4) (sV Z (ay b0 aY Z Z ee5 j ω ω) (Ay aj aY eP4 0 0 3 Z Z Z (by first | omega | (simp only [List.length_set]; omega)) j (by first | omega | (simp only [List.length_set]; omega)) Z ee5 Z (fun w5 fp1 gp1 H5=>?_))))))
    try dsimp only[lNA,lCA,lSZ,lSS] at H5
    refine aa (ac ?_);obtain ⟨eb6,eo6,ee6,ec6⟩:=cx (H5.seen 2 Z) c ω;obtain ⟨eb7,eo7,ea5,ek5,ef5,ee7,ec7,eO5,eH5,em5⟩:=dE (H5.mine 0 Z) (H5.rowsAt 0 Z) (by first | omega | (simp only [List.length_set]; omega)) r (by first | omega | (simp only [List.length_set]; omega));have eP5:=H5.lookR 0 Z eO5 eH5;refine am (sR 5 Z (sV Z (ay aP ts5 Z Z ee6 c ω ω) (sV Z (ag tu5 Z Z ec6) (sE func351 wP Z nN eP5 (fun w6 e4 H6=>sC func252 qK Z (iD (H6.sees 2 Z) ω) (fun v2 w7 r2=>?_))))));obtain ⟨e5,r2⟩:=r2;obtain ⟨fp2,H7⟩:=H6.res e5 r2;obtain ⟨a1,k1,q1⟩:=az (H7.mine 1 Z);cases q1;refine sV Z (ay b0 aY Z Z ee7 r ω ω) ?_;have H9:=H7.share 1 Z
    try dsimp only[lNA,lCA,lSZ,lSS] at H9
    refine Ay aj aY H9 0 0 6 Z Z Z (by first | omega | (simp only [List.length_set]; omega)) r (by first | omega | (simp only [List.length_set]; omega)) Z ee7 Z (fun w8 fp3 gp2 H8=>?_)
    try dsimp only[lNA,lCA,lSZ,lSS] at H8
    refine aa (ac (ac ?_));have HN:=H8;rw [show (M.set j (M.getD r [])).set r (dd (M.getD j []) (oI ((M.getD j []).getD c 0)))=ms M c r j from rfl] at HN;refine am (sA Z Z (aa (an (bg (γ:=Nat × List View × List Nat × List Nat) (fun (i,vs2,f2,g2)=>[(0,.slice VA K VC),(1,.int .i64 n),(5,.int .i64 r),(6,.int .i64 c),(9,.int .i64 i)]) (fun (i,vs2,f2,g2) w'=>Sep (· ∈ fp) w [mine [.slice VA K VC] vs2 f2] [rows vs2 (cU (ms M c r j) c r i) g2] w'∧i≤K∧vs2.length=K) (fun (i,vs2,f2,g2)=>K-i) (0,_,_,_) ⟨Z,Z,Z,Z,Z,trivial⟩ ⟨by rw [ut]; exact ((HN.ftake 1).dtake 1),ω,by simp only [List.length_set]; omega⟩ (fun (i,vs2,f2,g2) w9 H10=>?_)))));obtain ⟨H10,hi,vl2⟩:=H10;refine ac (ab (sR 2 Z (sV Z (aE b0 Z) (sV Z (aM Z Z) (aa (aB Z (fun c4=>?_) (fun c4=>?_)))))))
    ·refine ak (ac (an (ab (sR 3 Z (aa (aB Z (fun c5=>?_) (fun c5=>?_)))))))
     ·have nR:=hR.norm (c:=c) (r:=r) (a:=j) ω ω;have eR:=nR.elim (c:=c) (r:=r) (k:=i) ω;have xl2:=eR.1;have e3:=eR.2 i ω;have e4:=eR.2 r ω;have sl:=gc ((cU (ms M c r j) c r i).getD r []) (((cU (ms M c r j) c r i).getD i []).getD c 0);obtain ⟨eb8,eo8,ea6,ek6,ef6,ee8,ec8,eO6,eH6,em6⟩:=dE (H10.mine 0 Z) (H10.rowsAt 0 Z) (by first | omega | (simp only [List.length_set]; omega)) i (by first | omega | (simp only [List.length_set]; omega));have eP6:=H10.lookR 0 Z eO6 eH6;obtain ⟨eb9,eo9,ea7,ek7,ef7,ee9,ec9,eO7,eH7,em7⟩:=dE (eP6.mine 0 Z) (eP6.rowsAt 0 Z) (by first | omega | (simp only [List.length_set]; omega)) r (by first | omega | (simp only [List.length_set]; omega));have eP7:=eP6.lookR 0 Z eO7 eH7;obtain ⟨eb10,eo10,ee10,ec10⟩:=cx (eP7.seen 1 Z) c ω;refine bH (S:=Ext No _) (oQ [1,3,5,7,9,11,13,15,17,19,21,23,25,27,29,31,33,34,36,39,40]) κ κ κ Z (fun _=>Ext.refl.drawn _) (fun q2=>?_);have H11:=eP7.drawn q2;refine dR 4 Z (dV Z Z (fun zw hx=>ay b0 aY Z Z ee8 i ω ω) (dV Z Z (fun zw hx=>ag aP Z Z (hx.cell ec8)) (dR 2 Z (dV Z Z (fun zw hx=>ay b0 aY Z Z ee9 r ω ω) (dV Z Z (fun zw hx=>ag aP Z Z (hx.cell ec9)) (dR 2 Z (dV Z Z (fun zw hx=>ay b0 aY Z Z ee8 i ω ω) (dV Z Z (fun zw hx=>ag aP Z Z (hx.cell ec8)) (dM Z Z Z (dV Z Z (fun zw hx=>ay aP ts5 Z Z ee10 c ω ω) (dV Z Z (fun zw hx=>ag tu5 Z Z (hx.cell ec10)) (dC func252 qK Z (iD (H11.sees 2 Z) ω) (fun v3 w10 r3=>?_)))))))))))));obtain ⟨e7,r3⟩:=r3;obtain ⟨fp4,H12⟩:=H11.res e7 r3;obtain ⟨a2,k2,q3⟩:=az (H12.mine 1 Z);cases q3;refine dC func253 xk Z (nL (H12.sees 1 Z) (H12.msees 1 Z) ω) (fun v4 w11 r4=>?_);obtain ⟨e8,r4⟩:=r4;obtain ⟨fp5,H13⟩:=H12.res e8 r4;obtain ⟨a3,k3,q4⟩:=az (H13.mine 2 Z);cases q4;refine dV Z Z (fun zw hx=>ay b0 aY Z Z ee8 i ω ω) ?_;have H15:=H13.share 2 Z
      try dsimp only[lNA,lCA,lSZ,lSS] at H15
      refine oN Z aj aY H15 0 0 3 Z Z Z (by first | omega | (simp only [List.length_set]; omega)) i (by first | omega | (simp only [List.length_set]; omega)) Z ee8 Z (fun _ _ _ _ _ _ _ _ hr=>absurd Z hr) (fun w12 fp6 gp3 H14=>?_)
      try dsimp only[lNA,lCA,lSZ,lSS] at H14
      refine aU (am (sM Z Z (sV Z (aC Z Z iO) (sA Z Z (aa ?_)))));have nR:=hR.norm (c:=c) (r:=r) (a:=j) ω ω;have hz:=((H14.ftake 1).dtake 1);rw [vn (by rw [nR.1]; omega) ω (by rw [tN (by rw [nR.1]; omega),Bm (by rw [nR.1]; omega)]; rfl)] at hz;refine ⟨(i+1,_,_,_),⟨Z,Z,Z,Z,Z,trivial⟩,⟨hz,ω,by simp only [List.length_set]; omega⟩,θ⟩
     ·refine ak (am (sM Z Z (sV Z (aC Z Z iO) (sA Z Z (aa ?_)))));have nR:=hR.norm (c:=c) (r:=r) (a:=j) ω ω;have hz:=H10;rw [uv (.inl ω)] at hz;refine ⟨(i+1,_,_,_),⟨Z,Z,Z,Z,Z,trivial⟩,⟨hz,ω,vl2⟩,θ⟩
    ·refine aI (am (sM Z Z (sV Z (aC Z Z iO) (sA Z Z (aa (am (sM Z Z (sV Z (aC Z Z iO) (sA Z Z (aa ?_))))))))));have hz:=H10;rw [show i=K by omega] at hz;refine ⟨(c+1,cU (ms M c r j) c r K,r+1,_,_,_),⟨Z,Z,Z,Z,trivial⟩,⟨hz,ω,(xT hred hpv ω).trans (by rw [xl]),(hR.norm ω ω).elim ω,ω,vl2⟩,θ⟩
 ·refine aI (ab (sR 2 Z (rN hQ results453 Z ?_)));have hz:=H2.rowsOut vl;have e9:redM m n=(M,r):=by
   simp only [Bool.and_eq_false_iff,decide_eq_false_iff_not] at c1
   by_cases hq:c=n
   ·rw [← hq]; exact hred
   ·rw [Hj (c:=c) (by rw [hred]; show r=M.length; rw [hR.1]; omega) n hc]; exact hred
  rw [e9];exact ⟨Z,hz⟩
theorem uI {w:World}{m:List (List UInt8)}{mA bA:Option Addr}{mN mC bN bC:Nat}{b:List UInt8}(mS:Sees w [.slice mA mN mC] m) (bS:Sees w [.slice bA bN bC] b) (hR:Rect m m.length m.length) (hb:b.length=m.length) (hml:1≤m.length∧m.length≤100):Ret Tryz.prog 407 #[.slice mA mN mC,.slice bA bN bC] w fun v w'=>Ext No w w'∧(∃ A C,v = .tuple #[.slice A (wm m b).length C,.bool (ry m b)]∧Res w w' [.slice A (wm m b).length C] (wm m b)):=by
 obtain ⟨mF,mO⟩:=mS;obtain rfl:=eM mO;have mL:=sL ⟨_,mO⟩;obtain ⟨bF,bO⟩:=bS;obtain rfl:=eM bO;have bL:=sL ⟨_,bO⟩;refine aF func407 Z ntmps407 Z (fun Q hQ hN=>?_);have H0:=Sep.start (ae mO (ae bO aA));refine ab (sR 2 Z (aa (ab (sM Z Z (sV Z (aE b0 Z) (hX aj Z b0 bB (zF (α:=UInt8)) Z ω (by unfold maxLen; omega) H0 (fun b1 w1 e1 g1 H1=>sA Z Z (aa (ac (ab (sM Z Z (sV Z (aE b0 Z) (sM Z Z (aa (an (bg (γ:=Nat × List Nat) (fun (k,f)=>[(0,.slice mA m.length mC),(1,.slice bA b.length bC),(6,.slice (some ⟨b1,0,none⟩) m.length m.length),(15,.slice mA m.length mC),(16,.int .i64 m.length),(17,.int .i64 k)]) (fun (k,f) w'=>Sep No w [mine [.slice (some ⟨b1,0,none⟩) m.length m.length] (augIn m b k) f] [seen false [.slice mA m.length mC] m mF,seen false [.slice bA b.length bC] b bF] w'∧k≤m.length) (fun (k,f)=>m.length-k) (0,_) ⟨Z,Z,Z,Z,Z,Z,trivial⟩ ⟨by rw [Cb]; exact H1,ω⟩ (fun (k,f) w2 H2=>?_)))))))))))))))));obtain ⟨H2,hk⟩:=H2;refine ab (sV Z (aM Z Z) (aa (ac (aB Z (fun c1=>?_) (fun c1=>?_)))))
 ·refine ak (ac (an (ac ?_)));obtain ⟨eb1,eo1,ea1,ek1,ef1,ee1,ec1,eO1,eH1⟩:=cm (H2.seen 0 Z) k ω;have eP1:=H2.look1 0 Z eO1 eH1;refine am (sM Z Z (sV Z (ay b0 aY Z Z ee1 k ω ω) (sV Z (ag aP Z Z ec1) (sR 2 Z (aa ?_)))));have e3:=hR.2 k ω;obtain ⟨eb2,eo2,ee2,ec2⟩:=cx (eP1.seen 1 Z) k ω;obtain ⟨eb3,eo3,ee3⟩:=eH (eP1.mine 0 Z) k (by rw [tI ω]; omega);refine bH (S:=Ext No _) [(0,true),(1,true),(2,true),(4,true),(5,true),(6,true),(7,true),(1005,false),(3,false),(8,false),(9,false),(10,true),(11,false),(8,false),(3,false),(9,false),(10,true),(11,false)] κ κ κ Z (fun _=>Ext.refl.drawn _) (fun q1=>?_);have H3:=eP1.drawn q1;refine dR 5 Z (dV Z Z (fun zw hx=>ay aP ts5 Z Z ee2 k ω ω) (dV Z Z (fun zw hx=>ag tu5 Z Z (hx.cell ec2)) (dF Z ?_ ?_)))
  ·refine d_S (fun hs1=>?_) σ;refine dC func109 bt Z (eA (H3.sees 2 Z) ω) (fun v1 w3 r1=>?_);obtain ⟨e2,r1⟩:=r1;obtain ⟨fp1,H4,fr1⟩:=H3.resN e2 r1;obtain ⟨a1,k1,q2⟩:=az (H4.mine 1 Z);cases q2;refine dS Z aj Z aP bj Z Z Z Z H4 (fun _ h e=>h.trans e.no) (fun b2 w4 e3 g2 H5=>d_S (fun hs2=>?_) σ);refine iE Z aj Z aP bj Z Z Z H5 1 2 Z Z fH (by (try simp only [List.length_nil]); unfold maxLen; omega) (by (try simp only [List.length_nil]); omega) (fun b hb=>Nat.le_trans hs1.size (fr1 b hb)) (fun v2 w5 fp2 sb1 H6=>?_)
   try dsimp only[lNA,lCA,lSZ,lSS] at H6
   refine dV Z Z (fun zw hx=>ay b0 aY Z Z ee3 k ω ω) (EK Z aj aY Z H6 0 1 Z Z Z k (by rw [tI ω]; omega) Z ee3 Z (fun w6 fp3 H7=>aU (am (sV Z (aC Z Z iO) (sM Z Z (aa ?_))))));have hz:=((H7.ftake 2).dtake 1);rw [xG ω] at hz;refine ⟨(k+1,_),⟨Z,Z,Z,Z,Z,Z,trivial⟩,⟨hz,ω⟩,θ⟩
  ·refine dS Z aj Z aP bj Z Z Z Z H3 (fun _ h e=>h.trans e.no) (fun b3 w7 e5 g3 H8=>d_S (fun hs3=>?_) σ);refine dC func109 bt Z (eA (H8.sees 2 Z) ω) (fun v3 w8 r2=>?_);obtain ⟨e6,r2⟩:=r2;obtain ⟨fp4,H9,fr2⟩:=H8.resN e6 r2;obtain ⟨a2,k2,q3⟩:=az (H9.mine 2 Z);cases q3;refine d_S (fun hs4=>?_) σ;refine iE Z aj Z aP bj Z Z Z H9 2 1 Z Z fH (by (try simp only [List.length_nil]); unfold maxLen; omega) (by (try simp only [List.length_nil]); omega) (fun b hb=>Nat.le_trans hs3.size (fr2 b hb)) (fun v4 w9 fp5 sb2 H10=>?_)
   try dsimp only[lNA,lCA,lSZ,lSS] at H10
   refine dV Z Z (fun zw hx=>ay b0 aY Z Z ee3 k ω ω) (EK Z aj aY Z H10 0 2 Z Z Z k (by rw [tI ω]; omega) Z ee3 Z (fun w10 fp6 H11=>aU (am (sV Z (aC Z Z iO) (sM Z Z (aa ?_))))));have hz:=((H11.ftake 2).dtake 1);rw [xG ω] at hz;refine ⟨(k+1,_),⟨Z,Z,Z,Z,Z,Z,trivial⟩,⟨hz,ω⟩,θ⟩
 ·refine aI (ac (ac ?_));obtain rfl:k=m.length:=by omega
  obtain ⟨vs,f2,g2,vl,HP⟩:=H2.parted 0 Z
  try dsimp only[lNA,lCA,lSZ,lSS] at HP
  rw [yd] at HP;rw [yd] at vl;have hRa:=AU (b:=b) hR;have hRM:=(hRa.red m.length).1;have hM1:=hRM.1;have vl1:vs.length=m.length:=vl.trans hRa.1;refine am (sR 2 Z (sV Z (aE b0 Z) (sC func443 Br Z (tB (HP.mine 0 Z) (HP.nodup1 (i:=0) Z) (HP.rowsAt 2 Z) (fun b hb=>HP.off 2 Z 0 Z hb) ξ η ω) (fun v5 w11 r3=>?_))));obtain ⟨rfl,rm1⟩:=r3;obtain ⟨rv1,rf1,rg1,rl1,H12⟩:=HP.rowsMut 0 Z (by simp [blocks,mine,gone]) rm1
  try dsimp only[lNA,lCA,lSZ,lSS] at H12
  refine sM Z Z (sV Z (aE b0 Z) (sV Z (aM Z Z) (aa (aB Z (fun c2=>?_) (fun c2=>?_)))))
  ·refine ab (sR 2 Z (aa (bR (hQ _ _ (pH results407 Z Z ?_)))));obtain ⟨e1,e2⟩:=G6 (m:=m) (b:=b) ω;exact ⟨H12.ext,none,0,(by rw [e1,e2]; rfl),(by rw [e2]; exact ⟨[],.inr (.inl ⟨Z,Z,Z⟩),.nil,σ⟩)⟩
  ·refine ak (ab (cW (α:=UInt8) aj Z aP bj H12 (fun b4 w12 e9 g4 H13=>sA Z Z (aa (ac (ab (sM Z Z (sV Z (aE b0 Z) (sM Z Z (aa (an (bg (γ:=Nat × Value × List Nat) (fun (k,vo,f)=>[(0,.slice mA m.length mC),(9,vo),(42,.slice (some ⟨b1,0,none⟩) m.length m.length),(43,.int .i64 m.length),(44,.int .i64 k)]) (fun (k,vo,f) w'=>Sep No w [mine [.slice (some ⟨b1,0,none⟩) m.length m.length] rv1 rf1,mine [vo] (p8 (redM (aug m b) m.length).1 m.length k) f] _ w'∧k≤m.length) (fun (k,vo,f)=>m.length-k) (0,_,_) ⟨Z,Z,Z,Z,Z,trivial⟩ ⟨H13.sub (.cons_cons _ (.cons_cons _ List.Sublist.slnil)),ω⟩ (fun (k,vo,f) w13 H14=>?_)))))))))))));obtain ⟨H14,hk⟩:=H14;refine ab (sV Z (aM Z Z) (aa (ac (aB Z (fun c3=>?_) (fun c3=>?_)))))
   ·refine ak (ac (an (ac ?_)));obtain ⟨eb4,eo4,ea2,ek2,ef2,ee4,ec4,eO2,eH2,em1⟩:=dE (H14.mine 0 Z) (H14.rowsAt 3 Z) (by first | omega | (simp only [List.length_set]; omega)) k (by first | omega | (simp only [List.length_set]; omega));have eP2:=H14.lookR 3 Z eO2 eH2;refine am (sV Z (ay b0 aY Z Z ee4 k ω ω) (sV Z (ag aP Z Z ec4) (sA Z Z (aa ?_))));have e5:=hRM.2 k ω;have ctl:=yD (m:=(redM (aug m b) m.length).1) (c:=m.length) (k:=k);obtain ⟨eb5,eo5,ee5,ec5⟩:=cx (eP2.seen 4 Z) m.length ω;refine am (sR 3 Z (sV Z (aE b0 Z) (sV Z (ay aP ts5 Z Z ee5 m.length ω ω) (sV Z (ag tu5 Z Z ec5) (dx aj Z aP bj Z Z Z Z eP2 (fun b5 w14 e10 g5 H15=>fB aj Z aP bj Z Z Z H15 1 2 Z Z fH (by unfold maxLen; omega) ω (fun v6 w15 fp7 H16=>sA Z Z (aa (am (sV Z (aC Z Z iO) (sM Z Z (aa ?_))))))))))));have hz:=H16.ftake 4 |>.sub (.cons_cons _ (.cons_cons _ (.cons _ List.Sublist.slnil)))
    rw [vx] at hz;refine ⟨(k+1,_,_),⟨Z,Z,Z,Z,Z,trivial⟩,⟨hz,ω⟩,θ⟩
   ·refine aI (ab (sR 3 Z (aa (bR (hQ _ _ (pH results407 Z Z ?_))))));obtain rfl:k=m.length:=by omega
    obtain ⟨e1,e2⟩:=zQ (m:=m) (b:=b) ω;obtain ⟨qa,qc,qq⟩:=az (H14.mine 1 Z);cases qq;exact ⟨H14.ext,qa,qc,(by rw [e1,e2]),(by rw [e2]; exact H14.out 1 Z)⟩
theorem sB {w:World}{m:List (List UInt8)}{mA bA:Option Addr}{mN mC bN bC:Nat}{b:List UInt8}(mS:Sees w [.slice mA mN mC] m) (bS:Sees w [.slice bA bN bC] b) (hR:Rect m m.length m.length) (hb:b.length=m.length) (hml:1≤m.length∧m.length≤100):Ret Tryz.prog 450 #[.slice mA mN mC,.slice bA bN bC] w fun v w'=>Ext No w w'∧(∃ A C,v = .tuple #[.slice A (wm m b).length C,.bool (ry m b)]∧Res w w' [.slice A (wm m b).length C] (wm m b)):=by
 obtain ⟨mF,mO⟩:=mS;obtain rfl:=eM mO;have mL:=sL ⟨_,mO⟩;obtain ⟨bF,bO⟩:=bS;obtain rfl:=eM bO;have bL:=sL ⟨_,bO⟩;refine aF func450 Z ntmps450 Z (fun Q hQ hN=>?_);have H0:=Sep.start (ae mO (ae bO aA));refine ab (sR 2 Z (aa (ab (cW (α:=(List UInt8)) aj Z b0 bB H0 (fun b1 w1 e1 g1 H1=>sA Z Z (aa (ac (ab (sA Z Z (aa (an (bg (γ:=Nat × Value × List Nat) (fun (k,vo,f)=>[(0,.slice mA m.length mC),(1,.slice bA b.length bC),(6,vo),(7,.int .i64 k)]) (fun (k,vo,f) w'=>Sep No w [mine [vo] (augTo m b k) f] [seen false [.slice mA m.length mC] m mF,seen false [.slice bA b.length bC] b bF] w'∧k≤m.length) (fun (k,vo,f)=>m.length-k) (0,_,_) ⟨Z,Z,Z,Z,trivial⟩ ⟨H1,ω⟩ (fun (k,vo,f) w2 H2=>?_)))))))))))));obtain ⟨H2,hk⟩:=H2;refine ac (ab (sR 2 Z (sV Z (aE b0 Z) (sV Z (aM Z Z) (aa (aB Z (fun c1=>?_) (fun c1=>?_)))))))
 ·refine ak (ac (an ?_));have e3:=hR.2 k ω;have al:=jp (m:=m) (b:=b) (k:=k);obtain ⟨eb1,eo1,ea1,ek1,ef1,ee1,ec1,eO1,eH1,em1⟩:=zS (H2.seen 0 Z) k ω;have eP1:=H2.look1 0 Z eO1 eH1;obtain ⟨eb2,eo2,ee2,ec2,em2⟩:=sT (eP1.seen 1 Z) k ω;refine bH (S:=Ext (· ∈ f) _) [(0,true),(2,true),(3,true),(4,true),(5,true),(7,true),(8,true),(9,true),(10,true),(1014,false),(1,false),(1006,false),(6,false),(11,false),(12,false),(13,false),(14,false),(15,false),(11,false),(6,false),(12,false),(13,false),(14,false),(15,false),(11,false),(1,false),(6,false),(12,false),(13,false),(14,false),(15,false)] κ κ κ Z (fun _=>Ext.refl.drawn _) (fun q1=>?_);have H3:=eP1.drawn q1;refine dR 3 Z (dV Z Z (fun zw hx=>ay b0 aY Z Z ee1 k ω ω) (dV Z Z (fun zw hx=>ag aP Z Z (hx.cellM (H3.off 0 Z 0 Z em1) ec1)) (dR 2 Z (dV Z Z (fun zw hx=>ay aP ts5 Z Z ee2 k ω ω) (dV Z Z (fun zw hx=>ag tu5 Z Z (hx.cellM (H3.off 1 Z 0 Z em2) ec2)) (dF Z ?_ ?_))))))
  ·refine d_S (fun hs1=>?_) σ;refine ng (α:=UInt8) Z aj Z aP bj H3 (fun _ h e=>h.trans e.no) (fun b2 w3 e2 g2 H4=>dF Z ?_ ?_)
   ·refine d_S (fun hs2=>?_) σ;refine eK Z aj Z aP bj Z Z Z H4 1 Z (H4.seen 2 Z) (by (try simp only [List.length_nil]); unfold maxLen; omega) (by (try simp only [List.length_nil]); omega) (fun b hb=>by simp only [List.mem_singleton] at hb; rw [hb]; exact Nat.le_trans hs1.size g2) (fun v1 w4 fp1 sb1 H5=>?_)
    try dsimp only[lNA,lCA,lSZ,lSS] at H5
    refine dS Z aj Z aP bj Z Z Z Z H5 (fun _ h e=>h.trans e.no) (fun b3 w5 e3 g3 H6=>d_S (fun hs3=>?_) σ);refine iE Z aj Z aP bj Z Z Z H6 1 2 Z Z fH (by (try simp only [List.length_nil]); unfold maxLen; omega) (by (try simp only [List.length_nil]); omega) (fun b hb=>(sb1 b hb).elim (((fun b hb=>by simp only [List.mem_singleton] at hb; rw [hb]; exact Nat.le_trans hs1.size g2):∀ b∈_,_≤b) b) (fun h=>Nat.le_trans hs2.size h)) (fun v2 w6 fp2 sb2 H7=>?_)
    try dsimp only[lNA,lCA,lSZ,lSS] at H7
    obtain ⟨a1,k1,q2⟩:=az (H7.mine 1 Z);cases q2;refine dS Z aj Z b0 bB Z Z Z Z H7 (fun _ h e=>h.trans e.no) (fun b4 w7 e4 g4 H8=>jq Z aj Z b0 bB Z Z Z H8 0 3 1 Z Z Z Z (by unfold maxLen; omega) ω (fun _ h e=>h.trans e) (fun v3 w8 fp3 H9=>aT Z aj Z Z (br Z) (aU (am (sM Z Z (sV Z (aC Z Z iO) (sA Z Z (aa ?_))))))));have hz:=((H9.ftake 2).dtake 1)
    try simp only [List.nil_append] at hz
    rw [nl] at hz;refine ⟨(k+1,_,_),⟨Z,Z,Z,Z,trivial⟩,⟨hz,ω⟩,θ⟩
   ·refine dS Z aj Z aP bj Z Z Z Z H4 (fun _ h e=>h.trans e.no) (fun b5 w9 e5 g5 H10=>d_S (fun hs4=>?_) σ);refine eK Z aj Z aP bj Z Z Z H10 1 Z (H10.seen 2 Z) (by (try simp only [List.length_nil]); unfold maxLen; omega) (by (try simp only [List.length_nil]); omega) (fun b hb=>by simp only [List.mem_singleton] at hb; rw [hb]; exact Nat.le_trans hs1.size g2) (fun v4 w10 fp4 sb3 H11=>?_)
    try dsimp only[lNA,lCA,lSZ,lSS] at H11
    refine d_S (fun hs5=>?_) σ;refine iE Z aj Z aP bj Z Z Z H11 1 2 Z Z fH (by (try simp only [List.length_nil]); unfold maxLen; omega) (by (try simp only [List.length_nil]); omega) (fun b hb=>(sb3 b hb).elim (((fun b hb=>by simp only [List.mem_singleton] at hb; rw [hb]; exact Nat.le_trans hs1.size g2):∀ b∈_,_≤b) b) (fun h=>Nat.le_trans hs4.size h)) (fun v5 w11 fp5 sb4 H12=>?_)
    try dsimp only[lNA,lCA,lSZ,lSS] at H12
    obtain ⟨a2,k2,q3⟩:=az (H12.mine 1 Z);cases q3;refine dS Z aj Z b0 bB Z Z Z Z H12 (fun _ h e=>h.trans e.no) (fun b6 w12 e6 g6 H13=>jq Z aj Z b0 bB Z Z Z H13 0 3 1 Z Z Z Z (by unfold maxLen; omega) ω (fun _ h e=>h.trans e) (fun v6 w13 fp6 H14=>aT Z aj Z Z (br Z) (aU (am (sM Z Z (sV Z (aC Z Z iO) (sA Z Z (aa ?_))))))));have hz:=((H14.ftake 2).dtake 1)
    try simp only [List.nil_append] at hz
    rw [nl] at hz;refine ⟨(k+1,_,_),⟨Z,Z,Z,Z,trivial⟩,⟨hz,ω⟩,θ⟩
  ·refine dS Z aj Z aP bj Z Z Z Z H3 (fun _ h e=>h.trans e.no) (fun b7 w14 e7 g7 H15=>d_S (fun hs6=>?_) σ);refine ng (α:=UInt8) Z aj Z aP bj H15 (fun _ h e=>h.trans e.no) (fun b8 w15 e8 g8 H16=>d_S (fun hs7=>?_) σ);refine eK Z aj Z aP bj Z Z Z H16 2 Z (H16.seen 2 Z) (by (try simp only [List.length_nil]); unfold maxLen; omega) (by (try simp only [List.length_nil]); omega) (fun b hb=>by simp only [List.mem_singleton] at hb; rw [hb]; exact Nat.le_trans hs6.size g8) (fun v7 w16 fp7 sb5 H17=>?_)
   try dsimp only[lNA,lCA,lSZ,lSS] at H17
   refine d_S (fun hs8=>?_) σ;refine iE Z aj Z aP bj Z Z Z H17 2 1 Z Z fH (by (try simp only [List.length_nil]); unfold maxLen; omega) (by (try simp only [List.length_nil]); omega) (fun b hb=>(sb5 b hb).elim (((fun b hb=>by simp only [List.mem_singleton] at hb; rw [hb]; exact Nat.le_trans hs6.size g8):∀ b∈_,_≤b) b) (fun h=>Nat.le_trans hs7.size h)) (fun v8 w17 fp8 sb6 H18=>?_)
   try dsimp only[lNA,lCA,lSZ,lSS] at H18
   obtain ⟨a3,k3,q4⟩:=az (H18.mine 2 Z);cases q4;refine dS Z aj Z b0 bB Z Z Z Z H18 (fun _ h e=>h.trans e.no) (fun b9 w18 e9 g9 H19=>jq Z aj Z b0 bB Z Z Z H19 0 3 2 Z Z Z Z (by unfold maxLen; omega) ω (fun _ h e=>h.trans e) (fun v9 w19 fp9 H20=>aT Z aj Z Z (br Z) (aU (am (sM Z Z (sV Z (aC Z Z iO) (sA Z Z (aa ?_))))))));have hz:=((H20.ftake 2).dtake 1)
   try simp only [List.nil_append] at hz
   rw [nl] at hz;refine ⟨(k+1,_,_),⟨Z,Z,Z,Z,trivial⟩,⟨hz,ω⟩,θ⟩
 ·refine aI (ab (sM Z Z (sV Z (aE b0 Z) (sA Z Z (aa (ac (ac ?_)))))));obtain rfl:k=m.length:=by omega
  obtain ⟨oA,oC,oq⟩:=az (H2.mine 0 Z);rw [jp] at oq;cases oq;have al:(augTo m b m.length).length=m.length:=jp;obtain ⟨vs,f2,g2,vl,HP⟩:=H2.parted 0 Z
  try dsimp only[lNA,lCA,lSZ,lSS] at HP
  rw [show augTo m b m.length=aug m b from rfl] at HP vl;have hRa:=AU (b:=b) hR;have hRM:=(hRa.red m.length).1;have hM1:=hRM.1;have vl1:vs.length=m.length:=vl.trans hRa.1;refine am (sR 2 Z (sC func453 DQ Z (tY (HP.mine 0 Z) (HP.nodup1 (i:=0) Z) (HP.rowsAt 2 Z) (fun b hb=>HP.off 2 Z 0 Z hb) ξ η ω) (fun v10 w20 r1=>?_)));obtain ⟨rfl,rm1⟩:=r1;obtain ⟨rv1,rf1,rg1,rl1,H21⟩:=HP.rowsMut 0 Z (by simp [blocks,mine,gone]) rm1
  try dsimp only[lNA,lCA,lSZ,lSS] at H21
  refine sR 2 Z (aa (aB Z (fun c2=>?_) (fun c2=>?_)))
  ·refine ab (sR 2 Z (aa (bR (hQ _ _ (pH results450 Z Z ?_)))));obtain ⟨e1,e2⟩:=G6 (m:=m) (b:=b) ω;exact ⟨H21.ext,none,0,(by rw [e1,e2]; rfl),(by rw [e2]; exact ⟨[],.inr (.inl ⟨Z,Z,Z⟩),.nil,σ⟩)⟩
  ·refine ak (ab (cW (α:=UInt8) aj Z aP bj H21 (fun b10 w21 e11 g10 H22=>sA Z Z (aa (ac (ab (sA Z Z (aa (an (bg (γ:=Nat × Value × List Nat) (fun (k,vo,f)=>[(0,.slice mA m.length mC),(6,.slice oA m.length oC),(8,.int .i64 m.length),(9,vo),(10,.int .i64 k)]) (fun (k,vo,f) w'=>Sep No w [mine [.slice oA m.length oC] rv1 rf1,mine [vo] (p8 (redM (aug m b) m.length).1 m.length k) f] _ w'∧k≤m.length) (fun (k,vo,f)=>m.length-k) (0,_,_) ⟨Z,Z,Z,Z,Z,trivial⟩ ⟨H22.sub (.cons_cons _ (.cons_cons _ List.Sublist.slnil)),ω⟩ (fun (k,vo,f) w22 H23=>?_)))))))))));obtain ⟨H23,hk⟩:=H23;refine ac (ab (sR 3 Z (aa (aB Z (fun c3=>?_) (fun c3=>?_)))))
   ·refine ak (ac (an ?_));have e5:=hRM.2 k ω;have ctl:=yD (m:=(redM (aug m b) m.length).1) (c:=m.length) (k:=k);obtain ⟨eb3,eo3,ea2,ek2,ef2,ee3,ec3,eO2,eH2,em3⟩:=dE (H23.mine 0 Z) (H23.rowsAt 3 Z) (by first | omega | (simp only [List.length_set]; omega)) k (by first | omega | (simp only [List.length_set]; omega));have eP2:=H23.lookR 3 Z eO2 eH2;obtain ⟨eb4,eo4,ee4,ec4⟩:=cx (eP2.seen 4 Z) m.length ω;refine am (sR 3 Z (sV Z (ay b0 aY Z Z ee3 k ω ω) (sV Z (ag aP Z Z ec3) (sM Z Z (sV Z (ay aP ts5 Z Z ee4 m.length ω ω) (sV Z (ag tu5 Z Z ec4) (dx aj Z aP bj Z Z Z Z eP2 (fun b11 w23 e12 g11 H24=>fB aj Z aP bj Z Z Z H24 1 2 Z Z fH (by unfold maxLen; omega) ω (fun v11 w24 fp10 H25=>sA Z Z (aa (am (sM Z Z (sV Z (aC Z Z iO) (sA Z Z (aa ?_)))))))))))))));have hz:=H25.ftake 4 |>.sub (.cons_cons _ (.cons_cons _ (.cons _ List.Sublist.slnil)))
    rw [vx] at hz;refine ⟨(k+1,_,_),⟨Z,Z,Z,Z,Z,trivial⟩,⟨hz,ω⟩,θ⟩
   ·refine aI (ab (sR 3 Z (aa (bR (hQ _ _ (pH results450 Z Z ?_))))));obtain rfl:k=m.length:=by omega
    obtain ⟨e1,e2⟩:=zQ (m:=m) (b:=b) ω;obtain ⟨qa,qc,qq⟩:=az (H23.mine 1 Z);cases qq;exact ⟨H23.ext,qa,qc,(by rw [e1,e2]),(by rw [e2]; exact H23.out 1 Z)⟩
theorem lp {w:World}{n hsC:Nat}{s p:Int}{hs:List Int}{hsA:Option Addr}(hsS:Sees w [.slice hsA hs.length hsC] hs) (hn:1≤n∧n≤100) (hl:hs.length=n) (hr:∀ i,i<n→0≤hs.getD i 0∧hs.getD i 0≤500) (hp:0≤p∧p≤500):Ret Tryz.prog 353 #[.agg #[.int .i64 n,.int .i64 s],.slice hsA hs.length hsC,.int .i64 p] w fun v w'=>Ext No w w'∧(Res w w' [v] (betw n hs p 0)):=by
 obtain ⟨hsF,hsO⟩:=hsS;refine aF func353 Z ntmps353 Z (fun Q hQ hN=>?_);have H0:=Sep.start (ae hsO aA);refine ab (bf aj Z Z H0 (fun b1 w1 e1 g1 H1=>sA Z Z (aa (ab (sF jZ Z ts2 (sLd tu2 (H1.box 0 Z) Z (hX aj Z b0 bB (zF (α:=UInt8)) Z ω (by unfold maxLen; omega) H1 (fun b2 w2 e2 g2 H2=>sA Z Z (aa (ac (ab (sM Z Z (sV Z (aE bp Z) (sM Z Z (aa (an (bg (γ:=Nat × List Nat) (fun (j,f)=>[(2,.int .i64 p),(3,.pointer (some ⟨b1,0,none⟩)),(7,.slice (some ⟨b2,0,none⟩) n n),(17,.slice hsA hs.length hsC),(18,.int .i64 hs.length),(19,.int .i64 j)]) (fun (j,f) w'=>Sep No w [box b1 (.cells #[.int .i64 n,.int .i64 s] 226),mine [.slice (some ⟨b2,0,none⟩) n n] (trF (hv n hs 0) n j 0) f] [seen false [.slice hsA hs.length hsC] hs hsF] w'∧j≤n) (fun (j,f)=>n-j) (0,_) ⟨Z,Z,Z,Z,Z,Z,trivial⟩ ⟨by rw [zW]; exact H2,ω⟩ (fun (j,f) w3 H3=>?_))))))))))))))))));obtain ⟨H3,hj0⟩:=H3;refine ab (sV Z (aM Z Z) (aa (ac (aB Z (fun c1=>?_) (fun c1=>?_)))))
 ·refine ak (ac (an (ac ?_)));obtain ⟨eb1,eo1,ee1,ec1⟩:=cr (H3.seen 0 Z) j ω;have eI1:=cA (H3.seen 0 Z) j ω;refine am (sV Z (ay bp ts2 Z Z ee1 j ω ω) (sV Z (ag tu2 Z Z ec1) (sA Z Z (aa (ac ?_)))));have hj:=hr j ω;have gl:(jJ n (hs.getD j 0) 0).length=n:=mc;refine am (sV Z (au jZ Z wG Z Z (At.whole (H3.box 0 Z))) (sM Z Z (sC func347 qk Z (eP ω) (fun v1 w4 r1=>?_))));obtain ⟨e3,r1⟩:=r1;obtain ⟨fp1,H4⟩:=H3.res e3 r1;obtain ⟨a1,k1,q1⟩:=az (H4.mine 2 Z);cases q1;refine sV Z (aE aP Z) (sM Z Z (aa (an (bg (γ:=Nat × List Nat) (fun (i,f2)=>[(2,.int .i64 p),(3,.pointer (some ⟨b1,0,none⟩)),(7,.slice (some ⟨b2,0,none⟩) n n),(17,.slice hsA hs.length hsC),(18,.int .i64 hs.length),(19,.int .i64 j),(25,.slice a1 (jJ n (hs.getD j 0) 0).length k1),(26,.int .i64 (jJ n (hs.getD j 0) 0).length),(27,.int .i64 i)]) (fun (i,f2) w'=>Sep No w [box b1 (.cells #[.int .i64 n,.int .i64 s] 226),mine [.slice (some ⟨b2,0,none⟩) n n] (trF (hv n hs 0) n j i) f2,mine [.slice a1 (jJ n (hs.getD j 0) 0).length k1] (jJ n (hs.getD j 0) 0) fp1] [seen false [.slice hsA hs.length hsC] hs hsF] w'∧i≤n) (fun (i,f2)=>n-i) (0,_) ⟨Z,Z,Z,Z,Z,Z,Z,Z,Z,trivial⟩ ⟨H4,ω⟩ (fun (i,f2) w5 H5=>?_)))));obtain ⟨H5,hi⟩:=H5;refine ab (sV Z (aM Z Z) (aa (ac (aB Z (fun c2=>?_) (fun c2=>?_)))))
  ·refine ak (ac (an (ac ?_)));obtain ⟨eb2,eo2,ee2,ec2⟩:=cx (H5.mine 2 Z) i ω;refine am (sM Z Z (sV Z (ay aP ts5 Z Z ee2 i ω ω) (sV Z (ag tu5 Z Z ec2) (sR 2 Z (aa ?_)))));have e6:((trF (hv n hs 0) n j i).getD i []).length=j:=by rw [uU ω]; simp
   obtain ⟨eb3,eo3,eB1,eS1,eF1,eG1,ef1,ea1,ek1,ee3,eN1,ec3,nbef1,eH1⟩:=H5.unhook 1 Z i (by rw [u4]; omega)
   try dsimp only[lNA,lCA,lSZ,lSS] at eH1
   refine am (sR 4 Z (sV Z (ay b0 aY Z Z ee3 i ω ω) (sV Z (ag aP Z Z ec3) (sM Z Z (dx aj Z aP bj Z Z Z Z eH1 (fun b3 w6 e4 g3 H6=>fB aj Z aP bj Z Z Z H6 3 4 Z Z fH (by unfold maxLen; omega) ω (fun v2 w7 fp2 H7=>sV Z (ay b0 aY Z Z ee3 i ω ω) (J1 aj aY H7 1 3 Z Z Z eN1 Z Z (fun w8 fp3 H8=>?_)))))))))
   try dsimp only[lNA,lCA,lSZ,lSS] at H8
   refine aa (am (sV Z (aC Z Z iO) (sM Z Z (aa ?_))));have hz:=(H8.dtake 3);rw [show (jJ n (hs.getD j 0) 0).getD i 0=(hv n hs 0 j).getD i 0 from rfl,AR ω] at hz;refine ⟨(i+1,_),⟨Z,Z,Z,Z,Z,Z,Z,Z,Z,trivial⟩,⟨hz,ω⟩,θ⟩
  ·refine aI (am (sV Z (aC Z Z iO) (sM Z Z (aa ?_))));have ei:i=n:=by omega
   have hz:=(H5.dtake 2);rw [ei,z9] at hz;refine ⟨(j+1,_),⟨Z,Z,Z,Z,Z,Z,trivial⟩,⟨hz,ω⟩,θ⟩
 ·refine aI (ac ?_);have ej:j=n:=by omega
  have HB:=H3;rw [ej,show trF (hv n hs 0) n n 0=ue n hs 0 from rfl] at HB;have hRm:=vW (n:=n) (h:=hs) (b:=0);have bl:=tu (n:=n) (h:=hs) (b:=0);have gl2:(jJ n p 0).length=n:=mc;refine am (sM Z Z (sV Z (au jZ Z wG Z Z (At.whole (HB.box 0 Z))) (sM Z Z (sC func347 qk Z (eP ω) (fun v3 w9 r2=>?_)))));obtain ⟨e6,r2⟩:=r2;obtain ⟨fp4,H9⟩:=HB.res e6 r2;obtain ⟨a2,k2,q2⟩:=az (H9.mine 2 Z);cases q2;refine sC func407 Ch Z (uI (H9.msees 1 Z) (H9.msees 2 Z) η ξ ω) (fun v4 w10 r3=>?_);obtain ⟨e7,sa1,sk1,rfl,r3⟩:=r3;obtain ⟨fp5,H10⟩:=H9.res e7 r3;refine sR 5 Z (aa (ab (sR 2 Z (rN hQ results353 Z ?_))));exact ⟨H10.ext,H10.out 3 Z⟩
theorem pN {w:World}{n hsC:Nat}{p:Int}{hs:List Int}{hsA:Option Addr}(hsS:Sees w [.slice hsA hs.length hsC] hs) (hn:1≤n∧n≤100) (hl:hs.length=n) (hr:∀ i,i<n→0≤hs.getD i 0∧hs.getD i 0≤500) (hp:0≤p∧p≤500):Ret Tryz.prog 441 #[.int .i64 n,.slice hsA hs.length hsC,.int .i64 p,.int .i64 0] w fun v w'=>Ext No w w'∧(Res w w' [v] (betw n hs p 0)):=by
 obtain ⟨hsF,hsO⟩:=hsS;refine aF func441 Z ntmps441 Z (fun Q hQ hN=>?_);have H0:=Sep.start (ae hsO aA);refine ab (sA Z Z (aa (ab (sM Z Z (hX aj Z b0 bB (zF (α:=UInt8)) Z ω (by unfold maxLen; omega) H0 (fun b1 w1 e1 g1 H1=>sA Z Z (aa (ac (ab (sA Z Z (aa (an (bg (γ:=Nat × List Nat) (fun (j,f)=>[(0,.int .i64 n),(1,.slice hsA hs.length hsC),(2,.int .i64 p),(3,.int .i64 0),(9,.slice (some ⟨b1,0,none⟩) n n),(10,.int .i64 j)]) (fun (j,f) w'=>Sep No w [mine [.slice (some ⟨b1,0,none⟩) n n] (trF (hv n hs 0) n j 0) f] [seen false [.slice hsA hs.length hsC] hs hsF] w'∧j≤n) (fun (j,f)=>n-j) (0,_) ⟨Z,Z,Z,Z,Z,Z,trivial⟩ ⟨by rw [zW]; exact H1,ω⟩ (fun (j,f) w2 H2=>?_))))))))))))));obtain ⟨H2,hj0⟩:=H2;refine ac (ab (sR 3 Z (aa (aB Z (fun c1=>?_) (fun c1=>?_)))))
 ·refine ak (ac (an (ac ?_)));have hj:=hr j ω;have gl:(jJ n (hs.getD j 0) 0).length=n:=mc;obtain ⟨eb1,eo1,ee1,ec1⟩:=cr (H2.seen 0 Z) j ω;have eI1:=cA (H2.seen 0 Z) j ω;refine am (sR 3 Z (sV Z (ay bp ts2 Z Z ee1 j ω ω) (sV Z (ag tu2 Z Z ec1) (sM Z Z (sC func336 qi Z (jW ω) (fun v1 w3 r1=>?_))))));obtain ⟨e2,r1⟩:=r1;obtain ⟨fp1,H3⟩:=H2.res e2 r1;obtain ⟨a1,k1,q1⟩:=az (H3.mine 1 Z);cases q1;refine sA Z Z (aa (ac ?_));have HS:=H3.share 1 Z
  try dsimp only[lNA,lCA,lSZ,lSS] at HS
  refine am (sA Z Z (aa (an (bg (γ:=Nat × List Nat) (fun (i,f2)=>[(0,.int .i64 n),(1,.slice hsA hs.length hsC),(2,.int .i64 p),(3,.int .i64 0),(9,.slice (some ⟨b1,0,none⟩) n n),(10,.int .i64 j),(11,.slice a1 (jJ n (hs.getD j 0) 0).length k1),(12,.int .i64 i)]) (fun (i,f2) w'=>Sep No w [mine [.slice (some ⟨b1,0,none⟩) n n] (trF (hv n hs 0) n j i) f2] _ w'∧i≤n) (fun (i,f2)=>n-i) (0,_) ⟨Z,Z,Z,Z,Z,Z,Z,Z,trivial⟩ ⟨(HS.dtake 1),ω⟩ (fun (i,f2) w4 H4=>?_)))));obtain ⟨H4,hi⟩:=H4;refine ac (ab (sR 3 Z (aa (aB Z (fun c2=>?_) (fun c2=>?_)))))
  ·refine ak (ac (an ?_));have e6:((trF (hv n hs 0) n j i).getD i []).length=j:=by rw [uU ω]; simp
   obtain ⟨eb2,eo2,eB1,eS1,eF1,eG1,ef1,ea1,ek1,ee2,eN1,ec2,nbef1,eH1⟩:=H4.unhook 0 Z i (by rw [u4]; omega)
   try dsimp only[lNA,lCA,lSZ,lSS] at eH1
   obtain ⟨eb3,eo3,ee3,ec3,em1⟩:=sT (eH1.seen 1 Z) i ω;refine bH (S:=Ext (· ∈ ef1) _) (oQ [1,3,5,7,9,11,13,15,17,19,20,22,25,26]) κ κ κ Z (fun _=>Ext.refl.drawn _) (fun q2=>?_);have H5:=eH1.drawn q2;refine dR 4 Z (dV Z Z (fun zw hx=>ay b0 aY Z Z ee2 i ω ω) (dV Z Z (fun zw hx=>ag aP Z Z (hx.cellM nbef1 ec2)) (dR 2 Z (dV Z Z (fun zw hx=>ay aP ts5 Z Z ee3 i ω ω) (dV Z Z (fun zw hx=>ag tu5 Z Z (hx.cellM (H5.off 1 Z 1 Z em1) ec3)) (dS Z aj Z aP bj Z Z Z Z H5 (fun _ h e=>h.trans e.no) (fun b2 w5 e3 g2 H6=>GF Z aj Z aP bj Z Z Z H6 1 2 Z Z fH (by unfold maxLen; omega) ω (fun _ h e=>h.trans e) (fun v2 w6 fp2 H7=>dV Z Z (fun zw hx=>ay b0 aY Z Z ee2 i ω ω) (JA Z aj aY H7 0 1 Z Z Z eN1 Z Z (fun w7 fp3 H8=>?_))))))))))
   try dsimp only[lNA,lCA,lSZ,lSS] at H8
   refine aU (am (sM Z Z (sV Z (aC Z Z iO) (sA Z Z (aa ?_)))));have hz:=(H8.dtake 1);rw [show (jJ n (hs.getD j 0) 0).getD i 0=(hv n hs 0 j).getD i 0 from rfl,AR ω] at hz;refine ⟨(i+1,_),⟨Z,Z,Z,Z,Z,Z,Z,Z,trivial⟩,⟨hz,ω⟩,θ⟩
  ·refine aI (am (sM Z Z (sV Z (aC Z Z iO) (sA Z Z (aa ?_)))));have ei:i=n:=by omega
   have hz:=(H4.ftake 1);rw [ei,z9] at hz;refine ⟨(j+1,_),⟨Z,Z,Z,Z,Z,Z,trivial⟩,⟨hz,ω⟩,θ⟩
 ·refine aI (ac ?_);have ej:j=n:=by omega
  have HB:=H2;rw [ej,show trF (hv n hs 0) n n 0=ue n hs 0 from rfl] at HB;have hRm:=vW (n:=n) (h:=hs) (b:=0);have bl:=tu (n:=n) (h:=hs) (b:=0);have gl2:(jJ n p 0).length=n:=mc;refine am (sR 4 Z (sC func336 qi Z (jW ω) (fun v3 w8 r2=>?_)));obtain ⟨e5,r2⟩:=r2;obtain ⟨fp4,H9⟩:=HB.res e5 r2;obtain ⟨a2,k2,q3⟩:=az (H9.mine 1 Z);cases q3;refine sC func450 Cs Z (sB (H9.msees 0 Z) (H9.msees 1 Z) η ξ ω) (fun v4 w9 r3=>?_);obtain ⟨e6,sa1,sk1,rfl,r3⟩:=r3;obtain ⟨fp5,H10⟩:=H9.res e6 r3;refine sR 5 Z (aa (ab (sR 2 Z (rN hQ results441 Z ?_))));exact ⟨H10.ext,H10.out 2 Z⟩
end Go.Wk
namespace Go.Wk
open Go.Proofs Rp Go.Proofs.Tryz
set_option maxRecDepth 10000
theorem jz {w:World}{xs:List Int}{xsA:Option Addr}{xsC:Nat}(xsS:Sees w [.slice xsA xs.length xsC] xs):Ret Tryz.prog 133 #[.slice xsA xs.length xsC] w fun v w'=>Ext No w w'∧(v = .int .i64 xs.length):=by
 have xsL:=sL xsS;obtain ⟨xsF,xsO⟩:=xsS;refine aF func133 Z ntmps133 Z (fun Q hQ hN=>?_);have H0:=Sep.start (ae xsO aA);refine ab (sA Z Z (aa (ab (sM Z Z (sV Z (aE bp Z) (rA hQ results133 Z ?_))))));exact ⟨H0.ext,Z⟩
end Go.Wk
namespace Go.Wk
def ivT:List (UInt8 × UInt8):=[(1,1),(23,102),(27,128),(29,131),(84,129),(128,27),(129,84),(130,161),(131,29),(143,245),(161,130),(225,63),(239,106)]
set_option maxRecDepth 100000 in
theorem JQ:(ivT.all fun e=>decide (oI e.1=e.2))=true:=by decide +kernel
def ivL (p:UInt8):UInt8:=match ivT.find? (fun e=>decide (e.1=p)) with
  | some e=>e.2
  | none=>oI p
theorem GB:ivL=oI:=by
  funext p
  unfold ivL
  split
  · rename_i e he
    have h1:=List.find?_some he
    have h2:=List.mem_of_find?_eq_some he
    have h3:=List.all_eq_true.1 JQ e h2
    simp only [decide_eq_true_eq] at h1 h3
    rw [← h1,h3]
  · rfl
def Kf (iv:UInt8→UInt8) (m:Mat) (c r a:Nat):Mat:=(m.set a (m.getD r [])).set r (dd (m.getD a []) (iv (entry m a c)))
def Jw (iv:UInt8→UInt8) (m:Mat) (c r:Nat):Mat × Nat:=if m.length≤mj m c r then (m,r) else (cU (Kf iv m c r (mj m c r)) c r m.length,r+1)
def Az (iv:UInt8→UInt8) (m:Mat):Nat→Mat × Nat
  | 0=>(m,0)
  | c+1=>Jw iv (Az iv m c).1 c (Az iv m c).2
theorem Fn (m:Mat):∀ n,Az oI m n=redM m n
  | 0=>rfl
  | n+1=>by rw [Az,redM,Fn m n]; rfl
def zO (iv:UInt8→UInt8):Nat→Mat × Nat→List (Mat × Nat)→Bool
  | _,_,[]=>true
  | c,m,x::t=>decide (Jw iv m.1 c m.2=x) && zO iv (c+1) x t
theorem Bf {iv:UInt8→UInt8}{A:Mat}:∀ {l:List (Mat × Nat)}{c:Nat}{m:Mat × Nat},Az iv A c=m→zO iv c m l=true→Az iv A (c+l.length)=l.getLastD m
  | [],_,_,h,_=>h
  | x::t,c,m,h,hc=>by
    unfold zO at hc
    simp only [Bool.and_eq_true,decide_eq_true_eq] at hc
    have h2:Az iv A (c+1)=x:=by rw [Az,h]; exact hc.1
    have:=Bf (l:=t) (c:=c+1) h2 hc.2
    rw [show c+(x::t).length=c+1+t.length by simp; omega,this]
    cases t<;>rfl
def JR (iv:UInt8→UInt8) (n:Nat) (p:Int) (i:Nat):UInt8:=if (n:Int)≤p then iv (s9 (128+(0+p-n)) ^^^ s9 i) else if (i:Int)=p then 1 else 0
def Kt (iv:UInt8→UInt8) (n:Nat) (p:Int):List UInt8:=(List.range n).map (JR iv n p)
structure Way where
  n:Nat
  hs:List Int
  x:Int
  g:List UInt8
  m:Mat
  steps:List (Mat × Nat)
  w:List UInt8
def Way.ok (iv:UInt8→UInt8) (e:Way):Bool:=
  decide (Kt iv e.n e.x=e.g) && decide (trF (fun t=>Kt iv e.n (e.hs.getD t 0)) e.n e.n 0=e.m) && zO iv 0 (aug e.m e.g,0) e.steps && decide (e.steps.length=e.n) && decide (e.m.length=e.n) &&
    decide (e.n≤(e.steps.getLastD (aug e.m e.g,0)).2) && decide (p8 (e.steps.getLastD (aug e.m e.g,0)).1 e.n e.n=e.w)
theorem Way.fact {e:Way}(h:e.ok ivL=true):betw e.n e.hs e.x 0=e.w:=by
  rw [GB] at h
  unfold Way.ok at h
  simp only [Bool.and_eq_true,decide_eq_true_eq] at h
  obtain ⟨⟨⟨⟨⟨⟨h1,h2⟩,h3⟩,h4⟩,h5⟩,h6⟩,h7⟩:=h
  have hc:=Bf (A:=aug e.m e.g) (c:=0) rfl h3
  rw [Nat.zero_add,h4,Fn] at hc
  have e1:ue e.n e.hs 0=e.m:=h2
  have e2:jJ e.n e.x 0=e.g:=h1
  rw [betw,e1,e2]
  have h8:¬ (redM (aug e.m e.g) e.m.length).2<e.m.length:=by
    rw [h5,hc]; exact Nat.not_lt.2 h6
  rw [(zQ h8).2,h5,hc]
  exact h7
def ways:List Way:=[
  ⟨1,[0],0,[1],[[1]],[([[1,1]],1)],[1]⟩,
  ⟨1,[0],1,[27],[[1]],[([[1,27]],1)],[27]⟩,
  ⟨1,[0],2,[84],[[1]],[([[1,84]],1)],[84]⟩,
  ⟨1,[1],0,[1],[[27]],[([[1,128]],1)],[128]⟩,
  ⟨1,[1],1,[27],[[27]],[([[1,1]],1)],[1]⟩,
  ⟨1,[1],2,[84],[[27]],[([[1,85]],1)],[85]⟩,
  ⟨1,[2],0,[1],[[84]],[([[1,129]],1)],[129]⟩,
  ⟨1,[2],1,[27],[[84]],[([[1,26]],1)],[26]⟩,
  ⟨1,[2],2,[84],[[84]],[([[1,1]],1)],[1]⟩,
  ⟨2,[0,1],0,[1,0],[[1,0],[0,1]],[([[1,0,1],[0,1,0]],1),([[1,0,1],[0,1,0]],2)],[1,0]⟩,
  ⟨2,[0,1],1,[0,1],[[1,0],[0,1]],[([[1,0,0],[0,1,1]],1),([[1,0,0],[0,1,1]],2)],[0,1]⟩,
  ⟨2,[0,1],2,[27,84],[[1,0],[0,1]],[([[1,0,27],[0,1,84]],1),([[1,0,27],[0,1,84]],2)],[27,84]⟩,
  ⟨2,[0,1],3,[84,27],[[1,0],[0,1]],[([[1,0,84],[0,1,27]],1),([[1,0,84],[0,1,27]],2)],[84,27]⟩,
  ⟨2,[0,2],0,[1,0],[[1,27],[0,84]],[([[1,27,1],[0,84,0]],1),([[1,0,1],[0,1,0]],2)],[1,0]⟩,
  ⟨2,[0,2],1,[0,1],[[1,27],[0,84]],[([[1,27,0],[0,84,1]],1),([[1,0,26],[0,1,129]],2)],[26,129]⟩,
  ⟨2,[0,2],2,[27,84],[[1,27],[0,84]],[([[1,27,27],[0,84,84]],1),([[1,0,0],[0,1,1]],2)],[0,1]⟩,
  ⟨2,[0,2],3,[84,27],[[1,27],[0,84]],[([[1,27,84],[0,84,27]],1),([[1,0,23],[0,1,26]],2)],[23,26]⟩,
  ⟨2,[0,3],0,[1,0],[[1,84],[0,27]],[([[1,84,1],[0,27,0]],1),([[1,0,1],[0,1,0]],2)],[1,0]⟩,
  ⟨2,[0,3],1,[0,1],[[1,84],[0,27]],[([[1,84,0],[0,27,1]],1),([[1,0,85],[0,1,128]],2)],[85,128]⟩,
  ⟨2,[0,3],2,[27,84],[[1,84],[0,27]],[([[1,84,27],[0,27,84]],1),([[1,0,143],[0,1,85]],2)],[143,85]⟩,
  ⟨2,[0,3],3,[84,27],[[1,84],[0,27]],[([[1,84,84],[0,27,27]],1),([[1,0,0],[0,1,1]],2)],[0,1]⟩,
  ⟨2,[1,2],0,[1,0],[[0,27],[1,84]],[([[1,84,0],[0,27,1]],1),([[1,0,85],[0,1,128]],2)],[85,128]⟩,
  ⟨2,[1,2],1,[0,1],[[0,27],[1,84]],[([[1,84,1],[0,27,0]],1),([[1,0,1],[0,1,0]],2)],[1,0]⟩,
  ⟨2,[1,2],2,[27,84],[[0,27],[1,84]],[([[1,84,84],[0,27,27]],1),([[1,0,0],[0,1,1]],2)],[0,1]⟩,
  ⟨2,[1,2],3,[84,27],[[0,27],[1,84]],[([[1,84,27],[0,27,84]],1),([[1,0,143],[0,1,85]],2)],[143,85]⟩,
  ⟨2,[1,3],0,[1,0],[[0,84],[1,27]],[([[1,27,0],[0,84,1]],1),([[1,0,26],[0,1,129]],2)],[26,129]⟩,
  ⟨2,[1,3],1,[0,1],[[0,84],[1,27]],[([[1,27,1],[0,84,0]],1),([[1,0,1],[0,1,0]],2)],[1,0]⟩,
  ⟨2,[1,3],2,[27,84],[[0,84],[1,27]],[([[1,27,84],[0,84,27]],1),([[1,0,23],[0,1,26]],2)],[23,26]⟩,
  ⟨2,[1,3],3,[84,27],[[0,84],[1,27]],[([[1,27,27],[0,84,84]],1),([[1,0,0],[0,1,1]],2)],[0,1]⟩,
  ⟨2,[2,3],0,[1,0],[[27,84],[84,27]],[([[1,85,128],[0,143,85]],1),([[1,0,245],[0,1,102]],2)],[245,102]⟩,
  ⟨2,[2,3],1,[0,1],[[27,84],[84,27]],[([[1,85,0],[0,143,1]],1),([[1,0,102],[0,1,245]],2)],[102,245]⟩,
  ⟨2,[2,3],2,[27,84],[[27,84],[84,27]],[([[1,85,1],[0,143,0]],1),([[1,0,1],[0,1,0]],2)],[1,0]⟩,
  ⟨2,[2,3],3,[84,27],[[27,84],[84,27]],[([[1,85,85],[0,143,143]],1),([[1,0,0],[0,1,1]],2)],[0,1]⟩,
  ⟨3,[0,1,2],0,[1,0,0],[[1,0,0],[0,1,0],[0,0,1]],[([[1,0,0,1],[0,1,0,0],[0,0,1,0]],1),([[1,0,0,1],[0,1,0,0],[0,0,1,0]],2),([[1,0,0,1],[0,1,0,0],[0,0,1,0]],3)],[1,0,0]⟩,
  ⟨3,[0,1,2],1,[0,1,0],[[1,0,0],[0,1,0],[0,0,1]],[([[1,0,0,0],[0,1,0,1],[0,0,1,0]],1),([[1,0,0,0],[0,1,0,1],[0,0,1,0]],2),([[1,0,0,0],[0,1,0,1],[0,0,1,0]],3)],[0,1,0]⟩,
  ⟨3,[0,1,2],2,[0,0,1],[[1,0,0],[0,1,0],[0,0,1]],[([[1,0,0,0],[0,1,0,0],[0,0,1,1]],1),([[1,0,0,0],[0,1,0,0],[0,0,1,1]],2),([[1,0,0,0],[0,1,0,0],[0,0,1,1]],3)],[0,0,1]⟩,
  ⟨3,[0,1,2],3,[27,84,161],[[1,0,0],[0,1,0],[0,0,1]],[([[1,0,0,27],[0,1,0,84],[0,0,1,161]],1),([[1,0,0,27],[0,1,0,84],[0,0,1,161]],2),([[1,0,0,27],[0,1,0,84],[0,0,1,161]],3)],[27,84,161]⟩,
  ⟨3,[0,1,2],4,[84,27,29],[[1,0,0],[0,1,0],[0,0,1]],[([[1,0,0,84],[0,1,0,27],[0,0,1,29]],1),([[1,0,0,84],[0,1,0,27],[0,0,1,29]],2),([[1,0,0,84],[0,1,0,27],[0,0,1,29]],3)],[84,27,29]⟩,
  ⟨3,[0,1,3],0,[1,0,0],[[1,0,27],[0,1,84],[0,0,161]],[([[1,0,27,1],[0,1,84,0],[0,0,161,0]],1),([[1,0,27,1],[0,1,84,0],[0,0,161,0]],2),([[1,0,0,1],[0,1,0,0],[0,0,1,0]],3)],[1,0,0]⟩,
  ⟨3,[0,1,3],1,[0,1,0],[[1,0,27],[0,1,84],[0,0,161]],[([[1,0,27,0],[0,1,84,1],[0,0,161,0]],1),([[1,0,27,0],[0,1,84,1],[0,0,161,0]],2),([[1,0,0,0],[0,1,0,1],[0,0,1,0]],3)],[0,1,0]⟩,
  ⟨3,[0,1,3],2,[0,0,1],[[1,0,27],[0,1,84],[0,0,161]],[([[1,0,27,0],[0,1,84,0],[0,0,161,1]],1),([[1,0,27,0],[0,1,84,0],[0,0,161,1]],2),([[1,0,0,55],[0,1,0,253],[0,0,1,130]],3)],[55,253,130]⟩,
  ⟨3,[0,1,3],3,[27,84,161],[[1,0,27],[0,1,84],[0,0,161]],[([[1,0,27,27],[0,1,84,84],[0,0,161,161]],1),([[1,0,27,27],[0,1,84,84],[0,0,161,161]],2),([[1,0,0,0],[0,1,0,0],[0,0,1,1]],3)],[0,0,1]⟩,
  ⟨3,[0,1,3],4,[84,27,29],[[1,0,27],[0,1,84],[0,0,161]],[([[1,0,27,84],[0,1,84,27],[0,0,161,29]],1),([[1,0,27,84],[0,1,84,27],[0,0,161,29]],2),([[1,0,0,77],[0,1,0,229],[0,0,1,28]],3)],[77,229,28]⟩,
  ⟨3,[0,1,4],0,[1,0,0],[[1,0,84],[0,1,27],[0,0,29]],[([[1,0,84,1],[0,1,27,0],[0,0,29,0]],1),([[1,0,84,1],[0,1,27,0],[0,0,29,0]],2),([[1,0,0,1],[0,1,0,0],[0,0,1,0]],3)],[1,0,0]⟩,
  ⟨3,[0,1,4],1,[0,1,0],[[1,0,84],[0,1,27],[0,0,29]],[([[1,0,84,0],[0,1,27,1],[0,0,29,0]],1),([[1,0,84,0],[0,1,27,1],[0,0,29,0]],2),([[1,0,0,0],[0,1,0,1],[0,0,1,0]],3)],[0,1,0]⟩,
  ⟨3,[0,1,4],2,[0,0,1],[[1,0,84],[0,1,27],[0,0,29]],[([[1,0,84,0],[0,1,27,0],[0,0,29,1]],1),([[1,0,84,0],[0,1,27,0],[0,0,29,1]],2),([[1,0,0,169],[0,1,0,44],[0,0,1,131]],3)],[169,44,131]⟩,
  ⟨3,[0,1,4],3,[27,84,161],[[1,0,84],[0,1,27],[0,0,29]],[([[1,0,84,27],[0,1,27,84],[0,0,29,161]],1),([[1,0,84,27],[0,1,27,84],[0,0,29,161]],2),([[1,0,0,28],[0,1,0,18],[0,0,1,160]],3)],[28,18,160]⟩,
  ⟨3,[0,1,4],4,[84,27,29],[[1,0,84],[0,1,27],[0,0,29]],[([[1,0,84,84],[0,1,27,27],[0,0,29,29]],1),([[1,0,84,84],[0,1,27,27],[0,0,29,29]],2),([[1,0,0,0],[0,1,0,0],[0,0,1,1]],3)],[0,0,1]⟩,
  ⟨3,[0,2,3],0,[1,0,0],[[1,0,27],[0,0,84],[0,1,161]],[([[1,0,27,1],[0,0,84,0],[0,1,161,0]],1),([[1,0,27,1],[0,1,161,0],[0,0,84,0]],2),([[1,0,0,1],[0,1,0,0],[0,0,1,0]],3)],[1,0,0]⟩,
  ⟨3,[0,2,3],1,[0,1,0],[[1,0,27],[0,0,84],[0,1,161]],[([[1,0,27,0],[0,0,84,1],[0,1,161,0]],1),([[1,0,27,0],[0,1,161,0],[0,0,84,1]],2),([[1,0,0,26],[0,1,0,255],[0,0,1,129]],3)],[26,255,129]⟩,
  ⟨3,[0,2,3],2,[0,0,1],[[1,0,27],[0,0,84],[0,1,161]],[([[1,0,27,0],[0,0,84,0],[0,1,161,1]],1),([[1,0,27,0],[0,1,161,1],[0,0,84,0]],2),([[1,0,0,0],[0,1,0,1],[0,0,1,0]],3)],[0,1,0]⟩,
  ⟨3,[0,2,3],3,[27,84,161],[[1,0,27],[0,0,84],[0,1,161]],[([[1,0,27,27],[0,0,84,84],[0,1,161,161]],1),([[1,0,27,27],[0,1,161,161],[0,0,84,84]],2),([[1,0,0,0],[0,1,0,0],[0,0,1,1]],3)],[0,0,1]⟩,
  ⟨3,[0,2,3],4,[84,27,29],[[1,0,27],[0,0,84],[0,1,161]],[([[1,0,27,84],[0,0,84,27],[0,1,161,29]],1),([[1,0,27,84],[0,1,161,29],[0,0,84,27]],2),([[1,0,0,23],[0,1,0,225],[0,0,1,26]],3)],[23,225,26]⟩,
  ⟨3,[0,2,4],0,[1,0,0],[[1,0,84],[0,0,27],[0,1,29]],[([[1,0,84,1],[0,0,27,0],[0,1,29,0]],1),([[1,0,84,1],[0,1,29,0],[0,0,27,0]],2),([[1,0,0,1],[0,1,0,0],[0,0,1,0]],3)],[1,0,0]⟩,
  ⟨3,[0,2,4],1,[0,1,0],[[1,0,84],[0,0,27],[0,1,29]],[([[1,0,84,0],[0,0,27,1],[0,1,29,0]],1),([[1,0,84,0],[0,1,29,0],[0,0,27,1]],2),([[1,0,0,85],[0,1,0,38],[0,0,1,128]],3)],[85,38,128]⟩,
  ⟨3,[0,2,4],2,[0,0,1],[[1,0,84],[0,0,27],[0,1,29]],[([[1,0,84,0],[0,0,27,0],[0,1,29,1]],1),([[1,0,84,0],[0,1,29,1],[0,0,27,0]],2),([[1,0,0,0],[0,1,0,1],[0,0,1,0]],3)],[0,1,0]⟩,
  ⟨3,[0,2,4],3,[27,84,161],[[1,0,84],[0,0,27],[0,1,29]],[([[1,0,84,27],[0,0,27,84],[0,1,29,161]],1),([[1,0,84,27],[0,1,29,161],[0,0,27,84]],2),([[1,0,0,143],[0,1,0,22],[0,0,1,85]],3)],[143,22,85]⟩,
  ⟨3,[0,2,4],4,[84,27,29],[[1,0,84],[0,0,27],[0,1,29]],[([[1,0,84,84],[0,0,27,27],[0,1,29,29]],1),([[1,0,84,84],[0,1,29,29],[0,0,27,27]],2),([[1,0,0,0],[0,1,0,0],[0,0,1,1]],3)],[0,0,1]⟩,
  ⟨3,[0,3,4],0,[1,0,0],[[1,27,84],[0,84,27],[0,161,29]],[([[1,27,84,1],[0,84,27,0],[0,161,29,0]],1),([[1,0,23,1],[0,1,26,0],[0,0,225,0]],2),([[1,0,0,1],[0,1,0,0],[0,0,1,0]],3)],[1,0,0]⟩,
  ⟨3,[0,3,4],1,[0,1,0],[[1,27,84],[0,84,27],[0,161,29]],[([[1,27,84,0],[0,84,27,1],[0,161,29,0]],1),([[1,0,23,26],[0,1,26,129],[0,0,225,255]],2),([[1,0,0,245],[0,1,0,192],[0,0,1,177]],3)],[245,192,177]⟩,
  ⟨3,[0,3,4],2,[0,0,1],[[1,27,84],[0,84,27],[0,161,29]],[([[1,27,84,0],[0,84,27,0],[0,161,29,1]],1),([[1,0,23,0],[0,1,26,0],[0,0,225,1]],2),([[1,0,0,106],[0,1,0,76],[0,0,1,63]],3)],[106,76,63]⟩,
  ⟨3,[0,3,4],3,[27,84,161],[[1,27,84],[0,84,27],[0,161,29]],[([[1,27,84,27],[0,84,27,84],[0,161,29,161]],1),([[1,0,23,0],[0,1,26,1],[0,0,225,0]],2),([[1,0,0,0],[0,1,0,1],[0,0,1,0]],3)],[0,1,0]⟩,
  ⟨3,[0,3,4],4,[84,27,29],[[1,27,84],[0,84,27],[0,161,29]],[([[1,27,84,84],[0,84,27,27],[0,161,29,29]],1),([[1,0,23,23],[0,1,26,26],[0,0,225,225]],2),([[1,0,0,0],[0,1,0,0],[0,0,1,1]],3)],[0,0,1]⟩,
  ⟨3,[1,2,3],0,[1,0,0],[[0,0,27],[1,0,84],[0,1,161]],[([[1,0,84,0],[0,0,27,1],[0,1,161,0]],1),([[1,0,84,0],[0,1,161,0],[0,0,27,1]],2),([[1,0,0,85],[0,1,0,94],[0,0,1,128]],3)],[85,94,128]⟩,
  ⟨3,[1,2,3],1,[0,1,0],[[0,0,27],[1,0,84],[0,1,161]],[([[1,0,84,1],[0,0,27,0],[0,1,161,0]],1),([[1,0,84,1],[0,1,161,0],[0,0,27,0]],2),([[1,0,0,1],[0,1,0,0],[0,0,1,0]],3)],[1,0,0]⟩,
  ⟨3,[1,2,3],2,[0,0,1],[[0,0,27],[1,0,84],[0,1,161]],[([[1,0,84,0],[0,0,27,0],[0,1,161,1]],1),([[1,0,84,0],[0,1,161,1],[0,0,27,0]],2),([[1,0,0,0],[0,1,0,1],[0,0,1,0]],3)],[0,1,0]⟩,
  ⟨3,[1,2,3],3,[27,84,161],[[0,0,27],[1,0,84],[0,1,161]],[([[1,0,84,84],[0,0,27,27],[0,1,161,161]],1),([[1,0,84,84],[0,1,161,161],[0,0,27,27]],2),([[1,0,0,0],[0,1,0,0],[0,0,1,1]],3)],[0,0,1]⟩,
  ⟨3,[1,2,3],4,[84,27,29],[[0,0,27],[1,0,84],[0,1,161]],[([[1,0,84,27],[0,0,27,84],[0,1,161,29]],1),([[1,0,84,27],[0,1,161,29],[0,0,27,84]],2),([[1,0,0,143],[0,1,0,239],[0,0,1,85]],3)],[143,239,85]⟩,
  ⟨3,[1,2,4],0,[1,0,0],[[0,0,84],[1,0,27],[0,1,29]],[([[1,0,27,0],[0,0,84,1],[0,1,29,0]],1),([[1,0,27,0],[0,1,29,0],[0,0,84,1]],2),([[1,0,0,26],[0,1,0,59],[0,0,1,129]],3)],[26,59,129]⟩,
  ⟨3,[1,2,4],1,[0,1,0],[[0,0,84],[1,0,27],[0,1,29]],[([[1,0,27,1],[0,0,84,0],[0,1,29,0]],1),([[1,0,27,1],[0,1,29,0],[0,0,84,0]],2),([[1,0,0,1],[0,1,0,0],[0,0,1,0]],3)],[1,0,0]⟩,
  ⟨3,[1,2,4],2,[0,0,1],[[0,0,84],[1,0,27],[0,1,29]],[([[1,0,27,0],[0,0,84,0],[0,1,29,1]],1),([[1,0,27,0],[0,1,29,1],[0,0,84,0]],2),([[1,0,0,0],[0,1,0,1],[0,0,1,0]],3)],[0,1,0]⟩,
  ⟨3,[1,2,4],3,[27,84,161],[[0,0,84],[1,0,27],[0,1,29]],[([[1,0,27,84],[0,0,84,27],[0,1,29,161]],1),([[1,0,27,84],[0,1,29,161],[0,0,84,27]],2),([[1,0,0,23],[0,1,0,190],[0,0,1,26]],3)],[23,190,26]⟩,
  ⟨3,[1,2,4],4,[84,27,29],[[0,0,84],[1,0,27],[0,1,29]],[([[1,0,27,27],[0,0,84,84],[0,1,29,29]],1),([[1,0,27,27],[0,1,29,29],[0,0,84,84]],2),([[1,0,0,0],[0,1,0,0],[0,0,1,1]],3)],[0,0,1]⟩,
  ⟨3,[1,3,4],0,[1,0,0],[[0,27,84],[1,84,27],[0,161,29]],[([[1,84,27,0],[0,27,84,1],[0,161,29,0]],1),([[1,0,143,85],[0,1,85,128],[0,0,239,94]],2),([[1,0,0,143],[0,1,0,160],[0,0,1,103]],3)],[143,160,103]⟩,
  ⟨3,[1,3,4],1,[0,1,0],[[0,27,84],[1,84,27],[0,161,29]],[([[1,84,27,1],[0,27,84,0],[0,161,29,0]],1),([[1,0,143,1],[0,1,85,0],[0,0,239,0]],2),([[1,0,0,1],[0,1,0,0],[0,0,1,0]],3)],[1,0,0]⟩,
  ⟨3,[1,3,4],2,[0,0,1],[[0,27,84],[1,84,27],[0,161,29]],[([[1,84,27,0],[0,27,84,0],[0,161,29,1]],1),([[1,0,143,0],[0,1,85,0],[0,0,239,1]],2),([[1,0,0,95],[0,1,0,174],[0,0,1,106]],3)],[95,174,106]⟩,
  ⟨3,[1,3,4],3,[27,84,161],[[0,27,84],[1,84,27],[0,161,29]],[([[1,84,27,84],[0,27,84,27],[0,161,29,161]],1),([[1,0,143,0],[0,1,85,1],[0,0,239,0]],2),([[1,0,0,0],[0,1,0,1],[0,0,1,0]],3)],[0,1,0]⟩,
  ⟨3,[1,3,4],4,[84,27,29],[[0,27,84],[1,84,27],[0,161,29]],[([[1,84,27,27],[0,27,84,84],[0,161,29,29]],1),([[1,0,143,143],[0,1,85,85],[0,0,239,239]],2),([[1,0,0,0],[0,1,0,0],[0,0,1,1]],3)],[0,0,1]⟩,
  ⟨3,[2,3,4],0,[1,0,0],[[0,27,84],[0,84,27],[1,161,29]],[([[1,161,29,0],[0,84,27,0],[0,27,84,1]],1),([[1,0,225,0],[0,1,26,0],[0,0,23,1]],2),([[1,0,0,239],[0,1,0,245],[0,0,1,102]],3)],[239,245,102]⟩,
  ⟨3,[2,3,4],1,[0,1,0],[[0,27,84],[0,84,27],[1,161,29]],[([[1,161,29,0],[0,84,27,1],[0,27,84,0]],1),([[1,0,225,255],[0,1,26,129],[0,0,23,26]],2),([[1,0,0,65],[0,1,0,102],[0,0,1,245]],3)],[65,102,245]⟩,
  ⟨3,[2,3,4],2,[0,0,1],[[0,27,84],[0,84,27],[1,161,29]],[([[1,161,29,1],[0,84,27,0],[0,27,84,0]],1),([[1,0,225,1],[0,1,26,0],[0,0,23,0]],2),([[1,0,0,1],[0,1,0,0],[0,0,1,0]],3)],[1,0,0]⟩,
  ⟨3,[2,3,4],3,[27,84,161],[[0,27,84],[0,84,27],[1,161,29]],[([[1,161,29,161],[0,84,27,84],[0,27,84,27]],1),([[1,0,225,0],[0,1,26,1],[0,0,23,0]],2),([[1,0,0,0],[0,1,0,1],[0,0,1,0]],3)],[0,1,0]⟩,
  ⟨3,[2,3,4],4,[84,27,29],[[0,27,84],[0,84,27],[1,161,29]],[([[1,161,29,29],[0,84,27,27],[0,27,84,84]],1),([[1,0,225,225],[0,1,26,26],[0,0,23,23]],2),([[1,0,0,0],[0,1,0,0],[0,0,1,1]],3)],[0,0,1]⟩]
set_option maxRecDepth 100000 in
theorem I2:(ways.all fun e=>e.ok ivL)=true:=by decide +kernel
def wayW (n:Nat) (hs:List Int) (x:Nat):List UInt8:=match ways.find? (fun e=>decide (e.n=n) && decide (e.hs=hs) && decide (e.x=(x:Int))) with
  | some e=>e.w
  | none=>[]
def HX (n:Nat) (x:Nat):List UInt8:=match ways.find? (fun e=>decide (e.n=n) && decide (e.x=(x:Int))) with
  | some e=>e.g
  | none=>[]
def Gy (n:Nat) (hs:List Int):Bool:=
  (List.range (n+2)).all fun x=>decide (ways.find? (fun e=>decide (e.n=n) && decide (e.hs=hs) && decide (e.x=(x:Int)))≠none) && decide ((wayW n hs x).length=n) &&
    ((List.range n).all fun t=>decide (J4 (fun j=>cR ((HX n (hs.getD j 0).toNat).getD t 0) ((wayW n hs x).getD j 0)) n=(HX n x).getD t 0)) &&
    ((List.range n).all fun j=>decide (J4 (fun i=>cR ((wayW n hs i).getD j 0) ((HX n x).getD i 0)) n=(wayW n hs x).getD j 0))
end Go.Wk
namespace Go.Wk
open Rp (sz own)
set_option maxRecDepth 100000 in
theorem Iy:([1,2,3].all fun n=>(xR n).all (Gy n))=true:=by decide +kernel
theorem I8 {n s:Nat}{hs:List Int}(hn:1≤n∧n≤3) (h2:s≤2) (hr:rises hs ((n:Int)+s-1)=true) (hl:hs.length=n):hs∈xR n:=by
  rw [rises,List.all_eq_true] at hr
  have hr:∀ i,i<hs.length→gD hs ((n:Int)+s-1) i=true:=fun i hi=>hr i (by simpa using hi)
  simp only [gD,Bool.and_eq_true,Bool.or_eq_true,decide_eq_true_eq] at hr
  have hc:n=1∨n=2∨n=3:=by omega
  rcases hc with rfl | rfl | rfl
  · match hs,hl with
    | [a],_=>
      have h0:=hr 0 σ
      simp only [List.getD_cons_zero] at h0
      have:a=0∨a=1∨a=2:=by omega
      rcases this with rfl | rfl | rfl<;>simp [xR]
  · match hs,hl with
    | [a,b],_=>
      have h0:=hr 0 σ
      have h1:=hr 1 σ
      simp only [List.getD_cons_zero,List.getD_cons_succ,Nat.sub_self,Nat.one_ne_zero,false_or] at h0 h1
      have ha:a=0∨a=1∨a=2:=by omega
      have hb:b=1∨b=2∨b=3:=by omega
      rcases ha with rfl | rfl | rfl<;>rcases hb with rfl | rfl | rfl<;>first | (exfalso; omega) | simp [xR]
  · match hs,hl with
    | [a,b,c],_=>
      have h0:=hr 0 σ
      have h1:=hr 1 σ
      have h2:=hr 2 σ
      simp only [List.getD_cons_zero,List.getD_cons_succ,Nat.sub_self,Nat.one_ne_zero,false_or,Nat.succ_ne_zero,show (2:Nat)-1=1 from rfl,(by decide:¬ (2:Nat)=0)] at h0 h1 h2
      have ha:a=0∨a=1∨a=2:=by omega
      have hb:b=1∨b=2∨b=3:=by omega
      have hc:c=2∨c=3∨c=4:=by omega
      rcases ha with rfl | rfl | rfl<;>rcases hb with rfl | rfl | rfl<;>rcases hc with rfl | rfl | rfl<;>first | (exfalso; omega) | simp [xR]
theorem JE {n:Nat}{hs:List Int}(hn:1≤n∧n≤3) (h:hs∈xR n):Gy n hs=true:=by
  have h1:=List.all_eq_true.1 Iy n (by have hc:n=1∨n=2∨n=3:=(by omega); rcases hc with rfl | rfl | rfl<;>simp)
  exact List.all_eq_true.1 h1 hs h
theorem JP {n:Nat}{hs:List Int}(h:Gy n hs=true) {x:Nat}(hx:x<n+2):betw n hs x 0=wayW n hs x∧jJ n x 0=HX n x:=by
  have h1:=List.all_eq_true.1 h x (by simpa using hx)
  simp only [Bool.and_eq_true,decide_eq_true_eq] at h1
  have h2:=h1.1.1.1
  have key:∀ e∈ways,e.ok ivL=true:=List.all_eq_true.1 I2
  cases he:ways.find? (fun e=>decide (e.n=n) && decide (e.hs=hs) && decide (e.x=(x:Int))) with
  | none=>exact absurd he h2
  | some e=>
    have e1:=List.find?_some he
    simp only [Bool.and_eq_true,decide_eq_true_eq] at e1
    obtain ⟨⟨e2,e3⟩,e4⟩:=e1
    have hm:=List.mem_of_find?_eq_some he
    refine ⟨?_,?_⟩
    · have:=Way.fact (key e hm)
      rw [e2,e3,e4] at this
      rw [this,wayW,he]
    · cases hf:ways.find? (fun e=>decide (e.n=n) && decide (e.x=(x:Int))) with
      | none=>
        have:=List.find?_eq_none.1 hf e hm
        simp [e2,e4] at this
      | some f=>
        have f1:=List.find?_some hf
        simp only [Bool.and_eq_true,decide_eq_true_eq] at f1
        have hg:=key f (List.mem_of_find?_eq_some hf)
        rw [GB] at hg
        unfold Way.ok at hg
        simp only [Bool.and_eq_true,decide_eq_true_eq] at hg
        have h9:=hg.1.1.1.1.1.1
        rw [f1.1,f1.2] at h9
        rw [HX,hf]
        exact h9
section
variable {n s:Nat}{hs:List Int}{x:Int}
theorem EN (hn:1≤n∧n≤3) (h2:s≤2) (hr:rises hs ((n:Int)+s-1)=true) (hl:hs.length=n) (hx:0≤x∧x<n+2):(betw n hs x 0).length=n:=by
  obtain ⟨x,rfl⟩:∃ k:Nat,x=k:=⟨x.toNat,ω⟩
  have ht:=JE hn (I8 hn h2 hr hl)
  have hx':x<n+2:=by omega
  have h1:=List.all_eq_true.1 ht x (by simpa using hx')
  simp only [Bool.and_eq_true,decide_eq_true_eq] at h1
  rw [(JP ht hx').1]
  exact h1.1.1.2
end
section
variable {n s:Nat}{xs:List (List UInt8)}
theorem DK (hl:xs.length=n+s):rises (bG xs n xs.length) ((n:Int)+s-1)=true:=by
  have:=vc (xs:=xs) (n:=n) (k:=xs.length)
  rwa [show ((xs.length:Nat):Int)-1=(n:Int)+s-1 by omega] at this
end
end Go.Wk
namespace Go.Wk
theorem JT {n xs} (h:gS n xs=false):(bG xs n xs.length).length<n:=by
  simpa [gS] using h
theorem G1 {n xs} (h:gS n xs=true):¬ (bG xs n xs.length).length<n:=by
  simp only [gS,decide_eq_true_eq] at h; omega
theorem Hi {n xs p} (h:gS n xs=true):zJ n xs p=decAt n xs p:=(u3 (G1 h)).2.2 p
theorem JN {n xs} (h:gS n xs=true):tk n xs=rC n xs n:=(u3 (G1 h)).2.1
theorem Hf {xs:List (List UInt8)}{n k:Nat}(hk:k≤xs.length) (h:¬ ((k:Int)<xs.length)∨¬ (((bG xs n k).length:Int)<n)) :
    bG xs n xs.length=bG xs n k∧thereTo xs n xs.length=thereTo xs n k:=by
  rcases h with h | h
  · rw [show k=xs.length by omega]; exact ⟨rfl,rfl⟩
  · have:=nh (xs:=xs) (n:=n) (k:=k)
    exact F2 ω _ hk
end Go.Wk
namespace Go.Wk
open Go.Proofs Rp Go.Proofs.Tryz
set_option maxRecDepth 10000
theorem l8 {w:World}{n s:Nat}{xs:List (List UInt8)}{xsA:Option Addr}{xsC:Nat}(hn:1≤n∧n≤3∧s≤2) (hl:xs.length=n+s) (h4:Part xs) (xsS:Sees w [.slice xsA xs.length xsC] xs):Ret Tryz.prog 257 #[.agg #[.int .i64 n,.int .i64 s],.slice xsA xs.length xsC] w fun v w'=>Ext No w w'∧(∃ A C,v = .tuple #[.slice A (tk n xs).length C,.bool (gS n xs)]∧Res w w' [.slice A (tk n xs).length C] (tk n xs)):=by
 have xsL:=sL xsS;obtain ⟨xsF,xsO⟩:=xsS;refine aF func257 Z ntmps257 Z (fun Q hQ hN=>?_);have H0:=Sep.start (ae xsO aA);refine ab (bf aj Z Z H0 (fun b1 w1 e1 g1 H1=>sR 2 Z (aa (ab (cW (α:=Int) aj Z bp cE H1 (fun b2 w2 e2 g2 H2=>cW (α:=View) aj Z b0 bB H2 (fun b3 w3 e3 g3 H3=>sR 2 Z (aa (ac (ac ?_))))))))));have HR:=H3.noRows (β:=UInt8)
 try dsimp only[lNA,lCA,lSZ,lSS] at HR
 refine am (sM Z Z (sV Z (aE b0 Z) (sM Z Z (aa (an (bg (γ:=Nat × Value × List Nat × Value × List View × List Nat × List Nat) (fun (k,vo,f,vp,vs,f2,g)=>[(2,.pointer (some ⟨b1,0,none⟩)),(6,vo),(7,vp),(14,.slice xsA xs.length xsC),(15,.int .i64 xs.length),(16,.int .i64 k)]) (fun (k,vo,f,vp,vs,f2,g) w'=>Sep No w [box b1 (.cells #[.int .i64 n,.int .i64 s] 226),mine [vo] (bG xs n k) f,mine [vp] vs f2] [seen false [.slice xsA xs.length xsC] xs xsF,rows vs (thereTo xs n k) g] w'∧k≤xs.length∧vs.length=(thereTo xs n k).length) (fun (k,vo,f,vp,vs,f2,g)=>xs.length-k) (0,_,_,_,_,_,_) ⟨Z,Z,Z,Z,Z,Z,trivial⟩ ⟨HR,ω,Z⟩ (fun (k,vo,f,vp,vs,f2,g) w4 H4=>?_)))))));obtain ⟨H4,hk,vl⟩:=H4;refine ab (sV Z (aM Z Z) (aa (ac (aB Z (fun c1=>?_) (fun c1=>?_)))))
 ·refine ak (ac (an (ac ?_)));obtain ⟨eb1,eo1,ea1,ek1,ef1,ee1,ec1,eO1,eH1⟩:=cm (H4.seen 0 Z) k ω;have eP1:=H4.look1 0 Z eO1 eH1;refine am (sM Z Z (sV Z (ay b0 aY Z Z ee1 k ω ω) (sV Z (ag aP Z Z ec1) (sR 2 Z (aa (ac (bH (S:=Ext No _) (oQ [1,3,5,7,9,13,15,10,17,18]) κ κ κ Z (fun _=>Ext.refl.drawn _) (fun q1=>?_))))))));have H5:=eP1.drawn q1;refine dM Z Z Z (dV Z Z (fun zw hx=>aE aP Z) (dR 2 Z (cY (t:=24) Z (fun hg1=>?_) (fun hg1=>?_))))
  ·try simp only [decide_eq_true_eq,decide_eq_false_iff_not] at hg1
   refine aL Z (wg Z Z Z) Z Z (fun zw hx=>aG Z) (aL Z (wg Z Z Z) Z Z (fun zw hx=>ah jZ Z ts2 Z Z) (aL Z (wg Z Z Z) Z Z (fun zw hx=>ag tu2 Z Z (ao (hx.heap (H5.box 0 Z)) Z)) ?_));obtain ⟨a1,k1,q2⟩:=az (H5.mine 1 Z);cases q2;refine cF Z (wg Z Z Z) Z Z (bb func133 Z jc Z) (jz (H5.msees 1 Z)) (fun hS _ _ r _=>hS.trans r.1.no) (fun v1 w5 r1=>?_);obtain ⟨e4,rfl⟩:=r1;have H6:=H5.to e4;refine aL Z (wg Z Z Z) Z Z (fun zw hx=>aM Z Z) (aT Z aj Z Z (aO Z Z) (aU (aB Z (fun c2=>?_) (fun c2=>?_))))
   ·have tl:=iy (xs:=xs) (n:=n) (k:=k);have hl9:=nh (xs:=xs) (n:=n) (k:=k);refine am (sR 2 Z (dx aj Z bp cE Z Z Z Z H6 (fun b4 w6 e5 g4 H7=>fB aj Z bp cE Z Z Z H7 1 3 Z Z (nf (by first | assumption | (unfold I64ok; omega))) (by unfold maxLen; omega) ω (fun v2 w7 fp1 H8=>sR 2 Z (dx aj Z b0 bB Z Z Z Z H8 (fun b5 w8 e6 g5 H9=>fB (α:=View) (u:=⟨_,_,_⟩) aj Z b0 bB Z Z Z H9 2 4 Z Z ⟨Z,Z⟩ (by unfold maxLen; omega) ω (fun v3 w9 fp2 H10=>?_)))))))
    try dsimp only[lNA,lCA,lSZ,lSS] at H10
    obtain ⟨rg1,H11,rh1⟩:=H10.rowApp 1 2 Z Z ξ
    try dsimp only[lNA,lCA,lSZ,lSS] at H11
    refine sR 2 Z (aa (am (sV Z (aC Z Z iO) (sM Z Z (aa ?_)))));have hy:=iU (xs:=xs) (n:=n) (k:=k) ⟨ω,ω⟩;have hz:=((H11.ftake 2).dtake 3);rw [← hy.1,← hy.2] at hz;refine ⟨(k+1,_,_,_,_,_,_),⟨Z,Z,Z,Z,Z,Z,trivial⟩,⟨hz,ω,(by rw [hy.2,List.length_append,List.length_append]; simp only [List.length_cons,List.length_nil]; omega)⟩,θ⟩
   ·refine ak (am (sV Z (aC Z Z iO) (sM Z Z (aa ?_))));have hy:=iJ (xs:=xs) (n:=n) (k:=k) ω;have hz:=(H6.ftake 2);refine ⟨(k+1,_,_,_,_,_,_),⟨Z,Z,Z,Z,Z,Z,trivial⟩,⟨(by rw [hy.1,hy.2]; exact hz),ω,(by rw [hy.2]; exact vl)⟩,θ⟩
  ·try simp only [decide_eq_true_eq,decide_eq_false_iff_not] at hg1
   refine dR 5 Z (aT Z aj Z Z (aW Z Z) (aU (jA Z (ak (am (sV Z (aC Z Z iO) (sM Z Z (aa ?_))))))));have hy:=iJ (xs:=xs) (n:=n) (k:=k) ω;have hz:=(H5.ftake 2);refine ⟨(k+1,_,_,_,_,_,_),⟨Z,Z,Z,Z,Z,Z,trivial⟩,⟨(by rw [hy.1,hy.2]; exact hz),ω,(by rw [hy.2]; exact vl)⟩,θ⟩
 ·refine aI (ac (ac ?_));obtain rfl:k=xs.length:=by omega
  have hl8:=nh (xs:=xs) (n:=n) (k:=xs.length);refine bH (S:=Ext No _) (oQ [1,5,7,2,8]) κ κ κ Z (fun _=>Ext.refl.drawn _) (fun q3=>?_);have H12:=H4.drawn q3;refine dM Z Z Z (dV Z Z (fun zw hx=>ah jZ Z ts2 Z Z) (dV Z Z (fun zw hx=>ag tu2 Z Z (ao (hx.heap (H12.box 0 Z)) Z)) ?_));obtain ⟨a2,k2,q4⟩:=az (H12.mine 1 Z);cases q4;refine dC func133 jc Z (jz (H12.msees 1 Z)) (fun v4 w10 r2=>?_);obtain ⟨e7,rfl⟩:=r2;have H13:=H12.to e7;refine aT Z aj Z Z (aM Z Z) (aU (aB Z (fun c3=>?_) (fun c3=>?_)))
  ·refine ab (sR 2 Z (aa (bR (hQ _ _ (pH results257 Z Z ?_)))));obtain ⟨e1,e2,_⟩:=DJ (xs:=xs) (n:=n) ω;exact ⟨H13.ext,none,0,(by rw [e1,e2]; rfl),(by rw [e2]; exact ⟨[],.inr (.inl ⟨Z,Z,Z⟩),.nil,σ⟩)⟩
  ·refine ak (ac ?_);have tl:=iy (xs:=xs) (n:=n) (k:=xs.length);have hl9:=nh (xs:=xs) (n:=n) (k:=xs.length);obtain ⟨pA,pC,pq⟩:=az (H13.mine 2 Z);rw [vl] at pq;cases pq;obtain ⟨tf,HV,_⟩:=H13.viewsIn 2 1 Z Z vl
   try dsimp only[lNA,lCA,lSZ,lSS] at HV
   have hh:(bG xs n xs.length).length=n:=by omega
   have hth:(thereTo xs n xs.length).length=n:=by omega
   have ht4:=Cr (n:=n) h4;have hra:∀ i,i<n→0≤(bG xs n xs.length).getD i 0∧(bG xs n xs.length).getD i 0≤500:=fun i hi=>by have:=nv (xs:=xs) (n:=n) (k:=xs.length) i ω; omega
   have hrz:rises (bG xs n xs.length) ((n:Int)+s-1)=true:=by have:=vc (xs:=xs) (n:=n) (k:=xs.length); rwa [show ((xs.length:Nat):Int)-1=(n:Int)+s-1 by omega] at this
   refine am (cW (α:=UInt8) aj Z aP bj HV (fun b6 w11 e8 g6 H14=>sA Z Z (aa (ac (ab (sF jZ Z ts2 (sLd tu2 (H14.box 0 Z) Z (sM Z Z (aa (an (bg (γ:=Nat × Value × List Nat) (fun (i,vo,f3)=>[(2,.pointer (some ⟨b1,0,none⟩)),(6,.slice a2 (bG xs n xs.length).length k2),(7,.slice pA (thereTo xs n xs.length).length pC),(10,vo),(47,.int .i64 n),(48,.int .i64 i)]) (fun (i,vo,f3) w'=>Sep No w [box b1 (.cells #[.int .i64 n,.int .i64 s] 226),mine [.slice a2 (bG xs n xs.length).length k2] (bG xs n xs.length) f,gone,mine [vo] (rC n xs i) f3] _ w'∧i≤n) (fun (i,vo,f3)=>n-i) (0,_,_) ⟨Z,Z,Z,Z,Z,Z,trivial⟩ ⟨H14,ω⟩ (fun (i,vo,f3) w12 H15=>?_))))))))))));obtain ⟨H15,hi⟩:=H15;refine ab (sV Z (aM Z Z) (aa (ac (aB Z (fun c4=>?_) (fun c4=>?_)))))
   ·refine ak (ac (an (ab (sR 2 Z (aa ?_)))));have bl:=EN (n:=n) (s:=s) (hs:=(bG xs n xs.length)) (x:=(i:Int)) ω ω hrz ω ω;have ml:=ky (cs:=betw n (bG xs n xs.length) i 0) ht4 (k:=(thereTo xs n xs.length).length) (Nat.le_refl _);have dl:=pc (n:=n) h4 i;refine am (sR 2 Z (sV Z (au jZ Z wG Z Z (At.whole (H15.box 0 Z))) (sR 2 Z (sC func353 Ei Z (lp (H15.msees 1 Z) ω ξ η ξ) (fun v5 w13 r3=>?_)))));obtain ⟨e9,r3⟩:=r3;obtain ⟨fp3,H16⟩:=H15.res e9 r3;obtain ⟨a3,k3,q5⟩:=az (H16.mine 4 Z);cases q5;refine sC func294 wU Z (nS (H16.sees 2 Z) (H16.msees 4 Z) ω ω η ω) (fun v6 w14 r4=>?_);obtain ⟨e10,r4⟩:=r4;obtain ⟨fp4,H17⟩:=H16.res e10 r4;obtain ⟨a4,k4,q6⟩:=az (H17.mine 5 Z);cases q6;refine kY aj Z aP bj Z Z Z H17 3 Z (H17.mine 5 Z) (by (try simp only [List.length_nil]); unfold maxLen; omega) (by (try simp only [List.length_nil]); omega) (fun v7 w15 fp5 H18=>sA Z Z (aa (am (sV Z (aC Z Z iO) (sM Z Z (aa ?_))))));have hz:=(H18.dtake 4);rw [ra] at hz;refine ⟨(i+1,_,_),⟨Z,Z,Z,Z,Z,Z,trivial⟩,⟨hz,ω⟩,θ⟩
   ·refine aI (ab (sR 3 Z (aa (bR (hQ _ _ (pH results257 Z Z ?_))))));obtain rfl:n=i:=by omega
    obtain ⟨e1,e2,_⟩:=u3 (xs:=xs) (n:=n) ω;obtain ⟨qa,qc,qq⟩:=az (H15.mine 3 Z);cases qq;exact ⟨H15.ext,qa,qc,(by rw [e1,e2]),(by rw [e2]; exact H15.out 3 Z)⟩
theorem rO {w:World}{n s:Nat}{p:Int}{xs:List (List UInt8)}{xsA:Option Addr}{xsC:Nat}(hn:1≤n∧n≤3∧s≤2) (hl:xs.length=n+s) (h4:Part xs) (hp:0≤p∧p≤(n:Int)+s-1) (xsS:Sees w [.slice xsA xs.length xsC] xs):Ret Tryz.prog 400 #[.int .i64 n,.slice xsA xs.length xsC,.int .i64 p] w fun v w'=>Ext No w w'∧(∃ A C,v = .tuple #[.slice A (zJ n xs p).length C,.bool (gS n xs)]∧Res w w' [.slice A (zJ n xs p).length C] (zJ n xs p)):=by
 have xsL:=sL xsS;obtain ⟨xsF,xsO⟩:=xsS;refine aF func400 Z ntmps400 Z (fun Q hQ hN=>?_);have H0:=Sep.start (ae xsO aA);refine ab (sR 2 Z (aa (ab (cW (α:=Int) aj Z bp cE H0 (fun b1 w1 e1 g1 H1=>sA Z Z (aa (ab (cW (α:=View) aj Z b0 bB H1 (fun b2 w2 e2 g2 H2=>sA Z Z (aa (ac (ac ?_))))))))))));have HR:=H2.noRows (β:=UInt8)
 try dsimp only[lNA,lCA,lSZ,lSS] at HR
 refine am (sA Z Z (aa (an (bg (γ:=Nat × Value × List Nat × Value × List View × List Nat × List Nat) (fun (k,vo,f,vp,vs,f2,g)=>[(0,.int .i64 n),(1,.slice xsA xs.length xsC),(2,.int .i64 p),(8,vo),(9,vp),(10,.int .i64 k)]) (fun (k,vo,f,vp,vs,f2,g) w'=>Sep No w [mine [vo] (bG xs n k) f,mine [vp] vs f2] [seen false [.slice xsA xs.length xsC] xs xsF,rows vs (thereTo xs n k) g] w'∧k≤xs.length∧vs.length=(thereTo xs n k).length) (fun (k,vo,f,vp,vs,f2,g)=>xs.length-k) (0,_,_,_,_,_,_) ⟨Z,Z,Z,Z,Z,Z,trivial⟩ ⟨HR,ω,Z⟩ (fun (k,vo,f,vp,vs,f2,g) w3 H3=>?_)))));obtain ⟨H3,hk,vl⟩:=H3;refine ac (ac ?_);obtain ⟨a1,k1,q1⟩:=az (H3.mine 0 Z);cases q1;refine am (sR 2 Z (sV Z (aE b0 Z) (sR 2 Z (bz 4 (j:=4) (want:=true) (t:=21) Z Z Z Z (fun hg1 kk1=>ax (wgE Z Z Z hg1) Z Z (aG Z) (ax (wgE Z Z Z hg1) Z Z (aE bp Z) (ax (wgE Z Z Z hg1) Z Z (aG Z) (ax (wgE Z Z Z hg1) Z Z (aM Z Z) (kk1 _ _ (kx Z (kx Z (kx Z (kx Z k0)))) Z Ext.refl))))) (fun w4 e3=>?_)))));have H4:=H3.to e3;refine sV Z (bi Z Z) (aa (bJ Z (fun c1=>?_) (fun c1=>?_)))
 ·simp only [Bool.and_eq_true,decide_eq_true_eq] at c1;refine ak (ac (an (ac ?_)));obtain ⟨eb1,eo1,ea1,ek1,ef1,ee1,ec1,eO1,eH1⟩:=cm (H4.seen 0 Z) k ω;have eP1:=H4.look1 0 Z eO1 eH1;refine am (sR 2 Z (sV Z (ay b0 aY Z Z ee1 k ω ω) (sV Z (ag aP Z Z ec1) (sV Z (aE aP Z) (sV Z (er Z Z) (aa (aB Z (fun c2=>?_) (fun c2=>?_))))))))
  ·refine ac ?_;have tl:=iy (xs:=xs) (n:=n) (k:=k);have hl9:=nh (xs:=xs) (n:=n) (k:=k);refine am (sR 2 Z (dx aj Z bp cE Z Z Z Z eP1 (fun b3 w5 e4 g3 H5=>fB aj Z bp cE Z Z Z H5 0 2 Z Z (nf (by first | assumption | (unfold I64ok; omega))) (by unfold maxLen; omega) ω (fun v1 w6 fp1 H6=>sA Z Z (aa ?_)))));obtain ⟨eb2,eo2,ea2,ek2,ef2,ee2,ec2,eO2,eH2⟩:=cm (H6.seen 0 Z) k ω;have eP2:=H6.look1 0 Z eO2 eH2;refine am (sR 3 Z (sV Z (ay b0 aY Z Z ee2 k ω ω) (sV Z (ag aP Z Z ec2) (dx aj Z b0 bB Z Z Z Z eP2 (fun b4 w7 e5 g4 H7=>fB (α:=View) (u:=⟨_,_,_⟩) aj Z b0 bB Z Z Z H7 1 3 Z Z ⟨Z,Z⟩ (by unfold maxLen; omega) ω (fun v2 w8 fp2 H8=>?_))))))
   try dsimp only[lNA,lCA,lSZ,lSS] at H8
   obtain ⟨rg1,H9,rh1⟩:=H8.rowApp 1 3 Z Z ξ
   try dsimp only[lNA,lCA,lSZ,lSS] at H9
   refine sA Z Z (aa (am (sM Z Z (sV Z (aC Z Z iO) (sA Z Z (aa ?_))))));have hy:=iU (xs:=xs) (n:=n) (k:=k) ⟨ω,ω⟩;have hz:=((H9.ftake 2).dtake 2);rw [← hy.1,← hy.2] at hz;refine ⟨(k+1,_,_,_,_,_,_),⟨Z,Z,Z,Z,Z,Z,trivial⟩,⟨hz,ω,(by rw [hy.2,List.length_append,List.length_append]; simp only [List.length_cons,List.length_nil]; omega)⟩,θ⟩
  ·refine ak (am (sM Z Z (sV Z (aC Z Z iO) (sA Z Z (aa ?_)))));have hy:=iJ (xs:=xs) (n:=n) (k:=k) ω;have hz:=(eP1.ftake 2);refine ⟨(k+1,_,_,_,_,_,_),⟨Z,Z,Z,Z,Z,Z,trivial⟩,⟨(by rw [hy.1,hy.2]; exact hz),ω,(by rw [hy.2]; exact vl)⟩,θ⟩
 ·simp only [Bool.and_eq_false_iff,decide_eq_false_iff_not] at c1;have hend:=Hf hk c1;refine aI (ac (ab (sM Z Z (sV Z (aE bp Z) (sR 2 Z (aa (aB Z (fun c3=>?_) (fun c3=>?_))))))))
  ·refine ab (sR 2 Z (aa (bR (hQ _ _ (pH results400 Z Z ?_)))));obtain ⟨e1,_,e2⟩:=DJ (xs:=xs) (n:=n) (by rw [hend.1]; omega);exact ⟨H4.ext,none,0,(by rw [e1,e2]; rfl),(by rw [e2]; exact ⟨[],.inr (.inl ⟨Z,Z,Z⟩),.nil,σ⟩)⟩
  ·refine ak (ac ?_);have hl9:=nh (xs:=xs) (n:=n) (k:=k);have tl:=iy (xs:=xs) (n:=n) (k:=k);obtain ⟨pA,pC,pq⟩:=az (H4.mine 1 Z);rw [vl] at pq;cases pq;obtain ⟨tf,HV,_⟩:=H4.viewsIn 1 1 Z Z vl
   try dsimp only[lNA,lCA,lSZ,lSS] at HV
   have hh:(bG xs n k).length=n:=by omega
   have hth:(thereTo xs n k).length=n:=by omega
   have ht4:=Cr (n:=n) h4;rw [hend.2] at ht4;have hrz:=DK (xs:=xs) (n:=n) (s:=s) hl;rw [hend.1] at hrz;have hra:∀ i,i<n→0≤(bG xs n k).getD i 0∧(bG xs n k).getD i 0≤500:=fun i hi=>by have:=nv (xs:=xs) (n:=n) (k:=k) i ω; omega
   have bl:=EN (n:=n) (s:=s) (hs:=(bG xs n k)) (x:=p) ω ω hrz ω ω;refine am (sR 4 Z (sC func441 Eo Z (pN (HV.msees 0 Z) ω ξ η ξ) (fun v3 w9 r1=>?_)));obtain ⟨e6,r1⟩:=r1;obtain ⟨fp3,H10⟩:=HV.res e6 r1;obtain ⟨a2,k2,q2⟩:=az (H10.mine 2 Z);cases q2;refine sC func335 vL Z (nP (H10.sees 2 Z) (H10.msees 2 Z) ω ω η ω) (fun v4 w10 r2=>?_);obtain ⟨e7,r2⟩:=r2;obtain ⟨fp4,H11⟩:=H10.res e7 r2;obtain ⟨a3,k3,q3⟩:=az (H11.mine 3 Z);cases q3;refine sR 2 Z (aa (bR (hQ _ _ (pH results400 Z Z ?_))));obtain ⟨e1,_,e2⟩:=u3 (xs:=xs) (n:=n) (by rw [hend.1]; omega);have e3:=e2 p;rw [decAt,hend.1,hend.2] at e3;obtain ⟨qa,qc,qq⟩:=az (H11.mine 3 Z);exact ⟨H11.ext,_,_,(by rw [e1,e3]),(by rw [e3]; exact H11.out 3 Z)⟩
theorem qY {w:World}{n s:Nat}{xs:List (List UInt8)}{xsA:Option Addr}{xsC:Nat}(hn:1≤n∧n≤3∧s≤2) (hl:xs.length=n+s) (h4:Part xs) (xsS:Sees w [.slice xsA xs.length xsC] xs):Ret Tryz.prog 332 #[.int .i64 n,.slice xsA xs.length xsC] w fun v w'=>Ext No w w'∧(∃ A C,v = .tuple #[.slice A (tk n xs).length C,.bool (gS n xs)]∧Res w w' [.slice A (tk n xs).length C] (tk n xs)):=by
 have xsL:=sL xsS;obtain ⟨xsF,xsO⟩:=xsS;refine aF func332 Z ntmps332 Z (fun Q hQ hN=>?_);have H0:=Sep.start (ae xsO aA);refine ab (sR 2 Z (aa (ab (cW (α:=UInt8) aj Z aP bj H0 (fun b1 w1 e1 g1 H1=>sA Z Z (aa (ac (ab (sA Z Z (aa (an (bg (γ:=Nat × Value × List Nat) (fun (i,vo,f)=>[(0,.int .i64 n),(1,.slice xsA xs.length xsC),(6,vo),(7,.int .i64 i)]) (fun (i,vo,f) w'=>Sep No w [mine [vo] (rC n xs i) f] [seen false [.slice xsA xs.length xsC] xs xsF] w'∧i≤n∧(0<i→gS n xs=true)) (fun (i,vo,f)=>n-i) (0,_,_) ⟨Z,Z,Z,Z,trivial⟩ ⟨H1,ω,fun h=>absurd h ω⟩ (fun (i,vo,f) w2 H2=>?_)))))))))))));obtain ⟨H2,hi,hok⟩:=H2;refine ac (ab (sR 3 Z (aa (aB Z (fun c1=>?_) (fun c1=>?_)))))
 ·refine ak (ac (an (ab (sR 3 Z (sC func400 BI Z (rO (s:=s) ω ω h4 ω (H2.sees 0 Z)) (fun v1 w3 r1=>?_))))));obtain ⟨e2,sa1,sk1,rfl,r1⟩:=r1;obtain ⟨fp1,H3⟩:=H2.res e2 r1;refine sR 5 Z (aa (ac (ab (sM Z Z (sV Z (aZ Z) (aa (bJ Z (fun c2=>?_) (fun c2=>?_))))))))
  ·refine ab (sR 2 Z (aa (bR (hQ _ _ (pH results332 Z Z ?_)))));obtain ⟨e1,e2,_⟩:=DJ (xs:=xs) (n:=n) (JT (dj c2));exact ⟨H3.ext,none,0,(by rw [e1,e2]; rfl),(by rw [e2]; exact ⟨[],.inr (.inl ⟨Z,Z,Z⟩),.nil,σ⟩)⟩
  ·refine ak ?_;have hok2:=aH c2;have dl:=pc (n:=n) h4 i;have bl:(zJ n xs i).length=4:=by rw [Hi hok2]; exact yX h4
   refine am (sR 2 Z (kY aj Z aP bj Z Z Z H3 0 Z (H3.mine 1 Z) (by (try simp only [List.length_nil]); unfold maxLen; omega) (by (try simp only [List.length_nil]); omega) (fun v2 w4 fp2 H4=>sA Z Z (aa (am (sM Z Z (sV Z (aC Z Z iO) (sA Z Z (aa ?_)))))))));have hz:=(H4.dtake 1);rw [Hi hok2,decAt,ra] at hz;refine ⟨(i+1,_,_),⟨Z,Z,Z,Z,trivial⟩,⟨hz,ω,fun _=>hok2⟩,θ⟩
 ·refine aI (ab (sR 3 Z (aa (bR (hQ _ _ (pH results332 Z Z ?_))))));obtain rfl:n=i:=by omega
  have e1:=hok ω;have e2:=JN e1;obtain ⟨qa,qc,qq⟩:=az (H2.mine 0 Z);cases qq;exact ⟨H2.ext,qa,qc,(by rw [e1,e2]),(by rw [e2]; exact H2.out 0 Z)⟩
end Go.Wk
namespace Go.Wk
open Rp (sz own)
theorem Sep.nilF {M:Nat→Prop}{w0 w:World}{Δ F:List Rsc}{β:Type}[Rp β] (h:Sep M w0 Δ F w):Sep M w0 Δ (F++[Wk.seen false [.slice none 0 0] ([]:List β) []]) w:=
  h.look (r:=Wk.seen false [.slice none 0 0] ([]:List β) []) (.inr (.inl ⟨rfl,rfl,rfl⟩)) (by simp [Wk.seen])
end Go.Wk

namespace Go.Wk
open Rp (sz own)
section
variable {M:Nat→Prop}{w0 w w':World}{Δ F:List Rsc}
theorem Sep.lookS {α β:Type}[Rp α] [Rp β] (h:Sep M w0 Δ F w) (e:Ext No w w') (j:Nat) {s cs fp0} {y:β}(hj:F[j]? = some (Wk.seen s cs y fp0)) {v:List Value}{x:α}{fp} (o:own false w' v x fp) (hfp:∀ b∈fp,b∈fp0∨w.heap.size≤b) :
    Sep M w0 Δ (F++[Wk.seen false v x fp]) w':=
  (h.to e).look (r:=Wk.seen false v x fp) o fun b hb hm=>(hfp b hb).elim (fun hb=>h.ap _ (List.mem_of_getElem? hj) b hb hm) fun hb=>by have:=h.lt b hm; omega
end
section
variable {P:Program}{n:Nat}{c:Code}{Q:Post}{L:Env}{w w0:World}{M:Nat→Prop}{Δ F:List Rsc}
theorem E9 {β:Type}[Rp β] {γ:Type}{v0:Value}{fp0:List Nat}(f:γ→List (List β)) (g0:γ) (H:Sep M w0 Δ F w) (i:Nat) (hi:Δ[i]? = some (mine [v0] ([]:List View) fp0)) (j:Nat) (hj:F[j]? = some (rows ([]:List View) ([]:List (List β)) [])) (hf:f g0=[]) (t:Nat) (ht:look L t=some v0)
  (G:List Nat→Prop) (hG:G []) (E2:Env) (h2:sub L E2) (E:γ→Env) (I:γ→Prop) (μ:γ→Nat) (hs:sub L (E g0)) (h0:I g0)
  (round:∀ g v fp vs gg w,Sep M w0 (Δ.set i (mine [v] vs fp)) (F.set j (rows vs (f g) gg)) w→vs.length=(f g).length→G gg→I g →
   W P n c (again (fun x:γ × Value × List Nat × List View × List Nat=>(t,x.2.1)::(E x.1++E2)) (fun x w'=>Sep M w0 (Δ.set i (mine [x.2.1] x.2.2.2.1 x.2.2.1)) (F.set j (rows x.2.2.2.1 (f x.1) x.2.2.2.2)) w'∧x.2.2.2.1.length=(f x.1).length∧G x.2.2.2.2∧I x.1) (fun x=>μ x.1) (g,v,fp,vs,gg) Q) ((t,v)::(E g++E2)) w):W P n (.loop c) Q L w:=
 bg (fun x:γ × Value × List Nat × List View × List Nat=>(t,x.2.1)::(E x.1++E2)) (fun x w'=>Sep M w0 (Δ.set i (mine [x.2.1] x.2.2.2.1 x.2.2.1)) (F.set j (rows x.2.2.2.1 (f x.1) x.2.2.2.2)) w'∧x.2.2.2.1.length=(f x.1).length∧G x.2.2.2.2∧I x.1) (fun x=>μ x.1) (g0,v0,fp0,[],[])
  ⟨ht,lf hs h2⟩ ⟨by rw [oT hi,hf,oT hj]; exact H,by simp [hf],hG,h0⟩ fun x w h=>round x.1 x.2.1 x.2.2.1 x.2.2.2.1 x.2.2.2.2 w h.1 h.2.1 h.2.2.1 h.2.2.2
end
def blkAt (G:List Drive) (row i:Nat):List UInt8:=if (G.getD i default).Wiped=true then [] else ((G.getD i default).Blocks.getD row default).Bytes
def lj (G:List Drive) (row k:Nat):List (List UInt8):=(List.range k).map (blkAt G row)
def kb (z:Wld) (g row:Int):List (List UInt8):=lj (z.Groups.getD g.toNat []) row.toNat (z.Groups.getD g.toNat []).length
section
variable {G:List Drive}{row k:Nat}
theorem rx:(lj G row k).length=k:=by simp [lj]
theorem yk (h:(G.getD k default).Wiped=true):lj G row (k+1)=lj G row k++[[]]:=by simp only [lj,List.range_succ,List.map_append,List.map_cons,List.map_nil]; rw [blkAt,if_pos h]
theorem As (h:(G.getD k default).Wiped=false):lj G row (k+1)=lj G row k++[((G.getD k default).Blocks.getD row default).Bytes]:=by
  simp only [lj,List.range_succ,List.map_append,List.map_cons,List.map_nil]; rw [blkAt,if_neg (by rw [h]; simp)]
theorem E6 {i:Nat}(h:i<k):(lj G row k).getD i []=blkAt G row i:=by simp [lj,List.getD,h]
def ux (xs:List (List UInt8)):Nat→Nat
  | 0=>0
  | k+1=>if 0<(xs.getD k []).length then ux xs k+1 else ux xs k
theorem AX {xs:List (List UInt8)}{n:Nat}:∀ k,(bG xs n k).length=min n (ux xs k)
  | 0=>by simp [bG,ux]
  | k+1=>by
    have ih:=AX (xs:=xs) (n:=n) k
    rw [ux]
    by_cases h:0<(xs.getD k []).length
    · rw [if_pos h]
      by_cases h2:(bG xs n k).length<n
      · rw [(iU ⟨h,h2⟩).1,List.length_append]; simp; omega
      · rw [(iJ ω).1]; omega
    · rw [if_neg h,(iJ ω).1]; exact ih
theorem yH {m:Nat}(h:∀ i,i<m→(G.getD i default).Wiped=false→0<((G.getD i default).Blocks.getD row default).Bytes.length):∀ k,k≤m→ux (lj G row m) k+(wipedTo G k).length=k
  | 0,_=>rfl
  | k+1,hk=>by
    have ih:=yH h k ω
    rw [ux,E6 ω]
    by_cases hw:(G.getD k default).Wiped=true
    · rw [pf hw,blkAt,if_pos hw,if_neg σ,List.length_append]; simp; omega
    · have hw':(G.getD k default).Wiped=false:=by simpa using hw
      rw [sn hw',blkAt,if_neg hw,if_pos (h k ω hw')]; omega
end
section
variable {z:Wld}{g row:Int}
theorem wZ (hs:z.Shape.ok=true) (hG:bv z=true) (hg:ins g 0 (z.Shape.Groups+z.Shape.Column-1)=true) (hr:ins row 0 (z.Shape.Rows-1)=true) :
    (kb z g row).length=z.Shape.Data.toNat+z.Shape.Spare.toNat∧Part (kb z g row)∧gS z.Shape.Data.toNat (kb z g row) = !dL z g:=by
  have hsd:=bm hs
  have hgg:=dz hG
  have hgi:=bk.1 hg
  have hri:=bk.1 hr
  obtain ⟨hl,hd⟩:=hgg.2 g.toNat ω
  have hb:∀ i,i<(z.Groups.getD g.toNat []).length→(((z.Groups.getD g.toNat []).getD i default).Blocks.getD row.toNat default).Bytes.length=4:=fun i hi=>by
    obtain ⟨h1,h2⟩:=hd i hi
    exact (ik (h2 row.toNat ω)).2.2
  have hlen:(kb z g row).length=(z.Groups.getD g.toNat []).length:=rx
  refine ⟨ω,fun i hi=>?_,?_⟩
  · rw [hlen] at hi
    unfold kb
    rw [E6 hi,blkAt]
    split
    · exact .inr rfl
    · exact .inl (hb i hi)
  · have hc:=yH (G:=z.Groups.getD g.toNat []) (row:=row.toNat) (m:=(z.Groups.getD g.toNat []).length) (fun i hi _=>by rw [hb i hi]; omega) (z.Groups.getD g.toNat []).length (Nat.le_refl _)
    have hh:=AX (xs:=kb z g row) (n:=z.Shape.Data.toNat) (kb z g row).length
    rw [hlen] at hh
    unfold gS dL aR
    rw [hlen,hh]
    change ux (kb z g row) _+_=_ at hc
    rw [← decide_not]
    exact decide_eq_decide.2 ω
def xy (z:Wld) (g row:Int):List UInt8:=tk z.Shape.Data.toNat (kb z g row)
end
end Go.Wk
namespace Go.Wk
open Go.Proofs Rp Go.Proofs.Tryz
set_option maxRecDepth 10000
theorem gx {w:World}{s:Shape}(hs:s.ok=true):Ret Tryz.prog 244 #[s.v] w fun v w'=>Ext No w w'∧(v = .agg #[.int .i64 (s.Data.toNat:Nat),.int .i64 (s.Spare.toNat:Nat)]):=by
 have sbd:=bm hs;refine aF func244 Z ntmps244 Z (fun Q hQ hN=>?_);have H0:=Sep.start (w:=w) (F:=[]) σ;refine ab (bf aj Z Z H0 (fun b1 w1 e1 g1 H1=>bT aj Z zeroValue226 H1 (fun b2 w2 e2 g2 H2=>aa (ab (sF bw Z ts2 (sLd tu2 (H2.box 0 Z) Z (sF bw Z ts2 (sLd tu2 (H2.box 0 Z) Z (sV Z (bQ Cp Z Z) (be aj wG Z Z Z Z H2 1 Z Z (fun w3 e3 H3=>?_)))))))))));dsimp only[lNA,lCA,lSZ,lSS,aQ] at H3;refine aa (bR (hQ _ _ (eu results244 Z (aJ jZ Z wG Z (At.whole (H3.box 1 Z))) (⟨H3.ext,?_⟩))));rw [Int.toNat_of_nonneg ω,Int.toNat_of_nonneg ω]
 rfl
theorem nI {w:World}{zb zC9 zC10 zC11:Nat}{z:Wld}{zA9 zA10 zA11:Option Addr}{zF9 zF10 zF11:List Nat}{g row:Int}(zB:w.heap[zb]? = some (.cells [.int .i64 z.Shape.Groups,.int .i64 z.Shape.Column,.int .i64 z.Shape.Data,.int .i64 z.Shape.Spare,.int .i64 z.Shape.Rows,.int .i64 z.Shape.Cap,.int .i64 z.Shape.Batch,.int .i64 z.Shape.Queue,.int .i64 z.Shape.Stage,.slice zA9 z.Groups.length zC9,.slice zA10 z.On.length zC10,.slice zA11 z.Tapes.length zC11,.int .i64 z.Writes,.int .i64 z.Stop,.bool z.Down].toArray 34)) (zK:z.Ok) (zO9:own false w [.slice zA9 z.Groups.length zC9] z.Groups zF9) (zO10:own false w [.slice zA10 z.On.length zC10] z.On zF10) (zO11:own false w [.slice zA11 z.Tapes.length zC11] z.Tapes zF11) (hs:z.Shape.ok=true) (hG:bv z=true) (hg:ins g 0 (z.Shape.Groups+z.Shape.Column-1)=true) (hr:ins row 0 (z.Shape.Rows-1)=true):Ret Tryz.prog 255 #[.pointer (some ⟨zb,0,none⟩),.int .i64 g,.int .i64 row] w fun v w'=>Ext No w w'∧(∃ fp,own false w' [v] (kb z g row) fp∧∀ b∈fp,b∈zF9∨w.heap.size≤b):=by
 have zK2:=zK;unfold Wld.Ok Shape.Ok at zK2
 try unfold I64ok at zK2
 try unfold maxLen at zK2
 have zL9:=oL zO9;have zL10:=oL zO10;have zL11:=oL zO11;have sbd:=bm hs;have hgg:=dz hG;have hgl:=hgg.1;have hgi:=bk.1 hg;obtain ⟨hdl,hdd⟩:=hgg.2 g.toNat ω;have hri:=bk.1 hr;refine aF func255 Z ntmps255 Z (fun Q hQ hN=>?_);have H0:=Sep.start (cq zB (ae zO9 (ae zO10 (ae zO11 aA))));refine ab (sA Z Z (aa (ab (cW (α:=View) aj Z b0 bB H0 (fun b1 w1 e1 g1 H1=>sA Z Z (aa (ac (ac ?_))))))));obtain ⟨eb1,eo1,ea1,ek1,ef1,ee1,ec1,eO1,eH1⟩:=cm (H1.seen 1 Z) g.toNat ω;have eP1:=H1.look1 1 Z eO1 eH1;refine am (sR 2 Z (sF aX Z eG (sLd cC (eP1.fbox 0 Z) Z (sM Z Z (sV Z (ay cC gy Z Z ee1 g.toNat ω ω) (sV Z (ag cD Z Z ec1) (sV Z (aE cD Z) (sM Z Z (aa (an ?_))))))))));have H3:=eP1.noRows (β:=UInt8)
 try dsimp only[lNA,lCA,lSZ,lSS] at H3
 refine E9 (β:=UInt8) (γ:=Nat) (fun k=>lj (z.Groups.getD g.toNat []) row.toNat k) 0 H3 0 Z 5 Z Z 7 Z (fun gg=>∀ b∈gg,b∈zF9) σ [(2,_),(6,_),(17,_),(18,_)] ⟨Z,Z,Z,Z,trivial⟩ (fun k=>[(19,.int .i64 k)]) (fun k=>k≤(z.Groups.getD g.toNat []).length∧True) (fun k=>(z.Groups.getD g.toNat []).length-k) ⟨Z,trivial⟩ ⟨ω,trivial⟩ (fun k vA1 fA1 vs1 gA1 w2 H2 vl vg ⟨hk,_⟩=>?_);dsimp only[lCA,lNA,lSZ,lSS] at H2 ⊢;refine ab (sV Z (aM Z Z) (aa (ac (aB Z (fun c1=>?_) (fun c1=>?_)))))
 ·refine ak (ac (an (ac ?_)));obtain ⟨eb2,eo2,es1,ef2,ee2,ec2,eO2,eH2,em1⟩:=aV (H2.seen 4 Z) k ω;obtain ⟨ea2,ek2,eg1,rfl,eq1,eK1,eo3⟩:=cH eO2;have eP2:=H2.look1 4 Z eo3 (fun b hb=>eH2 b (by rw [eq1]; simp [hb]));have eL1:=oL eo3;refine am (sV Z (ay cD eq Z Z ee2 k ω ω) (sV Z (au dW Z eq Z Z ec2) (bT aj Z zeroValue62 eP2 (fun b2 w3 e2 g2 H4=>be aj eq Z Z Z Z H4 1 Z Z (fun w4 e3 H5=>?_)))));dsimp only[lNA,lCA,lSZ,lSS,aQ] at H5;refine aa (ab (sF dW Z ts4 (sLd tu4 (H5.box 1 Z) Z (aa (bJ Z (fun c2=>?_) (fun c2=>?_))))))
  ·have bl:=rx (G:=(z.Groups.getD g.toNat [])) (row:=row.toNat) (k:=k);refine am (sM Z Z (dx aj Z b0 bB Z Z Z Z H5 (fun b3 w5 e4 g3 H6=>?_)));have H8:=H6.nilF (β:=UInt8)
   try dsimp only[lNA,lCA,lSZ,lSS] at H8
   refine fB (α:=View) (u:=⟨_,_,_⟩) aj Z b0 bB Z Z Z H8 0 2 Z Z ⟨Z,Z⟩ (by unfold maxLen; omega) ω (fun v1 w6 fp1 H7=>?_)
   try dsimp only[lNA,lCA,lSZ,lSS] at H7
   obtain ⟨rg1,H9,rh1⟩:=H7.rowApp (y:=([]:List UInt8)) 5 7 Z Z ξ
   try dsimp only[lNA,lCA,lSZ,lSS] at H9
   refine sA Z Z (aa (am (sV Z (aC Z Z iO) (sM Z Z (aa ?_)))));have bq:=yk (row:=row.toNat) c2;rw [← bq] at H9;exact ⟨(k+1,_,_,_,_),⟨Z,Z,Z,Z,Z,Z,trivial⟩,⟨((H9.ftake 6).dtake 1),by rw [bq,List.length_append,List.length_append,vl]; rfl,(fun b hb=>(rh1 b hb).elim (vg b) (fun h=>absurd h σ)),ω,trivial⟩,θ⟩
  ·have bl:=rx (G:=(z.Groups.getD g.toNat [])) (row:=row.toNat) (k:=k);have hbl:=hdd k ω;obtain ⟨eb3,eo4,es2,ef3,ee3,ec3,eO3,eH3,em2⟩:=aV (H5.seen 6 Z) row.toNat ω;obtain ⟨ea3,ek3,eg2,rfl,eq2,eK2,eo5⟩:=dP eO3;have eK2U:=eK2;unfold Block.Ok at eK2U
   try unfold I64ok at eK2U
   try unfold maxLen at eK2U
   have eP3:=H5.look1 6 Z eo5 (fun b hb=>eH3 b (by rw [eq2]; simp [hb]));have eL2:=oL eo5;refine am (sM Z Z (sF dW Z jN (sLd dH (eP3.box 1 Z) Z (sM Z Z (sV Z (ay dH fG Z Z ee3 row.toNat ω ω) (sF gI Z aY (sV Z (ag aP Z Z (bd ec3 1 Z)) (dx aj Z b0 bB Z Z Z Z eP3 (fun b4 w7 e5 g4 H10=>fB (α:=View) (u:=⟨_,_,_⟩) aj Z b0 bB Z Z Z H10 0 2 Z Z ⟨Z,Z⟩ (by unfold maxLen; omega) ω (fun v2 w8 fp2 H11=>?_))))))))))
   try dsimp only[lNA,lCA,lSZ,lSS] at H11
   obtain ⟨rg2,H12,rh2⟩:=H11.rowApp 5 7 Z Z ξ
   try dsimp only[lNA,lCA,lSZ,lSS] at H12
   refine sA Z Z (aa (am (sV Z (aC Z Z iO) (sM Z Z (aa ?_)))));have bq:=As (row:=row.toNat) c2;rw [← bq] at H12;exact ⟨(k+1,_,_,_,_),⟨Z,Z,Z,Z,Z,Z,trivial⟩,⟨((H12.ftake 6).dtake 1),by rw [bq,List.length_append,List.length_append,vl]; rfl,(fun b hb=>(rh2 b hb).elim (vg b) (fun h=>eH1 _ (eH2 _ (by rw [eq1]; exact eH3 _ (by rw [eq2]; exact h))))),ω,trivial⟩,θ⟩
 ·refine aI (ab (sR 2 Z (rN hQ results255 Z ?_)));obtain rfl:k=(z.Groups.getD g.toNat []).length:=by omega
  obtain ⟨fpV,HV,hfV⟩:=H2.viewsIn 0 5 Z Z vl;exact ⟨H2.ext,fpV,(HV.seen 6 Z),fun b hb=>(hfV b hb).elim (fun h => .inr (H2.freshD 0 Z b h)) (fun h => .inl (vg b h))⟩
theorem lZ {w:World}{zb zC9 zC10 zC11:Nat}{z:Wld}{zA9 zA10 zA11:Option Addr}{zF9 zF10 zF11:List Nat}{g row:Int}(zB:w.heap[zb]? = some (.cells [.int .i64 z.Shape.Groups,.int .i64 z.Shape.Column,.int .i64 z.Shape.Data,.int .i64 z.Shape.Spare,.int .i64 z.Shape.Rows,.int .i64 z.Shape.Cap,.int .i64 z.Shape.Batch,.int .i64 z.Shape.Queue,.int .i64 z.Shape.Stage,.slice zA9 z.Groups.length zC9,.slice zA10 z.On.length zC10,.slice zA11 z.Tapes.length zC11,.int .i64 z.Writes,.int .i64 z.Stop,.bool z.Down].toArray 34)) (zK:z.Ok) (zO9:own false w [.slice zA9 z.Groups.length zC9] z.Groups zF9) (zO10:own false w [.slice zA10 z.On.length zC10] z.On zF10) (zO11:own false w [.slice zA11 z.Tapes.length zC11] z.Tapes zF11) (hs:z.Shape.ok=true) (hG:bv z=true) (hg:ins g 0 (z.Shape.Groups+z.Shape.Column-1)=true) (hr:ins row 0 (z.Shape.Rows-1)=true):Ret Tryz.prog 151 #[.pointer (some ⟨zb,0,none⟩),.int .i64 g,.int .i64 row] w fun v w'=>Ext No w w'∧(Res w w' [v] (xy z g row)):=by
 have zK2:=zK;unfold Wld.Ok Shape.Ok at zK2
 try unfold I64ok at zK2
 try unfold maxLen at zK2
 have zL9:=oL zO9;have zL10:=oL zO10;have zL11:=oL zO11;have sbd:=bm hs;have hgg:=dz hG;have hgl:=hgg.1;have hgi:=bk.1 hg;obtain ⟨hdl,hdd⟩:=hgg.2 g.toNat ω;have hri:=bk.1 hr;obtain ⟨pl,pp,pd⟩:=wZ (row:=row) hs hG hg hr;refine aF func151 Z ntmps151 Z (fun Q hQ hN=>?_);have H0:=Sep.start (cq zB (ae zO9 (ae zO10 (ae zO11 aA))));refine ab (sA Z Z (aa (ab (sR 2 Z (sF aX Z ci (sV Z (au bw Z ci Z Z (At.sub (H0.fbox 0 Z) 9)) (sE func244 qv Z (gx η) H0 (fun w1 e1 H1=>sR 3 Z (sC func255 BL Z (nI (H1.fbox 0 Z) η (aS (H1.seen 1 Z)) (aS (H1.seen 2 Z)) (aS (H1.seen 3 Z)) η η η η) (fun v2 w2 r2=>?_))))))))));obtain ⟨e2,fpS1,oS1,hS1⟩:=r2;have H2:=H1.lookS e2 1 Z oS1 hS1;obtain ⟨a1,k1,q1⟩:=az (H2.seen 4 Z);cases q1;refine sC func257 CL Z (l8 (n:=z.Shape.Data.toNat) (s:=z.Shape.Spare.toNat) ω pl pp (H2.sees 4 Z)) (fun v3 w3 r3=>?_);obtain ⟨e3,sa1,sk1,rfl,r3⟩:=r3;obtain ⟨fp1,H3⟩:=H2.res e3 r3;refine sR 5 Z (aa (ab (sR 2 Z (rN hQ results151 Z ?_))));exact ⟨H3.ext,H3.out 0 Z⟩
theorem sv {w:World}{zb zC9 zC10 zC11:Nat}{z:Wld}{zA9 zA10 zA11:Option Addr}{g row:Int}(zB:w.heap[zb]? = some (.cells [.int .i64 z.Shape.Groups,.int .i64 z.Shape.Column,.int .i64 z.Shape.Data,.int .i64 z.Shape.Spare,.int .i64 z.Shape.Rows,.int .i64 z.Shape.Cap,.int .i64 z.Shape.Batch,.int .i64 z.Shape.Queue,.int .i64 z.Shape.Stage,.slice zA9 z.Groups.length zC9,.slice zA10 z.On.length zC10,.slice zA11 z.Tapes.length zC11,.int .i64 z.Writes,.int .i64 z.Stop,.bool z.Down].toArray 34)) (zK:z.Ok) (zS9:Sees w [.slice zA9 z.Groups.length zC9] z.Groups) (zS10:Sees w [.slice zA10 z.On.length zC10] z.On) (zS11:Sees w [.slice zA11 z.Tapes.length zC11] z.Tapes) (hs:z.Shape.ok=true) (hG:bv z=true) (hg:ins g 0 (z.Shape.Groups+z.Shape.Column-1)=true) (hr:ins row 0 (z.Shape.Rows-1)=true):Ret Tryz.prog 220 #[.pointer (some ⟨zb,0,none⟩),.int .i64 g,.int .i64 row] w fun v w'=>Ext No w w'∧(∃ A C,v = .tuple #[.slice A (xy z g row).length C,.bool (!dL z g)]∧Res w w' [.slice A (xy z g row).length C] (xy z g row)):=by
 have zK2:=zK;unfold Wld.Ok Shape.Ok at zK2
 try unfold I64ok at zK2
 try unfold maxLen at zK2
 have zL9:=sL zS9;obtain ⟨zF9,zO9⟩:=zS9;have zL10:=sL zS10;obtain ⟨zF10,zO10⟩:=zS10;have zL11:=sL zS11;obtain ⟨zF11,zO11⟩:=zS11;have sbd:=bm hs;have hgg:=dz hG;have hgl:=hgg.1;have hgi:=bk.1 hg;obtain ⟨hdl,hdd⟩:=hgg.2 g.toNat ω;have hri:=bk.1 hr;obtain ⟨pl,pp,pd⟩:=wZ (row:=row) hs hG hg hr;refine aF func220 Z ntmps220 Z (fun Q hQ hN=>?_);have H0:=Sep.start (cq zB (ae zO9 (ae zO10 (ae zO11 aA))));refine ab (sR 2 Z (aa (ab (cW (α:=View) aj Z b0 bB H0 (fun b1 w1 e1 g1 H1=>sA Z Z (aa (ac (ab (sA Z Z (aa (an ?_)))))))))));have H3:=H1.noRows (β:=UInt8)
 try dsimp only[lNA,lCA,lSZ,lSS] at H3
 refine E9 (β:=UInt8) (γ:=Nat) (fun k=>lj (z.Groups.getD g.toNat []) row.toNat k) 0 H3 0 Z 4 Z Z 8 Z (fun _=>True) trivial [(0,_),(1,_),(2,_),(6,_),(7,_)] ⟨Z,Z,Z,Z,Z,trivial⟩ (fun k=>[(9,.int .i64 k)]) (fun k=>k≤(z.Groups.getD g.toNat []).length∧True) (fun k=>(z.Groups.getD g.toNat []).length-k) ⟨Z,trivial⟩ ⟨ω,trivial⟩ (fun k vA1 fA1 vs1 gA1 w2 H2 vl vg ⟨hk,_⟩=>?_);dsimp only[lCA,lNA,lSZ,lSS] at H2 ⊢;refine ac (ac ?_);obtain ⟨eb1,eo1,ea1,ek1,ef1,ee1,ec1,eO1,eH1⟩:=cm (H2.seen 1 Z) g.toNat ω;have eP1:=H2.look1 1 Z eO1 eH1;refine am (sR 3 Z (sF aX Z eG (sLd cC (eP1.fbox 0 Z) Z (sM Z Z (sV Z (ay cC gy Z Z ee1 g.toNat ω ω) (sV Z (ag cD Z Z ec1) (sV Z (aE cD Z) (sV Z (aM Z Z) (aa (aB Z (fun c1=>?_) (fun c1=>?_)))))))))))
 ·refine ak (ac (an (ac ?_)));obtain ⟨eb2,eo2,ea2,ek2,ef2,ee2,ec2,eO2,eH2⟩:=cm (eP1.seen 1 Z) g.toNat ω;have eP2:=eP1.look1 1 Z eO2 eH2;obtain ⟨eb3,eo3,es1,ef3,ee3,ec3,eO3,eH3,em1⟩:=aV (eP2.seen 6 Z) k ω;obtain ⟨ea3,ek3,eg1,rfl,eq1,eK1,eo4⟩:=cH eO3;have eP3:=eP2.look1 6 Z eo4 (fun b hb=>eH3 b (by rw [eq1]; simp [hb]));have eL1:=oL eo4;refine am (sR 2 Z (sF aX Z eG (sLd cC (eP3.fbox 0 Z) Z (sM Z Z (sV Z (ay cC gy Z Z ee2 g.toNat ω ω) (sV Z (ag cD Z Z ec2) (sM Z Z (sV Z (ay cD eq Z Z ee3 k ω ω) (sF dW Z ts4 (sV Z (ag tu4 Z Z (bd ec3 0 Z)) (aa (bJ Z (fun c2=>?_) (fun c2=>?_)))))))))))))
  ·have bl:=rx (G:=(z.Groups.getD g.toNat [])) (row:=row.toNat) (k:=k);refine am (sM Z Z (dx aj Z b0 bB Z Z Z Z eP3 (fun b2 w3 e2 g2 H4=>?_)));have H6:=H4.nilF (β:=UInt8)
   try dsimp only[lNA,lCA,lSZ,lSS] at H6
   refine fB (α:=View) (u:=⟨_,_,_⟩) aj Z b0 bB Z Z Z H6 0 1 Z Z ⟨Z,Z⟩ (by unfold maxLen; omega) ω (fun v1 w4 fp1 H5=>?_)
   try dsimp only[lNA,lCA,lSZ,lSS] at H5
   obtain ⟨rg1,H7,rh1⟩:=H5.rowApp (y:=([]:List UInt8)) 4 8 Z Z ξ
   try dsimp only[lNA,lCA,lSZ,lSS] at H7
   refine sA Z Z (aa (am (sM Z Z (sV Z (aC Z Z iO) (sA Z Z (aa ?_))))));have bq:=yk (row:=row.toNat) c2;rw [← bq] at H7;exact ⟨(k+1,_,_,_,_),⟨Z,Z,Z,Z,Z,Z,Z,trivial⟩,⟨((H7.ftake 5).dtake 1),by rw [bq,List.length_append,List.length_append,vl]; rfl,trivial,ω,trivial⟩,θ⟩
  ·have bl:=rx (G:=(z.Groups.getD g.toNat [])) (row:=row.toNat) (k:=k);have hbl:=hdd k ω;obtain ⟨eb4,eo5,ea4,ek4,ef4,ee4,ec4,eO4,eH4⟩:=cm (eP3.seen 1 Z) g.toNat ω;have eP4:=eP3.look1 1 Z eO4 eH4;obtain ⟨eb5,eo6,es2,ef5,ee5,ec5,eO5,eH5,em2⟩:=aV (eP4.seen 8 Z) k ω;obtain ⟨ea5,ek5,eg2,rfl,eq2,eK2,eo7⟩:=cH eO5;have eP5:=eP4.look1 8 Z eo7 (fun b hb=>eH5 b (by rw [eq2]; simp [hb]));have eL2:=oL eo7;obtain ⟨eb6,eo8,es3,ef6,ee6,ec6,eO6,eH6,em3⟩:=aV (eP5.seen 9 Z) row.toNat ω;obtain ⟨ea6,ek6,eg3,rfl,eq3,eK3,eo9⟩:=dP eO6;have eK3U:=eK3;unfold Block.Ok at eK3U
   try unfold I64ok at eK3U
   try unfold maxLen at eK3U
   have eP6:=eP5.look1 9 Z eo9 (fun b hb=>eH6 b (by rw [eq3]; simp [hb]));have eL3:=oL eo9;refine am (sR 3 Z (sF aX Z eG (sLd cC (eP6.fbox 0 Z) Z (sM Z Z (sV Z (ay cC gy Z Z ee4 g.toNat ω ω) (sV Z (ag cD Z Z ec4) (sM Z Z (sV Z (ay cD eq Z Z ee5 k ω ω) (sF dW Z jN (sV Z (ag dH Z Z (bd ec5 1 Z)) (sM Z Z (sV Z (ay dH fG Z Z ee6 row.toNat ω ω) (sF gI Z aY (sV Z (ag aP Z Z (bd ec6 1 Z)) (dx aj Z b0 bB Z Z Z Z eP6 (fun b3 w5 e3 g3 H8=>fB (α:=View) (u:=⟨_,_,_⟩) aj Z b0 bB Z Z Z H8 0 1 Z Z ⟨Z,Z⟩ (by unfold maxLen; omega) ω (fun v2 w6 fp2 H9=>?_)))))))))))))))))
   try dsimp only[lNA,lCA,lSZ,lSS] at H9
   obtain ⟨rg2,H10,rh2⟩:=H9.rowApp 4 10 Z Z ξ
   try dsimp only[lNA,lCA,lSZ,lSS] at H10
   refine sA Z Z (aa (am (sM Z Z (sV Z (aC Z Z iO) (sA Z Z (aa ?_))))));have bq:=As (row:=row.toNat) c2;rw [← bq] at H10;exact ⟨(k+1,_,_,_,_),⟨Z,Z,Z,Z,Z,Z,Z,trivial⟩,⟨((H10.ftake 5).dtake 1),by rw [bq,List.length_append,List.length_append,vl]; rfl,trivial,ω,trivial⟩,θ⟩
 ·refine aI (ac ?_);obtain rfl:k=(z.Groups.getD g.toNat []).length:=by omega
  obtain ⟨pA,pC,pq⟩:=az (eP1.mine 0 Z);rw [vl,show (lj (z.Groups.getD g.toNat []) row.toNat (z.Groups.getD g.toNat []).length).length=(kb z g row).length from by rw [kb]] at pq;cases pq;obtain ⟨tf,HV,_⟩:=eP1.viewsIn 0 4 Z Z vl
  try dsimp only[lNA,lCA,lSZ,lSS] at HV
  refine am (sR 2 Z (sF aX Z ci (sF bw Z ts2 (sLd tu2 (HV.fbox 0 Z) Z (sM Z Z (sC func332 BB Z (by have hS:Sees _ [.slice pA (kb z g row).length pC] (kb z g row):=HV.sees 6 Z; have lc:=qY (n:=z.Shape.Data.toNat) (s:=z.Shape.Spare.toNat) (xs:=kb z g row) ω pl pp hS; rw [Int.toNat_of_nonneg (show 0≤z.Shape.Data by omega)] at lc; exact lc) (fun v3 w7 r1=>?_)))))));obtain ⟨e4,sa1,sk1,rfl,r1⟩:=r1;obtain ⟨fp3,H11⟩:=HV.res e4 r1;refine sR 4 Z (aa (bR (hQ _ _ (pH results220 Z Z ?_))));exact ⟨H11.ext,_,_,(by rw [← pd]; rfl),H11.out 1 Z⟩
end Go.Wk
namespace Go.Wk
section
variable {z:Wld}{g row most:Int}{xs:List UInt8}
theorem AW (hs:z.Shape.ok=true) (hG:bv z=true) (hg:ins g 0 (z.Shape.Groups+z.Shape.Column-1)=true) (hr:ins row 0 (z.Shape.Rows-1)=true) (hd:dL z g=false):((xy z g row).length:Int)=z.Shape.Data*4:=by
  have sbd:=bm hs
  obtain ⟨_,hp,hd2⟩:=wZ hs hG hg hr
  have hk:gS z.Shape.Data.toNat (kb z g row)=true:=by rw [hd2,hd]; rfl
  unfold xy tk
  rw [if_pos hk,pc hp]
  omega
end
end Go.Wk
namespace Go.Wk
open Go.Proofs Rp Go.Proofs.Tryz
set_option maxRecDepth 10000
theorem oU {w:World}{xs:List Block}{xsA:Option Addr}{xsC:Nat}{k:Int}{fp:List Nat}(o:own true w [.slice xsA xs.length xsC] xs fp) (nd:fp.Nodup) (hk:0≤k∧k+mkL cJ xs≤4611686018427387904):Ret Tryz.prog 319 #[.slice xsA xs.length xsC,.int .i64 k] w fun v w'=>(v = .int .i64 (k+mkL cJ xs)∧∃ xs',Mut w w' fp [.slice xsA xs.length xsC] xs'∧(xs'.length=xs.length∧mkL cJ xs'=mkL cJ xs∧MkL MkBlock cJ xs' k)):=by
 have len:=oL o;refine aF func319 Z ntmps319 Z (fun Q hQ hN=>?_);have H0:=Sep.begin o nd;refine ab (sA Z Z (aa (ac (ab (sA Z Z (aa (an (bg (γ:=Nat × List Block × List Nat) (fun (i,ys,f)=>[(0,.slice xsA xs.length xsC),(1,.int .i64 (k+bV (fun i=>cJ (xs.getD i default)) i)),(5,.int .i64 i)]) (fun (i,ys,f) w'=>Sep (· ∈ fp) w [mine [.slice xsA xs.length xsC] ys f] [] w'∧MkInv MkBlock cJ xs k i ys∧True) (fun (i,ys,f)=>xs.length-i) (0,xs,fp) ⟨Z,eqI (by simp [bV]),Z,trivial⟩ ⟨H0,oi,trivial⟩ (fun (i,ys,f) w1 H1=>?_)))))))));obtain ⟨H1,hI,_⟩:=H1;refine ac (ac ?_);have hiB:=hI.1;have hys:=hI.2.1;refine am (sR 2 Z (sV Z (aE dH Z) (sV Z (aM Z Z) (aa (aB Z (fun c1=>?_) (fun c1=>?_))))))
 ·refine ak (ac (an (ac ?_)));have hiL:i<xs.length:=by omega
  have hat:=Aq hI;obtain ⟨sg,sl⟩:=ma (c:=cJ) hiL;have hci:cJ (ys.getD i default)=cJ (xs.getD i default):=hI.2.2.1 i;have hcu:cJ (ys.getD i default)=1+(ys.getD i default).Bytes.length:=Z;obtain ⟨eb1,eo1,eT1,eF1,eG1,ea1,ek1,eg1,ee1,eK1,eH1⟩:=Block.focus H1 0 Z i ω;have eK1U:=eK1;unfold Block.Ok at eK1U
  try unfold I64ok at eK1U
  try unfold maxLen at eK1U
  try dsimp only[lNA,lCA,lSZ,lSS] at eH1
  refine am (sR 3 Z (sV Z (ay dH fG Z Z ee1 i ω ω) (sF gI Z ts2 (jT aj ts2 eH1 0 0 Z Z Z Z Z (fun w2 H2=>?_)))));dsimp only[lNA,lCA,lSZ,lSS,aQ] at H2;refine aa (ab (sM Z Z (sV Z (aC Z Z iO) (sA Z Z (aa (am (sR 2 Z (sV Z (ay dH fG Z Z ee1 i ω ω) (sF gI Z aY (sV Z (ag aP Z Z (bd (H2.holAt 0 Z) 1 Z)) (sM Z Z (sC func114 qW Z (gA (H2.mine 2 Z) (H2.nodup1 (i:=2) Z) (by constructor<;>omega)) (fun v1 w3 r1=>?_)))))))))))));obtain ⟨rfl,mx1,mm1,ml1,mk1⟩:=r1;obtain ⟨fp1,H3⟩:=H2.mut 2 Z mm1
  try dsimp only[lNA,lCA,lSZ,lSS] at H3
  refine sA Z Z (aa (am (sM Z Z (sV Z (aC Z Z iO) (sA Z Z (aa ?_))))));have okz:(⟨(k+bV (fun i=>cJ (xs.getD i default)) i),mx1⟩:Block).Ok:=by unfold Block.Ok I64ok; dsimp only; omega
  obtain ⟨fp2,H4⟩:=Block.fill H3 0 2 Z Z Z okz
  try dsimp only[lNA,lCA,lSZ,lSS] at H4
  refine ⟨(i+1,_,_),⟨Z,eqI ω,Z,trivial⟩,⟨(H4.dtake 1),sQ hI hiL (by rw [← hci]; unfold cJ; dsimp only; omega) ⟨Z,mk1⟩,trivial⟩,θ⟩
 ·refine aI (ab (sR 2 Z (rN hQ results319 Z ?_)));obtain rfl:i=xs.length:=by omega
  exact ⟨Z,_,H1.done,vj hI⟩
theorem oD {w:World}{xs:List Drive}{xsA:Option Addr}{xsC:Nat}{k:Int}{fp:List Nat}(o:own true w [.slice xsA xs.length xsC] xs fp) (nd:fp.Nodup) (hk:0≤k∧k+mkL bn xs≤4611686018427387904):Ret Tryz.prog 201 #[.slice xsA xs.length xsC,.int .i64 k] w fun v w'=>(v = .int .i64 (k+mkL bn xs)∧∃ xs',Mut w w' fp [.slice xsA xs.length xsC] xs'∧(xs'.length=xs.length∧mkL bn xs'=mkL bn xs∧MkL MkDrive bn xs' k)):=by
 have len:=oL o;refine aF func201 Z ntmps201 Z (fun Q hQ hN=>?_);have H0:=Sep.begin o nd;refine ab (sA Z Z (aa (ac (ab (sA Z Z (aa (an (bg (γ:=Nat × List Drive × List Nat) (fun (i,ys,f)=>[(0,.slice xsA xs.length xsC),(1,.int .i64 (k+bV (fun i=>bn (xs.getD i default)) i)),(5,.int .i64 i)]) (fun (i,ys,f) w'=>Sep (· ∈ fp) w [mine [.slice xsA xs.length xsC] ys f] [] w'∧MkInv MkDrive bn xs k i ys∧True) (fun (i,ys,f)=>xs.length-i) (0,xs,fp) ⟨Z,eqI (by simp [bV]),Z,trivial⟩ ⟨H0,oi,trivial⟩ (fun (i,ys,f) w1 H1=>?_)))))))));obtain ⟨H1,hI,_⟩:=H1;refine ac (ac ?_);have hiB:=hI.1;have hys:=hI.2.1;refine am (sR 2 Z (sV Z (aE cD Z) (sV Z (aM Z Z) (aa (aB Z (fun c1=>?_) (fun c1=>?_))))))
 ·refine ak (ac (an (ac ?_)));have hiL:i<xs.length:=by omega
  have hat:=Aq hI;obtain ⟨sg,sl⟩:=ma (c:=bn) hiL;have hci:bn (ys.getD i default)=bn (xs.getD i default):=hI.2.2.1 i;have hcu:bn (ys.getD i default)=1+mkL cJ (ys.getD i default).Blocks:=Z;obtain ⟨eb1,eo1,eT1,eF1,eG1,ea1,ek1,eg1,ee1,eK1,eH1⟩:=Drive.focus H1 0 Z i ω;have eK1U:=eK1;unfold Drive.Ok at eK1U
  try unfold I64ok at eK1U
  try unfold maxLen at eK1U
  try dsimp only[lNA,lCA,lSZ,lSS] at eH1
  refine am (sR 3 Z (sV Z (tV Z Z ω) (sV Z (bP Z Z) (sV Z (ay cD eq Z Z ee1 i ω ω) (sF dW Z ts4 (jT aj ts4 eH1 0 0 Z Z Z Z Z (fun w2 H2=>?_)))))));dsimp only[lNA,lCA,lSZ,lSS,aQ] at H2;refine aa (ab (sM Z Z (sV Z (aC Z Z iO) (sA Z Z (aa (am (sR 2 Z (sV Z (ay cD eq Z Z ee1 i ω ω) (sF dW Z jN (sV Z (ag dH Z Z (bd (H2.holAt 0 Z) 1 Z)) (sM Z Z (sC func319 Cu Z (oU (H2.mine 2 Z) (H2.nodup1 (i:=2) Z) (by constructor<;>omega)) (fun v1 w3 r1=>?_)))))))))))));obtain ⟨rfl,mx1,mm1,ml1⟩:=r1;obtain ⟨fp1,H3⟩:=H2.mut 2 Z mm1
  try dsimp only[lNA,lCA,lSZ,lSS] at H3
  refine sA Z Z (aa (am (sM Z Z (sV Z (aC Z Z iO) (sA Z Z (aa ?_))))));have okz:(⟨decide ((k+bV (fun i=>bn (xs.getD i default)) i).tmod 3=0),mx1⟩:Drive).Ok:=trivial;obtain ⟨fp2,H4⟩:=Drive.fill H3 0 2 Z Z Z okz
  try dsimp only[lNA,lCA,lSZ,lSS] at H4
  refine ⟨(i+1,_,_),⟨Z,eqI ω,Z,trivial⟩,⟨(H4.dtake 1),sQ hI hiL (by rw [← hci]; unfold bn; dsimp only; rw [ml1.2.1]) ⟨Z,ml1.2.2⟩,trivial⟩,θ⟩
 ·refine aI (ab (sR 2 Z (rN hQ results201 Z ?_)));obtain rfl:i=xs.length:=by omega
  exact ⟨Z,_,H1.done,vj hI⟩
theorem nZ {w:World}{xs:List (List Drive)}{xsA:Option Addr}{xsC:Nat}{k:Int}{fp:List Nat}(o:own true w [.slice xsA xs.length xsC] xs fp) (nd:fp.Nodup) (hk:0≤k∧k+mkL (mkL bn) xs≤4611686018427387904):Ret Tryz.prog 94 #[.slice xsA xs.length xsC,.int .i64 k] w fun v w'=>(v = .int .i64 (k+mkL (mkL bn) xs)∧∃ xs',Mut w w' fp [.slice xsA xs.length xsC] xs'∧(xs'.length=xs.length∧mkL (mkL bn) xs'=mkL (mkL bn) xs∧MkL (MkL MkDrive bn) (mkL bn) xs' k)):=by
 have len:=oL o;refine aF func94 Z ntmps94 Z (fun Q hQ hN=>?_);have H0:=Sep.begin o nd;refine ab (sA Z Z (aa (ac (ab (sA Z Z (aa (an (bg (γ:=Nat × List (List Drive) × List Nat) (fun (i,ys,f)=>[(0,.slice xsA xs.length xsC),(1,.int .i64 (k+bV (fun i=>(mkL bn) (xs.getD i default)) i)),(5,.int .i64 i)]) (fun (i,ys,f) w'=>Sep (· ∈ fp) w [mine [.slice xsA xs.length xsC] ys f] [] w'∧MkInv (MkL MkDrive bn) (mkL bn) xs k i ys∧True) (fun (i,ys,f)=>xs.length-i) (0,xs,fp) ⟨Z,eqI (by simp [bV]),Z,trivial⟩ ⟨H0,oi,trivial⟩ (fun (i,ys,f) w1 H1=>?_)))))))));obtain ⟨H1,hI,_⟩:=H1;refine ac (ac ?_);have hiB:=hI.1;have hys:=hI.2.1;refine am (sR 2 Z (sV Z (aE cC Z) (sV Z (aM Z Z) (aa (aB Z (fun c1=>?_) (fun c1=>?_))))))
 ·refine ak (ac (an ?_));have hiL:i<xs.length:=by omega
  have hat:=Aq hI;obtain ⟨sg,sl⟩:=ma (c:=(mkL bn)) hiL;have hci:(mkL bn) (ys.getD i default)=(mkL bn) (xs.getD i default):=hI.2.2.1 i;have hcu:mkL bn (ys.getD i default)=mkL bn (ys.getD i []):=Z;obtain ⟨eb1,eo1,eT1,eF1,eG1,ea1,ek1,eg1,ee1,eH1⟩:=H1.focusL 0 Z i ω
  try dsimp only[lNA,lCA,lSZ,lSS] at eH1
  refine am (sR 2 Z (sV Z (ay cC gy Z Z ee1 i ω ω) (sV Z (ag cD Z Z (bd (eH1.holAt 0 Z) 0 Z)) (sM Z Z (sC func201 BT Z (oD (eH1.mine 1 Z) (eH1.nodup1 (i:=1) Z) (by constructor<;>omega)) (fun v1 w2 r1=>?_))))));obtain ⟨rfl,mx1,mm1,ml1⟩:=r1;obtain ⟨fp1,H2⟩:=eH1.mut 1 Z mm1
  try dsimp only[lNA,lCA,lSZ,lSS] at H2
  refine sA Z Z (aa (am (sM Z Z (sV Z (aC Z Z iO) (sA Z Z (aa ?_))))));obtain ⟨fp2,H3⟩:=H2.fill 0 1 Z Z Z
  try dsimp only[lNA,lCA,lSZ,lSS] at H3
  refine ⟨(i+1,_,_),⟨Z,eqI ω,Z,trivial⟩,⟨(H3.dtake 1),sQ hI hiL (by rw [← hci]; exact ml1.2.1) ml1.2.2,trivial⟩,θ⟩
 ·refine aI (ab (sR 2 Z (rN hQ results94 Z ?_)));obtain rfl:i=xs.length:=by omega
  exact ⟨Z,_,H1.done,vj hI⟩
theorem la {w:World}{k:Int}(hk : -1000≤k∧k≤4611686018427388904):Ret Tryz.prog 320 #[.int .i64 k] w fun v w'=>Ext No w w'∧(v = .string (sX k)∧(sX k).size≤maxLen):=by
 refine aF func320 Z ntmps320 Z (fun Q hQ hN=>?_);have H0:=Sep.start (w:=w) (F:=[]) σ;refine ab (sA Z Z (aa (ac (ab (sR 2 Z (aa (aB Z (fun c1=>?_) (fun c1=>?_))))))))
 ·refine ab (rA hQ results320 Z ?_);exact ⟨H0.ext,by rw [sX,if_pos ω],by rw [sX,if_pos ω]; exact Nat.le_of_ble_eq_true Z⟩
 ·refine ak (ab (sA Z Z (aa (ac (an (bX (γ:=Nat × Nat × ByteArray) H0 [(2,_)] ⟨Z,trivial⟩ (fun (f,m,out)=>[(0,.int .i64 (m:Nat)),(3,.string out)]) (fun (f,m,out)=>(m:Int)≤k∧m<10^f∧out.size+f≤30∧digits 30 k.toNat ⟨#[]⟩=digits f m out) (fun (f,m,out)=>m) (30,k.toNat,⟨#[]⟩) ⟨eqI ω,Z,trivial⟩ ⟨ω,FM ω,by decide,Z⟩ (fun (f,m,out) w1 H1 ⟨hm,hf,ho,hd⟩=>?_)))))));dsimp only[lCA,lNA];refine ac (ab (sR 2 Z (aa (aB Z (fun c2=>?_) (fun c2=>?_)))))
  ·refine ak (an (ac ?_));have hb:=I5 (a:=(m:Int)) (b:=10) ω ω;refine am (sM Z Z (sV Z (tV Z Z ω) (sV Z (aC Z Z iO) (sV Z (jC tu3 tu5 Z) (dx aj Z aP bj Z Z Z Z H1 (fun b1 w2 e1 g1 H2=>?_))))));have H3:=H2.litW 0 Z (fH (x:=s9 (48+(m:Int).tmod 10)))
   try dsimp only[lNA,lCA,lSZ,lSS] at H3
   refine sV Z (Dx aP tu5 tu9 Z (H3.mine 0 Z)) ((sM Z Z (sV Z (ER Z Z (by rw [yW]; simp only [List.length_cons,List.length_nil]; omega)) (sA Z Z (aa ?_)))));have hb2:=IP (a:=(m:Int)) (b:=10) ω ω;refine am (sM Z Z (sV Z (DM Z Z ω iO) (sA Z Z (aa ?_))))
   rcases f with _ | f
   ·simp at hf; omega
   ·refine ⟨(f,m / 10,strB [UInt8.ofNat (48+m % 10)]++out),⟨eqI (by rw [Int.tdiv_eq_ediv_of_nonneg ω]; dsimp only; omega),Kk (by rw [JK]),Z,trivial⟩,⟨(H3.dtake 0),θ,by rw [Nat.pow_succ] at hf; dsimp only; omega,by dsimp only; rw [ByteArray.size_append,yW]; simp only [List.length_cons,List.length_nil]; omega,hd.trans (Av ω)⟩,θ⟩
  ·refine aI (ac ?_);have h1z:(⟨#[109]⟩:ByteArray).size=1:=Z;refine am (sM Z Z (sV Z (ER Z Z ω) (rA hQ results320 Z ?_)));obtain rfl:m=0:=by omega
   have hq:sX k=⟨#[109]⟩++out:=by rw [sX,if_neg ω,hd,AZ]
   exact ⟨H1.ext,by rw [hq],by rw [hq,ByteArray.size_append]; unfold maxLen; omega⟩
theorem qQ {w:World}{xs:List Rec}{xsA:Option Addr}{xsC:Nat}{k:Int}{fp:List Nat}(o:own true w [.slice xsA xs.length xsC] xs fp) (nd:fp.Nodup) (hk:0≤k∧k+mkL cO xs≤4611686018427387904):Ret Tryz.prog 202 #[.slice xsA xs.length xsC,.int .i64 k] w fun v w'=>(v = .int .i64 (k+mkL cO xs)∧∃ xs',Mut w w' fp [.slice xsA xs.length xsC] xs'∧(xs'.length=xs.length∧mkL cO xs'=mkL cO xs∧MkL MkRec cO xs' k)):=by
 have len:=oL o;refine aF func202 Z ntmps202 Z (fun Q hQ hN=>?_);have H0:=Sep.begin o nd;refine ab (sA Z Z (aa (ac (ab (sA Z Z (aa (an (bg (γ:=Nat × List Rec × List Nat) (fun (i,ys,f)=>[(0,.slice xsA xs.length xsC),(1,.int .i64 (k+bV (fun i=>cO (xs.getD i default)) i)),(5,.int .i64 i)]) (fun (i,ys,f) w'=>Sep (· ∈ fp) w [mine [.slice xsA xs.length xsC] ys f] [] w'∧MkInv MkRec cO xs k i ys∧True) (fun (i,ys,f)=>xs.length-i) (0,xs,fp) ⟨Z,eqI (by simp [bV]),Z,trivial⟩ ⟨H0,oi,trivial⟩ (fun (i,ys,f) w1 H1=>?_)))))))));obtain ⟨H1,hI,_⟩:=H1;refine ac (ac ?_);have hiB:=hI.1;have hys:=hI.2.1;refine am (sR 2 Z (sV Z (aE ba Z) (sV Z (aM Z Z) (aa (aB Z (fun c1=>?_) (fun c1=>?_))))))
 ·refine ak (ac (an (ac ?_)));have hiL:i<xs.length:=by omega
  have hat:=Aq hI;obtain ⟨sg,sl⟩:=ma (c:=cO) hiL;have hci:cO (ys.getD i default)=cO (xs.getD i default):=hI.2.2.1 i;have hcu:cO (ys.getD i default)=6+(ys.getD i default).Rows.length+(ys.getD i default).Data.length+(ys.getD i default).Delta.length:=Z;obtain ⟨eb1,eo1,eT1,eF1,eG1,ea1,ek1,ea2,ek2,ea3,ek3,eg1,eg2,eg3,ee1,eK1,eH1⟩:=Rec.focus H1 0 Z i ω;have eK1U:=eK1;unfold Rec.Ok at eK1U
  try unfold I64ok at eK1U
  try unfold maxLen at eK1U
  try dsimp only[lNA,lCA,lSZ,lSS] at eH1
  refine am (sR 3 Z (sV Z (ay ba aN Z Z ee1 i ω ω) (sF aD Z ts2 (jT aj ts2 eH1 0 0 Z Z Z Z Z (fun w2 H2=>?_)))));dsimp only[lNA,lCA,lSZ,lSS,aQ] at H2;refine aa (ab (sM Z Z (sV Z (aC Z Z iO) (sA Z Z (aa (ab (sR 3 Z (sV Z (ay ba aN Z Z ee1 i ω ω) (sF aD Z ts2 (jT aj ts2 H2 0 1 Z Z Z Z Z (fun w3 H3=>?_)))))))))));dsimp only[lNA,lCA,lSZ,lSS,aQ] at H3;refine aa (ab (sM Z Z (sV Z (aC Z Z iO) (sA Z Z (aa (ab (sR 3 Z (sC func320 vi Z (la ω) (fun v1 w4 r1=>?_)))))))));obtain ⟨e3,rfl,mt1⟩:=r1;have H4:=H3.to e3;refine sV Z (ay ba aN Z Z ee1 i ω ω) (sF aD Z ts9 (jT aj ts9 H4 0 2 Z Z Z Z Z (fun w5 H5=>?_)));dsimp only[lNA,lCA,lSZ,lSS,aQ] at H5;refine aa (ab (sM Z Z (sV Z (aC Z Z iO) (sA Z Z (aa (ab (sR 3 Z (sV Z (ay ba aN Z Z ee1 i ω ω) (sF aD Z ts2 (jT aj ts2 H5 0 3 Z Z Z Z Z (fun w6 H6=>?_)))))))))));dsimp only[lNA,lCA,lSZ,lSS,aQ] at H6;refine aa (ab (sM Z Z (sV Z (aC Z Z iO) (sA Z Z (aa (ab (sR 3 Z (sV Z (ay ba aN Z Z ee1 i ω ω) (sF aD Z ts2 (jT aj ts2 H6 0 4 Z Z Z Z Z (fun w7 H7=>?_)))))))))));dsimp only[lNA,lCA,lSZ,lSS,aQ] at H7;refine aa (ab (sM Z Z (sV Z (aC Z Z iO) (sA Z Z (aa (ab (sR 3 Z (sV Z (ay ba aN Z Z ee1 i ω ω) (sF aD Z ts2 (jT aj ts2 H7 0 5 Z Z Z Z Z (fun w8 H8=>?_)))))))))));dsimp only[lNA,lCA,lSZ,lSS,aQ] at H8;refine aa (ab (sM Z Z (sV Z (aC Z Z iO) (sA Z Z (aa (ab (sR 2 Z (sV Z (ay ba aN Z Z ee1 i ω ω) (sF aD Z bY (sV Z (ag bp Z Z (bd (H8.holAt 0 Z) 6 Z)) (sM Z Z (sC func95 yP Z (jv (H8.mine 2 Z) (H8.nodup1 (i:=2) Z) (by constructor<;>omega)) (fun v2 w9 r2=>?_)))))))))))));obtain ⟨rfl,mx1,mm1,ml1,mk1⟩:=r2;obtain ⟨fp1,H9⟩:=H8.mut 2 Z mm1
  try dsimp only[lNA,lCA,lSZ,lSS] at H9
  refine sA Z Z (aa (ab (sR 2 Z (sV Z (ay ba aN Z Z ee1 i ω ω) (sF aD Z aY (sV Z (ag aP Z Z (bd (H9.holAt 0 Z) 7 Z)) (sM Z Z (sC func114 qW Z (gA (H9.mine 3 Z) (H9.nodup1 (i:=3) Z) (by constructor<;>omega)) (fun v3 w10 r3=>?_)))))))));obtain ⟨rfl,mx2,mm2,ml2,mk2⟩:=r3;obtain ⟨fp2,H10⟩:=H9.mut 3 Z mm2
  try dsimp only[lNA,lCA,lSZ,lSS] at H10
  refine sA Z Z (aa (am (sR 2 Z (sV Z (ay ba aN Z Z ee1 i ω ω) (sF aD Z aY (sV Z (ag aP Z Z (bd (H10.holAt 0 Z) 8 Z)) (sM Z Z (sC func114 qW Z (gA (H10.mine 4 Z) (H10.nodup1 (i:=4) Z) (by constructor<;>omega)) (fun v4 w11 r4=>?_)))))))));obtain ⟨rfl,mx3,mm3,ml3,mk3⟩:=r4;obtain ⟨fp3,H11⟩:=H10.mut 4 Z mm3
  try dsimp only[lNA,lCA,lSZ,lSS] at H11
  refine sA Z Z (aa (am (sM Z Z (sV Z (aC Z Z iO) (sA Z Z (aa ?_))))));have okz:(⟨(k+bV (fun i=>cO (xs.getD i default)) i),(k+bV (fun i=>cO (xs.getD i default)) i)+1,sX ((k+bV (fun i=>cO (xs.getD i default)) i)+1+1),(k+bV (fun i=>cO (xs.getD i default)) i)+1+1+1,(k+bV (fun i=>cO (xs.getD i default)) i)+1+1+1+1,(k+bV (fun i=>cO (xs.getD i default)) i)+1+1+1+1+1,mx1,mx2,mx3⟩:Rec).Ok:=by unfold Rec.Ok I64ok; dsimp only; omega
  obtain ⟨fp4,H12⟩:=Rec.fill H11 0 2 3 4 Z Z Z Z Z Z Z Z Z Z okz
  try dsimp only[lNA,lCA,lSZ,lSS] at H12
  refine ⟨(i+1,_,_),⟨Z,eqI ω,Z,trivial⟩,⟨(H12.dtake 1),sQ hI hiL (by rw [← hci]; unfold cO; dsimp only; omega) (by
   refine ⟨Z,Z,?_,θ,θ,θ,?_,?_,?_⟩
   ·dsimp only; congr 1; omega
   ·have:=mk1; dsimp only; rwa [show (k+bV (fun i=>cO (xs.getD i default)) i)+1+1+1+1+1+1=(k+bV (fun i=>cO (xs.getD i default)) i)+6 by omega] at this
   ·have:=mk2; dsimp only; rwa [show (k+bV (fun i=>cO (xs.getD i default)) i)+1+1+1+1+1+1+((ys.getD i default).Rows.length:Int)=(k+bV (fun i=>cO (xs.getD i default)) i)+6+mx1.length by omega] at this
   ·have:=mk3; dsimp only; rwa [show (k+bV (fun i=>cO (xs.getD i default)) i)+1+1+1+1+1+1+((ys.getD i default).Rows.length:Int)+((ys.getD i default).Data.length:Int)=(k+bV (fun i=>cO (xs.getD i default)) i)+6+mx1.length+mx2.length by omega] at this),trivial⟩,θ⟩
 ·refine aI (ab (sR 2 Z (rN hQ results202 Z ?_)));obtain rfl:i=xs.length:=by omega
  exact ⟨Z,_,H1.done,vj hI⟩
theorem pI {w:World}{xs:List Tape}{xsA:Option Addr}{xsC:Nat}{k:Int}{fp:List Nat}(o:own true w [.slice xsA xs.length xsC] xs fp) (nd:fp.Nodup) (hk:0≤k∧k+mkL dt xs≤4611686018427387904):Ret Tryz.prog 96 #[.slice xsA xs.length xsC,.int .i64 k] w fun v w'=>(v = .int .i64 (k+mkL dt xs)∧∃ xs',Mut w w' fp [.slice xsA xs.length xsC] xs'∧(xs'.length=xs.length∧mkL dt xs'=mkL dt xs∧MkL MkTape dt xs' k)):=by
 have len:=oL o;refine aF func96 Z ntmps96 Z (fun Q hQ hN=>?_);have H0:=Sep.begin o nd;refine ab (sA Z Z (aa (ac (ab (sA Z Z (aa (an (bg (γ:=Nat × List Tape × List Nat) (fun (i,ys,f)=>[(0,.slice xsA xs.length xsC),(1,.int .i64 (k+bV (fun i=>dt (xs.getD i default)) i)),(5,.int .i64 i)]) (fun (i,ys,f) w'=>Sep (· ∈ fp) w [mine [.slice xsA xs.length xsC] ys f] [] w'∧MkInv MkTape dt xs k i ys∧True) (fun (i,ys,f)=>xs.length-i) (0,xs,fp) ⟨Z,eqI (by simp [bV]),Z,trivial⟩ ⟨H0,oi,trivial⟩ (fun (i,ys,f) w1 H1=>?_)))))))));obtain ⟨H1,hI,_⟩:=H1;refine ac (ac ?_);have hiB:=hI.1;have hys:=hI.2.1;refine am (sR 2 Z (sV Z (aE ce Z) (sV Z (aM Z Z) (aa (aB Z (fun c1=>?_) (fun c1=>?_))))))
 ·refine ak (ac (an (ac ?_)));have hiL:i<xs.length:=by omega
  have hat:=Aq hI;obtain ⟨sg,sl⟩:=ma (c:=dt) hiL;have hci:dt (ys.getD i default)=dt (xs.getD i default):=hI.2.2.1 i;have hcu:dt (ys.getD i default)=1+mkL cO (ys.getD i default).Recs:=Z;obtain ⟨eb1,eo1,eT1,eF1,eG1,ea1,ek1,eg1,ee1,eK1,eH1⟩:=Tape.focus H1 0 Z i ω;have eK1U:=eK1;unfold Tape.Ok at eK1U
  try unfold I64ok at eK1U
  try unfold maxLen at eK1U
  try dsimp only[lNA,lCA,lSZ,lSS] at eH1
  refine am (sR 3 Z (sV Z (tV Z Z ω) (sV Z (bP Z Z) (sV Z (ay ce cK Z Z ee1 i ω ω) (sF cz Z ts4 (jT aj ts4 eH1 0 0 Z Z Z Z Z (fun w2 H2=>?_)))))));dsimp only[lNA,lCA,lSZ,lSS,aQ] at H2;refine aa (ab (sM Z Z (sV Z (aC Z Z iO) (sA Z Z (aa (am (sR 2 Z (sV Z (ay ce cK Z Z ee1 i ω ω) (sF cz Z fa (sV Z (ag ba Z Z (bd (H2.holAt 0 Z) 1 Z)) (sM Z Z (sC func202 CX Z (qQ (H2.mine 2 Z) (H2.nodup1 (i:=2) Z) (by constructor<;>omega)) (fun v1 w3 r1=>?_)))))))))))));obtain ⟨rfl,mx1,mm1,ml1⟩:=r1;obtain ⟨fp1,H3⟩:=H2.mut 2 Z mm1
  try dsimp only[lNA,lCA,lSZ,lSS] at H3
  refine sA Z Z (aa (am (sM Z Z (sV Z (aC Z Z iO) (sA Z Z (aa ?_))))));have okz:(⟨decide ((k+bV (fun i=>dt (xs.getD i default)) i).tmod 3=0),mx1⟩:Tape).Ok:=trivial;obtain ⟨fp2,H4⟩:=Tape.fill H3 0 2 Z Z Z okz
  try dsimp only[lNA,lCA,lSZ,lSS] at H4
  refine ⟨(i+1,_,_),⟨Z,eqI ω,Z,trivial⟩,⟨(H4.dtake 1),sQ hI hiL (by rw [← hci]; unfold dt; dsimp only; rw [ml1.2.1]) ⟨Z,ml1.2.2⟩,trivial⟩,θ⟩
 ·refine aI (ab (sR 2 Z (rN hQ results96 Z ?_)));obtain rfl:i=xs.length:=by omega
  exact ⟨Z,_,H1.done,vj hI⟩
end Go.Wk
namespace Go.Wk
open Go.Proofs Rp Go.Proofs.Tryz
set_option maxRecDepth 10000
theorem kc {w:World}{x:Wld}{xA9 xA10 xA11:Option Addr}{xC9 xC10 xC11:Nat}{k:Int}{fp:List Nat}(xK:x.Ok) (o:own true w [.int .i64 x.Shape.Groups,.int .i64 x.Shape.Column,.int .i64 x.Shape.Data,.int .i64 x.Shape.Spare,.int .i64 x.Shape.Rows,.int .i64 x.Shape.Cap,.int .i64 x.Shape.Batch,.int .i64 x.Shape.Queue,.int .i64 x.Shape.Stage,.slice xA9 x.Groups.length xC9,.slice xA10 x.On.length xC10,.slice xA11 x.Tapes.length xC11,.int .i64 x.Writes,.int .i64 x.Stop,.bool x.Down] x fp) (nd:fp.Nodup) (hk:0≤k∧k+bW x≤4611686018427387904):Ret Tryz.prog 21 #[x.val xA9 xC9 xA10 xC10 xA11 xC11,.int .i64 k] w fun v w'=>(v = .int .i64 (k+bW x)∧∃ x':Wld,Mut w w' fp [.int .i64 x.Shape.Groups,.int .i64 x.Shape.Column,.int .i64 x.Shape.Data,.int .i64 x.Shape.Spare,.int .i64 x.Shape.Rows,.int .i64 x.Shape.Cap,.int .i64 x.Shape.Batch,.int .i64 x.Shape.Queue,.int .i64 x.Shape.Stage,.slice xA9 x.Groups.length xC9,.slice xA10 x.On.length xC10,.slice xA11 x.Tapes.length xC11,.int .i64 x.Writes,.int .i64 x.Stop,.bool x.Down] x'∧(x'.Groups.length=x.Groups.length∧x'.On.length=x.On.length∧x'.Tapes.length=x.Tapes.length∧bW x'=bW x∧MkWld x' k∧x'.Shape=x.Shape∧x'.Writes=x.Writes∧x'.Stop=x.Stop∧x'.Down=x.Down)):=by
 unfold bW at hk;refine aF func21 Z ntmps21 Z (fun Q hQ hN=>?_);obtain ⟨f9,f10,f11,ef,ok,o9,o10,o11⟩:=fz o;have H0:=(Sep.begin o nd).part 0 Z [mine [.slice xA9 x.Groups.length xC9] x.Groups f9,mine [.slice xA10 x.On.length xC10] x.On f10,mine [.slice xA11 x.Tapes.length xC11] x.Tapes f11] (all_cons o9 (all_cons o10 (all_cons o11 σ))) (by simp [blocks,mine,ef])
 try dsimp only[lNA,lCA,lSZ,lSS] at H0
 refine ab (bf aj Z Z H0 (fun b1 w1 e1 g1 H1=>sA Z Z (aa (ab (sF aX Z eG (sLd cC (H1.box 4 Z) Z (sM Z Z (sC func94 Gd Z (nZ (H1.mine 1 Z) (H1.nodup1 (i:=1) Z) (by constructor<;>omega)) (fun v1 w2 r1=>?_)))))))));obtain ⟨rfl,mx1,mm1,ml1⟩:=r1;obtain ⟨fp1,H2⟩:=H1.mut 1 Z mm1
 try dsimp only[lNA,lCA,lSZ,lSS] at H2
 refine sA Z Z (aa (ab (sF aX Z bY (sLd bp (H2.box 4 Z) Z (sM Z Z (sC func95 yP Z (jv (H2.mine 2 Z) (H2.nodup1 (i:=2) Z) (by constructor<;>omega)) (fun v2 w3 r2=>?_)))))));obtain ⟨rfl,mx2,mm2,ml2,mk1⟩:=r2;obtain ⟨fp2,H3⟩:=H2.mut 2 Z mm2
 try dsimp only[lNA,lCA,lSZ,lSS] at H3
 refine sA Z Z (aa (ab (sF aX Z ex (sLd ce (H3.box 4 Z) Z (sM Z Z (sC func96 Gq Z (pI (H3.mine 3 Z) (H3.nodup1 (i:=3) Z) (by constructor<;>omega)) (fun v3 w4 r3=>?_)))))));obtain ⟨rfl,mx3,mm3,ml3⟩:=r3;obtain ⟨fp3,H4⟩:=H3.mut 3 Z mm3
 try dsimp only[lNA,lCA,lSZ,lSS] at H4
 refine sA Z Z (aa (ab (sR 2 Z (rN hQ results21 Z ?_))));exact ⟨congrArg (Value.int .i64) (by unfold bW; omega),Wld.mkOut ok (H4.dtake 4) ml1 ml2 mk1 ml3⟩
end Go.Wk
namespace Go.Wk
open Go.Proofs Rp Go.Proofs.Tryz
set_option maxRecDepth 10000
theorem oz {w:World}{xs:List Block}{xsA:Option Addr}{xsC:Nat}{k:Int}(xsS:Sees w [.slice xsA xs.length xsC] xs) (hk:0≤k∧k+mkL cJ xs≤4611686018427387904) (hm:MkL MkBlock cJ xs k):Ret Tryz.prog 397 #[.slice xsA xs.length xsC,.int .i64 k] w fun v w'=>Ext No w w'∧(v = .int .i64 (k+mkL cJ xs)):=by
 have xsL:=sL xsS;obtain ⟨xsF,xsO⟩:=xsS;refine aF func397 Z ntmps397 Z (fun Q hQ hN=>?_);have H0:=Sep.start (ae xsO aA);refine ab (sA Z Z (aa (ac (ab (sA Z Z (aa (an (bX (γ:=Nat) H0 [(0,_)] ⟨Z,trivial⟩ (fun i=>[(1,.int .i64 (k+bV (fun i=>cJ (xs.getD i default)) i)),(5,.int .i64 i)]) (fun i=>i≤xs.length∧True) (fun i=>xs.length-i) 0 ⟨eqI (by simp [bV]),Z,trivial⟩ ⟨ω,trivial⟩ (fun i w1 H1 ⟨hi,_⟩=>?_)))))))));dsimp only[lCA,lNA];refine ac (ab (sR 2 Z (sV Z (aE dH Z) (sV Z (aM Z Z) (aa (aB Z (fun c1=>?_) (fun c1=>?_)))))))
 ·refine ak (ac (an (ac (ac ?_))));have hmi:=hm i ω;obtain ⟨sg,sl⟩:=ma (c:=cJ) (xs:=xs) (i:=i) ω;have hcu:cJ (xs.getD i default)=1+(xs.getD i default).Bytes.length:=Z;obtain ⟨hm1,hm2⟩:=hmi;obtain ⟨eb1,eo1,es1,ef1,ee1,ec1,eO1,eH1,em1⟩:=aV (H1.seen 0 Z) i ω;obtain ⟨ea1,ek1,eg1,rfl,eq1,eK1,eo2⟩:=dP eO1;have eK1U:=eK1;unfold Block.Ok at eK1U
  try unfold I64ok at eK1U
  try unfold maxLen at eK1U
  have eP1:=H1.look1 0 Z eo2 (fun b hb=>eH1 b (by rw [eq1]; simp [hb]));have eL1:=oL eo2;refine am (sR 2 Z (sV Z (ay dH fG Z Z ee1 i ω ω) (sF gI Z ts2 (sV Z (ag tu2 Z Z (bd ec1 0 Z)) (sR 2 Z (aa (aB Z (fun c2=>?_) (fun c2=>?_))))))))
  ·exact absurd hm1 c2
  ·refine ak (ab (sM Z Z (sV Z (aC Z Z iO) (sA Z Z (aa (ac ?_))))));obtain ⟨eb2,eo3,es2,ef2,ee2,ec2,eO2,eH2,em2⟩:=aV (eP1.seen 0 Z) i ω;obtain ⟨ea2,ek2,eg2,rfl,eq2,eK2,eo4⟩:=dP eO2;have eK2U:=eK2;unfold Block.Ok at eK2U
   try unfold I64ok at eK2U
   try unfold maxLen at eK2U
   have eP2:=eP1.look1 0 Z eo4 (fun b hb=>eH2 b (by rw [eq2]; simp [hb]));have eL2:=oL eo4;refine am (sR 2 Z (sV Z (ay dH fG Z Z ee2 i ω ω) (sF gI Z aY (sV Z (ag aP Z Z (bd ec2 1 Z)) (sM Z Z (sE func115 qg Z (gG (eP2.sees 2 Z) (by constructor<;>omega) η) eP2 (fun w2 e1 H2=>sA Z Z (aa (ab (sR 2 Z (aa (aB Z (fun c3=>?_) (fun c3=>?_)))))))))))))
   ·exact absurd c3 ω
   ·refine ak (am (sM Z Z (sV Z (aC Z Z iO) (sA Z Z (aa (⟨i+1,⟨eqI ω,Z,Z,trivial⟩,⟨(H2.ftake 1),ω,trivial⟩,θ⟩))))))
 ·refine aI (ab (sR 2 Z (rN hQ results397 Z ?_)));obtain rfl:i=xs.length:=by omega
  exact ⟨H1.ext,Z⟩
theorem ot {w:World}{xs:List Drive}{xsA:Option Addr}{xsC:Nat}{k:Int}(xsS:Sees w [.slice xsA xs.length xsC] xs) (hk:0≤k∧k+mkL bn xs≤4611686018427387904) (hm:MkL MkDrive bn xs k):Ret Tryz.prog 321 #[.slice xsA xs.length xsC,.int .i64 k] w fun v w'=>Ext No w w'∧(v = .int .i64 (k+mkL bn xs)):=by
 have xsL:=sL xsS;obtain ⟨xsF,xsO⟩:=xsS;refine aF func321 Z ntmps321 Z (fun Q hQ hN=>?_);have H0:=Sep.start (ae xsO aA);refine ab (sA Z Z (aa (ac (ab (sA Z Z (aa (an (bX (γ:=Nat) H0 [(0,_)] ⟨Z,trivial⟩ (fun i=>[(1,.int .i64 (k+bV (fun i=>bn (xs.getD i default)) i)),(5,.int .i64 i)]) (fun i=>i≤xs.length∧True) (fun i=>xs.length-i) 0 ⟨eqI (by simp [bV]),Z,trivial⟩ ⟨ω,trivial⟩ (fun i w1 H1 ⟨hi,_⟩=>?_)))))))));dsimp only[lCA,lNA];refine ac (ab (sR 2 Z (sV Z (aE cD Z) (sV Z (aM Z Z) (aa (aB Z (fun c1=>?_) (fun c1=>?_)))))))
 ·refine ak (ac (an (ac (ac ?_))));have hmi:=hm i ω;obtain ⟨sg,sl⟩:=ma (c:=bn) (xs:=xs) (i:=i) ω;have hcu:bn (xs.getD i default)=1+mkL cJ (xs.getD i default).Blocks:=Z;obtain ⟨hm1,hm2⟩:=hmi;obtain ⟨eb1,eo1,es1,ef1,ee1,ec1,eO1,eH1,em1⟩:=aV (H1.seen 0 Z) i ω;obtain ⟨ea1,ek1,eg1,rfl,eq1,eK1,eo2⟩:=cH eO1;have eP1:=H1.look1 0 Z eo2 (fun b hb=>eH1 b (by rw [eq1]; simp [hb]));have eL1:=oL eo2;refine am (sR 2 Z (sV Z (ay cD eq Z Z ee1 i ω ω) (sF dW Z ts4 (sV Z (ag tu4 Z Z (bd ec1 0 Z)) (sM Z Z (sV Z (tV Z Z ω) (sV Z (bP Z Z) (sV Z (sU tu4 Z Z) (aa (bJ Z (fun c2=>?_) (fun c2=>?_)))))))))))
  ·exfalso; rw [hm1] at c2; simp at c2
  ·refine ak (ab (sM Z Z (sV Z (aC Z Z iO) (sA Z Z (aa (ac ?_))))));obtain ⟨eb2,eo3,es2,ef2,ee2,ec2,eO2,eH2,em2⟩:=aV (eP1.seen 0 Z) i ω;obtain ⟨ea2,ek2,eg2,rfl,eq2,eK2,eo4⟩:=cH eO2;have eP2:=eP1.look1 0 Z eo4 (fun b hb=>eH2 b (by rw [eq2]; simp [hb]));have eL2:=oL eo4;refine am (sR 2 Z (sV Z (ay cD eq Z Z ee2 i ω ω) (sF dW Z jN (sV Z (ag dH Z Z (bd ec2 1 Z)) (sM Z Z (sE func397 BK Z (oz (eP2.sees 2 Z) (by constructor<;>omega) η) eP2 (fun w2 e1 H2=>sA Z Z (aa (ab (sR 2 Z (aa (aB Z (fun c3=>?_) (fun c3=>?_)))))))))))))
   ·exact absurd c3 ω
   ·refine ak (am (sM Z Z (sV Z (aC Z Z iO) (sA Z Z (aa (⟨i+1,⟨eqI ω,Z,Z,trivial⟩,⟨(H2.ftake 1),ω,trivial⟩,θ⟩))))))
 ·refine aI (ab (sR 2 Z (rN hQ results321 Z ?_)));obtain rfl:i=xs.length:=by omega
  exact ⟨H1.ext,Z⟩
theorem nT {w:World}{xs:List (List Drive)}{xsA:Option Addr}{xsC:Nat}{k:Int}(xsS:Sees w [.slice xsA xs.length xsC] xs) (hk:0≤k∧k+mkL (mkL bn) xs≤4611686018427387904) (hm:MkL (MkL MkDrive bn) (mkL bn) xs k):Ret Tryz.prog 203 #[.slice xsA xs.length xsC,.int .i64 k] w fun v w'=>Ext No w w'∧(v = .int .i64 (k+mkL (mkL bn) xs)):=by
 have xsL:=sL xsS;obtain ⟨xsF,xsO⟩:=xsS;refine aF func203 Z ntmps203 Z (fun Q hQ hN=>?_);have H0:=Sep.start (ae xsO aA);refine ab (sA Z Z (aa (ac (ab (sA Z Z (aa (an (bX (γ:=Nat) H0 [(0,_)] ⟨Z,trivial⟩ (fun i=>[(1,.int .i64 (k+bV (fun i=>(mkL bn) (xs.getD i default)) i)),(5,.int .i64 i)]) (fun i=>i≤xs.length∧True) (fun i=>xs.length-i) 0 ⟨eqI (by simp [bV]),Z,trivial⟩ ⟨ω,trivial⟩ (fun i w1 H1 ⟨hi,_⟩=>?_)))))))));dsimp only[lCA,lNA];refine ac (ab (sR 2 Z (sV Z (aE cC Z) (sV Z (aM Z Z) (aa (aB Z (fun c1=>?_) (fun c1=>?_)))))))
 ·refine ak (ac (an (ac ?_)));have hmi:=hm i ω;obtain ⟨sg,sl⟩:=ma (c:=(mkL bn)) (xs:=xs) (i:=i) ω;have hcu:mkL bn (xs.getD i default)=mkL bn (xs.getD i []):=Z;have hm2:MkL MkDrive bn (xs.getD i []) ((k+bV (fun i=>(mkL bn) (xs.getD i default)) i)):=hmi;obtain ⟨eb1,eo1,ea1,ek1,ef1,ee1,ec1,eO1,eH1⟩:=cm (H1.seen 0 Z) i ω;have eP1:=H1.look1 0 Z eO1 eH1;refine am (sR 2 Z (sV Z (ay cC gy Z Z ee1 i ω ω) (sV Z (ag cD Z Z ec1) (sM Z Z (sE func321 DG Z (ot (eP1.sees 1 Z) (by constructor<;>omega) η) eP1 (fun w2 e1 H2=>sA Z Z (aa (ab (sR 2 Z (aa (aB Z (fun c2=>?_) (fun c2=>?_))))))))))))
  ·exact absurd c2 ω
  ·refine ak (am (sM Z Z (sV Z (aC Z Z iO) (sA Z Z (aa (⟨i+1,⟨eqI ω,Z,Z,trivial⟩,⟨(H2.ftake 1),ω,trivial⟩,θ⟩))))))
 ·refine aI (ab (sR 2 Z (rN hQ results203 Z ?_)));obtain rfl:i=xs.length:=by omega
  exact ⟨H1.ext,Z⟩
set_option maxHeartbeats 1000000 in
theorem qo {w:World}{xs:List Rec}{xsA:Option Addr}{xsC:Nat}{k:Int}(xsS:Sees w [.slice xsA xs.length xsC] xs) (hk:0≤k∧k+mkL cO xs≤4611686018427387904) (hm:MkL MkRec cO xs k):Ret Tryz.prog 322 #[.slice xsA xs.length xsC,.int .i64 k] w fun v w'=>Ext No w w'∧(v = .int .i64 (k+mkL cO xs)):=by
 have xsL:=sL xsS;obtain ⟨xsF,xsO⟩:=xsS;refine aF func322 Z ntmps322 Z (fun Q hQ hN=>?_);have H0:=Sep.start (ae xsO aA);refine ab (sA Z Z (aa (ac (ab (sA Z Z (aa (an (bX (γ:=Nat) H0 [(0,_)] ⟨Z,trivial⟩ (fun i=>[(1,.int .i64 (k+bV (fun i=>cO (xs.getD i default)) i)),(5,.int .i64 i)]) (fun i=>i≤xs.length∧True) (fun i=>xs.length-i) 0 ⟨eqI (by simp [bV]),Z,trivial⟩ ⟨ω,trivial⟩ (fun i w1 H1 ⟨hi,_⟩=>?_)))))))));dsimp only[lCA,lNA];refine ac (ab (sR 2 Z (sV Z (aE ba Z) (sV Z (aM Z Z) (aa (aB Z (fun c1=>?_) (fun c1=>?_)))))))
 ·refine ak (ac (an (ac (ac ?_))));have hmi:=hm i ω;obtain ⟨sg,sl⟩:=ma (c:=cO) (xs:=xs) (i:=i) ω;have hcu:cO (xs.getD i default)=6+(xs.getD i default).Rows.length+(xs.getD i default).Data.length+(xs.getD i default).Delta.length:=Z;obtain ⟨m1,m2,m3,m4,m5,m6,m7,m8,m9⟩:=hmi;have n3:(xs.getD i default).Name=sX ((k+bV (fun i=>cO (xs.getD i default)) i)+1+1):=by rw [m3]; congr 1; omega
  have n7:MarkI (xs.getD i default).Rows ((k+bV (fun i=>cO (xs.getD i default)) i)+1+1+1+1+1+1):=by rwa [show (k+bV (fun i=>cO (xs.getD i default)) i)+1+1+1+1+1+1=(k+bV (fun i=>cO (xs.getD i default)) i)+6 by omega]
  have n8:MarkB (xs.getD i default).Data ((k+bV (fun i=>cO (xs.getD i default)) i)+1+1+1+1+1+1+(xs.getD i default).Rows.length):=by rwa [show (k+bV (fun i=>cO (xs.getD i default)) i)+1+1+1+1+1+1=(k+bV (fun i=>cO (xs.getD i default)) i)+6 by omega]
  have n9:MarkB (xs.getD i default).Delta ((k+bV (fun i=>cO (xs.getD i default)) i)+1+1+1+1+1+1+(xs.getD i default).Rows.length+(xs.getD i default).Data.length):=by rwa [show (k+bV (fun i=>cO (xs.getD i default)) i)+1+1+1+1+1+1=(k+bV (fun i=>cO (xs.getD i default)) i)+6 by omega]
  obtain ⟨eb1,eo1,es1,ef1,ee1,ec1,eO1,eH1,em1⟩:=aV (H1.seen 0 Z) i ω;obtain ⟨ea1,ek1,ea2,ek2,ea3,ek3,eg1,eg2,eg3,rfl,eq1,eK1,eo2,eo3,eo4⟩:=cT eO1;have eK1U:=eK1;unfold Rec.Ok at eK1U
  try unfold I64ok at eK1U
  try unfold maxLen at eK1U
  refine am (sR 2 Z (sV Z (ay ba aN Z Z ee1 i ω ω) (sF aD Z ts2 (sV Z (ag tu2 Z Z (bd ec1 0 Z)) (sR 2 Z (aa (aB Z (fun c2=>?_) (fun c2=>?_))))))))
  ·exact absurd c2 ω
  ·refine ak (ab (sM Z Z (sV Z (aC Z Z iO) (sA Z Z (aa (ac (ac ?_)))))));obtain ⟨eb2,eo5,es2,ef2,ee2,ec2,eO2,eH2,em2⟩:=aV (H1.seen 0 Z) i ω;obtain ⟨ea4,ek4,ea5,ek5,ea6,ek6,eg4,eg5,eg6,rfl,eq2,eK2,eo6,eo7,eo8⟩:=cT eO2;have eK2U:=eK2;unfold Rec.Ok at eK2U
   try unfold I64ok at eK2U
   try unfold maxLen at eK2U
   refine am (sR 2 Z (sV Z (ay ba aN Z Z ee2 i ω ω) (sF aD Z ts2 (sV Z (ag tu2 Z Z (bd ec2 1 Z)) (sR 2 Z (aa (aB Z (fun c3=>?_) (fun c3=>?_))))))))
   ·exact absurd c3 ω
   ·refine ak (ab (sM Z Z (sV Z (aC Z Z iO) (sA Z Z (aa (ac (ac ?_)))))));obtain ⟨eb3,eo9,es3,ef3,ee3,ec3,eO3,eH3,em3⟩:=aV (H1.seen 0 Z) i ω;obtain ⟨ea7,ek7,ea8,ek8,ea9,ek9,eg7,eg8,eg9,rfl,eq3,eK3,eo10,eo11,eo12⟩:=cT eO3;have eK3U:=eK3;unfold Rec.Ok at eK3U
    try unfold I64ok at eK3U
    try unfold maxLen at eK3U
    refine bH (S:=Ext No _) (oQ [1,3,5,7,9,11,12,14]) κ κ κ Z (fun _=>Ext.refl.drawn _) (fun q1=>?_);have H2:=H1.drawn q1;refine dR 2 Z (dV Z Z (fun zw hx=>ay ba aN Z Z ee3 i ω ω) (dV Z Z (fun zw hx=>ah aD Z ts9 Z Z) (dV Z Z (fun zw hx=>ag tu9 Z Z (bd (hx.at ec3) 2 Z)) (dM Z Z Z (dC func320 vi Z (la ω) (fun v1 w2 r1=>?_))))));obtain ⟨e1,rfl,mt1⟩:=r1;have H3:=H2.to e1;refine aT Z aj Z Z (EW Z Z) (aU (bJ Z (fun c4=>?_) (fun c4=>?_)))
    ·exfalso; rw [n3] at c4; simp at c4
    ·refine ak (ab (sM Z Z (sV Z (aC Z Z iO) (sA Z Z (aa (ac (ac ?_)))))));obtain ⟨eb4,eo13,es4,ef4,ee4,ec4,eO4,eH4,em4⟩:=aV (H3.seen 0 Z) i ω;obtain ⟨ea10,ek10,ea11,ek11,ea12,ek12,eg10,eg11,eg12,rfl,eq4,eK4,eo14,eo15,eo16⟩:=cT eO4;have eK4U:=eK4;unfold Rec.Ok at eK4U
     try unfold I64ok at eK4U
     try unfold maxLen at eK4U
     refine am (sR 2 Z (sV Z (ay ba aN Z Z ee4 i ω ω) (sF aD Z ts2 (sV Z (ag tu2 Z Z (bd ec4 3 Z)) (sR 2 Z (aa (aB Z (fun c5=>?_) (fun c5=>?_))))))))
     ·exact absurd c5 ω
     ·refine ak (ab (sM Z Z (sV Z (aC Z Z iO) (sA Z Z (aa (ac (ac ?_)))))));obtain ⟨eb5,eo17,es5,ef5,ee5,ec5,eO5,eH5,em5⟩:=aV (H3.seen 0 Z) i ω;obtain ⟨ea13,ek13,ea14,ek14,ea15,ek15,eg13,eg14,eg15,rfl,eq5,eK5,eo18,eo19,eo20⟩:=cT eO5;have eK5U:=eK5;unfold Rec.Ok at eK5U
      try unfold I64ok at eK5U
      try unfold maxLen at eK5U
      refine am (sR 2 Z (sV Z (ay ba aN Z Z ee5 i ω ω) (sF aD Z ts2 (sV Z (ag tu2 Z Z (bd ec5 4 Z)) (sR 2 Z (aa (aB Z (fun c6=>?_) (fun c6=>?_))))))))
      ·exact absurd c6 ω
      ·refine ak (ab (sM Z Z (sV Z (aC Z Z iO) (sA Z Z (aa (ac (ac ?_)))))));obtain ⟨eb6,eo21,es6,ef6,ee6,ec6,eO6,eH6,em6⟩:=aV (H3.seen 0 Z) i ω;obtain ⟨ea16,ek16,ea17,ek17,ea18,ek18,eg16,eg17,eg18,rfl,eq6,eK6,eo22,eo23,eo24⟩:=cT eO6;have eK6U:=eK6;unfold Rec.Ok at eK6U
       try unfold I64ok at eK6U
       try unfold maxLen at eK6U
       refine am (sR 2 Z (sV Z (ay ba aN Z Z ee6 i ω ω) (sF aD Z ts2 (sV Z (ag tu2 Z Z (bd ec6 5 Z)) (sR 2 Z (aa (aB Z (fun c7=>?_) (fun c7=>?_))))))))
       ·exact absurd c7 ω
       ·refine ak (ab (sM Z Z (sV Z (aC Z Z iO) (sA Z Z (aa (ac ?_))))));obtain ⟨eb7,eo25,es7,ef7,ee7,ec7,eO7,eH7,em7⟩:=aV (H3.seen 0 Z) i ω;obtain ⟨ea19,ek19,ea20,ek20,ea21,ek21,eg19,eg20,eg21,rfl,eq7,eK7,eo26,eo27,eo28⟩:=cT eO7;have eK7U:=eK7;unfold Rec.Ok at eK7U
        try unfold I64ok at eK7U
        try unfold maxLen at eK7U
        have eP1:=H3.look1 0 Z eo26 (fun b hb=>eH7 b (by rw [eq7]; simp [hb]));have eL1:=oL eo26;refine am (sR 2 Z (sV Z (ay ba aN Z Z ee7 i ω ω) (sF aD Z bY (sV Z (ag bp Z Z (bd ec7 6 Z)) (sM Z Z (sE func204 wH Z (jL (eP1.sees 1 Z) (by constructor<;>omega) η) eP1 (fun w3 e2 H4=>sA Z Z (aa (ac (ab (sR 2 Z (aa (aB Z (fun c8=>?_) (fun c8=>?_))))))))))))))
        ·exact absurd c8 ω
        ·refine ak (ac ?_);obtain ⟨eb8,eo29,es8,ef8,ee8,ec8,eO8,eH8,em8⟩:=aV (H4.seen 0 Z) i ω;obtain ⟨ea22,ek22,ea23,ek23,ea24,ek24,eg22,eg23,eg24,rfl,eq8,eK8,eo30,eo31,eo32⟩:=cT eO8;have eK8U:=eK8;unfold Rec.Ok at eK8U
         try unfold I64ok at eK8U
         try unfold maxLen at eK8U
         have eP2:=H4.look1 0 Z eo31 (fun b hb=>eH8 b (by rw [eq8]; simp [hb]));have eL2:=oL eo31;refine am (sR 2 Z (sV Z (ay ba aN Z Z ee8 i ω ω) (sF aD Z aY (sV Z (ag aP Z Z (bd ec8 7 Z)) (sM Z Z (sE func115 qg Z (gG (eP2.sees 2 Z) (by constructor<;>omega) η) eP2 (fun w4 e3 H5=>sA Z Z (aa (ac (ab (sR 2 Z (aa (aB Z (fun c9=>?_) (fun c9=>?_))))))))))))))
         ·exact absurd c9 ω
         ·refine ak (ac ?_);obtain ⟨eb9,eo33,es9,ef9,ee9,ec9,eO9,eH9,em9⟩:=aV (H5.seen 0 Z) i ω;obtain ⟨ea25,ek25,ea26,ek26,ea27,ek27,eg25,eg26,eg27,rfl,eq9,eK9,eo34,eo35,eo36⟩:=cT eO9;have eK9U:=eK9;unfold Rec.Ok at eK9U
          try unfold I64ok at eK9U
          try unfold maxLen at eK9U
          have eP3:=H5.look1 0 Z eo36 (fun b hb=>eH9 b (by rw [eq9]; simp [hb]));have eL3:=oL eo36;refine am (sR 2 Z (sV Z (ay ba aN Z Z ee9 i ω ω) (sF aD Z aY (sV Z (ag aP Z Z (bd ec9 8 Z)) (sM Z Z (sE func115 qg Z (gG (eP3.sees 3 Z) (by constructor<;>omega) η) eP3 (fun w5 e4 H6=>sA Z Z (aa (ab (sR 2 Z (aa (aB Z (fun c10=>?_) (fun c10=>?_)))))))))))))
          ·exact absurd c10 ω
          ·refine ak (am (sM Z Z (sV Z (aC Z Z iO) (sA Z Z (aa (⟨i+1,⟨eqI ω,Z,Z,trivial⟩,⟨(H6.ftake 1),ω,trivial⟩,θ⟩))))))
 ·refine aI (ab (sR 2 Z (rN hQ results322 Z ?_)));obtain rfl:i=xs.length:=by omega
  exact ⟨H1.ext,Z⟩
theorem pP {w:World}{xs:List Tape}{xsA:Option Addr}{xsC:Nat}{k:Int}(xsS:Sees w [.slice xsA xs.length xsC] xs) (hk:0≤k∧k+mkL dt xs≤4611686018427387904) (hm:MkL MkTape dt xs k):Ret Tryz.prog 205 #[.slice xsA xs.length xsC,.int .i64 k] w fun v w'=>Ext No w w'∧(v = .int .i64 (k+mkL dt xs)):=by
 have xsL:=sL xsS;obtain ⟨xsF,xsO⟩:=xsS;refine aF func205 Z ntmps205 Z (fun Q hQ hN=>?_);have H0:=Sep.start (ae xsO aA);refine ab (sA Z Z (aa (ac (ab (sA Z Z (aa (an (bX (γ:=Nat) H0 [(0,_)] ⟨Z,trivial⟩ (fun i=>[(1,.int .i64 (k+bV (fun i=>dt (xs.getD i default)) i)),(5,.int .i64 i)]) (fun i=>i≤xs.length∧True) (fun i=>xs.length-i) 0 ⟨eqI (by simp [bV]),Z,trivial⟩ ⟨ω,trivial⟩ (fun i w1 H1 ⟨hi,_⟩=>?_)))))))));dsimp only[lCA,lNA];refine ac (ab (sR 2 Z (sV Z (aE ce Z) (sV Z (aM Z Z) (aa (aB Z (fun c1=>?_) (fun c1=>?_)))))))
 ·refine ak (ac (an (ac (ac ?_))));have hmi:=hm i ω;obtain ⟨sg,sl⟩:=ma (c:=dt) (xs:=xs) (i:=i) ω;have hcu:dt (xs.getD i default)=1+mkL cO (xs.getD i default).Recs:=Z;obtain ⟨hm1,hm2⟩:=hmi;obtain ⟨eb1,eo1,es1,ef1,ee1,ec1,eO1,eH1,em1⟩:=aV (H1.seen 0 Z) i ω;obtain ⟨ea1,ek1,eg1,rfl,eq1,eK1,eo2⟩:=cB eO1;have eP1:=H1.look1 0 Z eo2 (fun b hb=>eH1 b (by rw [eq1]; simp [hb]));have eL1:=oL eo2;refine am (sR 2 Z (sV Z (ay ce cK Z Z ee1 i ω ω) (sF cz Z ts4 (sV Z (ag tu4 Z Z (bd ec1 0 Z)) (sM Z Z (sV Z (tV Z Z ω) (sV Z (bP Z Z) (sV Z (sU tu4 Z Z) (aa (bJ Z (fun c2=>?_) (fun c2=>?_)))))))))))
  ·exfalso; rw [hm1] at c2; simp at c2
  ·refine ak (ab (sM Z Z (sV Z (aC Z Z iO) (sA Z Z (aa (ac ?_))))));obtain ⟨eb2,eo3,es2,ef2,ee2,ec2,eO2,eH2,em2⟩:=aV (eP1.seen 0 Z) i ω;obtain ⟨ea2,ek2,eg2,rfl,eq2,eK2,eo4⟩:=cB eO2;have eP2:=eP1.look1 0 Z eo4 (fun b hb=>eH2 b (by rw [eq2]; simp [hb]));have eL2:=oL eo4;refine am (sR 2 Z (sV Z (ay ce cK Z Z ee2 i ω ω) (sF cz Z fa (sV Z (ag ba Z Z (bd ec2 1 Z)) (sM Z Z (sE func322 Du Z (qo (eP2.sees 2 Z) (by constructor<;>omega) η) eP2 (fun w2 e1 H2=>sA Z Z (aa (ab (sR 2 Z (aa (aB Z (fun c3=>?_) (fun c3=>?_)))))))))))))
   ·exact absurd c3 ω
   ·refine ak (am (sM Z Z (sV Z (aC Z Z iO) (sA Z Z (aa (⟨i+1,⟨eqI ω,Z,Z,trivial⟩,⟨(H2.ftake 1),ω,trivial⟩,θ⟩))))))
 ·refine aI (ab (sR 2 Z (rN hQ results205 Z ?_)));obtain rfl:i=xs.length:=by omega
  exact ⟨H1.ext,Z⟩
theorem pB {w:World}{x:Wld}{s0 s1 s2 s3 s4 s5 s6 s7 s8 wr sp k:Int}{dn:Bool}{A9 A10 A11:Option Addr}{n9 C9 n10 C10 n11 C11:Nat}(e9:Sees w [.slice A9 n9 C9] x.Groups) (e10:Sees w [.slice A10 n10 C10] x.On) (e11:Sees w [.slice A11 n11 C11] x.Tapes) (hk:0≤k∧k+bW x≤4611686018427387904) (hm:MkWld x k):Ret Tryz.prog 97 #[.agg #[.int .i64 s0,.int .i64 s1,.int .i64 s2,.int .i64 s3,.int .i64 s4,.int .i64 s5,.int .i64 s6,.int .i64 s7,.int .i64 s8,.slice A9 n9 C9,.slice A10 n10 C10,.slice A11 n11 C11,.int .i64 wr,.int .i64 sp,.bool dn],.int .i64 k] w fun v w'=>Ext No w w'∧(v = .int .i64 (k+bW x)):=by
 obtain ⟨f9,o9⟩:=e9;obtain rfl:=eM o9;obtain ⟨f10,o10⟩:=e10;obtain rfl:=eM o10;obtain ⟨f11,o11⟩:=e11;obtain rfl:=eM o11;have hcu:bW x=mkL (mkL bn) x.Groups+x.On.length+mkL dt x.Tapes:=Z;obtain ⟨m1,m2,m3⟩:=hm;refine aF func97 Z ntmps97 Z (fun Q hQ hN=>?_);have H0:=Sep.start (ae o9 (ae o10 (ae o11 aA)));refine ab (bf aj Z Z H0 (fun b1 w1 e1 g1 H1=>sA Z Z (aa (ab (sF aX Z eG (sLd cC (H1.box 0 Z) Z (sM Z Z (sE func203 BO Z (nT (H1.sees 0 Z) (by constructor<;>omega) η) H1 (fun w2 e2 H2=>sA Z Z (aa (ac (ab (sR 2 Z (aa (aB Z (fun c1=>?_) (fun c1=>?_))))))))))))))))
 ·exact absurd c1 ω
 ·refine ak (ab (sF aX Z bY (sLd bp (H2.box 0 Z) Z (sM Z Z (sE func204 wH Z (jL (H2.sees 1 Z) (by constructor<;>omega) η) H2 (fun w3 e3 H3=>sA Z Z (aa (ac (ab (sR 2 Z (aa (aB Z (fun c2=>?_) (fun c2=>?_)))))))))))))
  ·exact absurd c2 ω
  ·refine ak (ab (sF aX Z ex (sLd ce (H3.box 0 Z) Z (sM Z Z (sE func205 CB Z (pP (H3.sees 2 Z) (by constructor<;>omega) η) H3 (fun w4 e4 H4=>sA Z Z (aa (ac (ab (sR 2 Z (aa (aB Z (fun c3=>?_) (fun c3=>?_)))))))))))))
   ·exact absurd c3 ω
   ·refine ak (ab (sR 2 Z (rN hQ results97 Z ?_)));exact ⟨H4.ext,congrArg (Value.int .i64) ω⟩
theorem gu {w:World}{x:Wld}{c s0 s1 s2 s3 s4 s5 s6 s7 s8 wr sp k:Int}{dn:Bool}{A9 A10 A11:Option Addr}{n9 C9 n10 C10 n11 C11:Nat}(e9:Sees w [.slice A9 n9 C9] x.Groups) (e10:Sees w [.slice A10 n10 C10] x.On) (e11:Sees w [.slice A11 n11 C11] x.Tapes) (hk:0≤k∧k+bW x≤4611686018427387904) (hm:MkWld x k):Ret Tryz.prog 23 #[.agg #[.int .i64 c,.int .i64 s0,.int .i64 s1,.int .i64 s2,.int .i64 s3,.int .i64 s4,.int .i64 s5,.int .i64 s6,.int .i64 s7,.int .i64 s8,.slice A9 n9 C9,.slice A10 n10 C10,.slice A11 n11 C11,.int .i64 wr,.int .i64 sp,.bool dn],.int .i64 k] w fun v w'=>Ext No w w'∧(v = .int .i64 (k+bW x)):=by
 obtain ⟨f9,o9⟩:=e9;obtain rfl:=eM o9;obtain ⟨f10,o10⟩:=e10;obtain rfl:=eM o10;obtain ⟨f11,o11⟩:=e11;obtain rfl:=eM o11
 skip
 refine aF func23 Z ntmps23 Z (fun Q hQ hN=>?_);have H0:=Sep.start (ae o9 (ae o10 (ae o11 aA)));refine ab (bf aj Z Z H0 (fun b1 w1 e1 g1 H1=>sA Z Z (aa (ab (sF gz Z dG (sV Z (au aX Z dG Z Z (At.sub (H1.box 0 Z) 15)) (sM Z Z (sE func97 Gs Z (pB (H1.sees 0 Z) (H1.sees 1 Z) (H1.sees 2 Z) (by constructor<;>omega) η) H1 (fun w2 e2 H2=>sA Z Z (aa (ac (ab (sR 2 Z (aa (aB Z (fun c1=>?_) (fun c1=>?_))))))))))))))))
 ·exact absurd c1 ω
 ·refine ak (ab (sR 2 Z (rN hQ results23 Z ?_)));exact ⟨H2.ext,Z⟩
theorem lm {w:World}{y:WldResult}{yA10 yA11 yA12:Option Addr}{yC10 yC11 yC12:Nat}{k:Int}{fp:List Nat}(o:own true w [.int .i64 y.Code,.int .i64 y.Wd.Shape.Groups,.int .i64 y.Wd.Shape.Column,.int .i64 y.Wd.Shape.Data,.int .i64 y.Wd.Shape.Spare,.int .i64 y.Wd.Shape.Rows,.int .i64 y.Wd.Shape.Cap,.int .i64 y.Wd.Shape.Batch,.int .i64 y.Wd.Shape.Queue,.int .i64 y.Wd.Shape.Stage,.slice yA10 y.Wd.Groups.length yC10,.slice yA11 y.Wd.On.length yC11,.slice yA12 y.Wd.Tapes.length yC12,.int .i64 y.Wd.Writes,.int .i64 y.Wd.Stop,.bool y.Wd.Down] y fp) (nd:fp.Nodup) (hk:0≤k∧k+bW y.Wd≤4611686018427387904):Ret Tryz.prog 22 #[y.val yA10 yC10 yA11 yC11 yA12 yC12,.int .i64 k] w fun v w'=>(v = .int .i64 (k+bW y.Wd)∧∃ x':Wld,Mut w w' fp [.int .i64 y.Code,.int .i64 y.Wd.Shape.Groups,.int .i64 y.Wd.Shape.Column,.int .i64 y.Wd.Shape.Data,.int .i64 y.Wd.Shape.Spare,.int .i64 y.Wd.Shape.Rows,.int .i64 y.Wd.Shape.Cap,.int .i64 y.Wd.Shape.Batch,.int .i64 y.Wd.Shape.Queue,.int .i64 y.Wd.Shape.Stage,.slice yA10 y.Wd.Groups.length yC10,.slice yA11 y.Wd.On.length yC11,.slice yA12 y.Wd.Tapes.length yC12,.int .i64 y.Wd.Writes,.int .i64 y.Wd.Stop,.bool y.Wd.Down] (⟨y.Code,x'⟩:WldResult)∧(x'.Groups.length=y.Wd.Groups.length∧x'.On.length=y.Wd.On.length∧x'.Tapes.length=y.Wd.Tapes.length∧bW x'=bW y.Wd∧MkWld x' k∧x'.Shape=y.Wd.Shape∧x'.Writes=y.Wd.Writes∧x'.Stop=y.Wd.Stop∧x'.Down=y.Wd.Down)):=by
 refine aF func22 Z ntmps22 Z (fun Q hQ hN=>?_);obtain ⟨f10,f11,f12,ef,ok,o10,o11,o12⟩:=fq o;have H0:=(Sep.begin o nd).conv 0 (mine [.int .i64 y.Wd.Shape.Groups,.int .i64 y.Wd.Shape.Column,.int .i64 y.Wd.Shape.Data,.int .i64 y.Wd.Shape.Spare,.int .i64 y.Wd.Shape.Rows,.int .i64 y.Wd.Shape.Cap,.int .i64 y.Wd.Shape.Batch,.int .i64 y.Wd.Shape.Queue,.int .i64 y.Wd.Shape.Stage,.slice yA10 y.Wd.Groups.length yC10,.slice yA11 y.Wd.On.length yC11,.slice yA12 y.Wd.Tapes.length yC12,.int .i64 y.Wd.Writes,.int .i64 y.Wd.Stop,.bool y.Wd.Down] y.Wd (f10++(f11++f12))) Z (Wld.own_mk ok.2 o10 o11 o12) (fun b hb=>by rw [ef]; exact hb) (by rw [← ef]; exact nd)
 try dsimp only[lNA,lCA,lSZ,lSS] at H0
 have okW:=ok.2;refine ab (bf aj Z Z H0 (fun b1 w1 e1 g1 H1=>sA Z Z (aa (ab (sF gz Z dG (sV Z (au aX Z dG Z Z (At.sub (H1.box 1 Z) 15)) (sM Z Z (sC func21 xI Z (kc η (H1.mine 0 Z) (H1.nodup1 (i:=0) Z) (by constructor<;>omega)) (fun v1 w2 r1=>?_)))))))));obtain ⟨rfl,mx1,mm1,ml1⟩:=r1;obtain ⟨fp1,H2⟩:=H1.mut 0 Z mm1
 try dsimp only[lNA,lCA,lSZ,lSS] at H2
 refine sA Z Z (aa (ab (sR 2 Z (rN hQ results22 Z ?_))));exact ⟨Z,mx1,WldResult.mutW ok (H2.dtake 1),ml1⟩
theorem fl {w:World}{a:WldResult}{aA10 aA11 aA12:Option Addr}{aC10 aC11 aC12:Nat}{b:WldResult}{bA10 bA11 bA12:Option Addr}{bC10 bC11 bC12:Nat}(aK:a.Ok) (aS10:Sees w [.slice aA10 a.Wd.Groups.length aC10] a.Wd.Groups) (aS11:Sees w [.slice aA11 a.Wd.On.length aC11] a.Wd.On) (aS12:Sees w [.slice aA12 a.Wd.Tapes.length aC12] a.Wd.Tapes) (bK:b.Ok) (bS10:Sees w [.slice bA10 b.Wd.Groups.length bC10] b.Wd.Groups) (bS11:Sees w [.slice bA11 b.Wd.On.length bC11] b.Wd.On) (bS12:Sees w [.slice bA12 b.Wd.Tapes.length bC12] b.Wd.Tapes):Ret Tryz.prog 19 #[a.val aA10 aC10 aA11 aC11 aA12 aC12,b.val bA10 bC10 bA11 bC11 bA12 bC12] w fun v w'=>Ext No w w'∧(v = .bool (decide (a=b))):=by
 have aK2:=aK;unfold WldResult.Ok Wld.Ok Shape.Ok at aK2
 try unfold I64ok at aK2
 try unfold maxLen at aK2
 have aL10:=sL aS10;obtain ⟨aF10,aO10⟩:=aS10;have aL11:=sL aS11;obtain ⟨aF11,aO11⟩:=aS11;have aL12:=sL aS12;obtain ⟨aF12,aO12⟩:=aS12;have bK2:=bK;unfold WldResult.Ok Wld.Ok Shape.Ok at bK2
 try unfold I64ok at bK2
 try unfold maxLen at bK2
 have bL10:=sL bS10;obtain ⟨bF10,bO10⟩:=bS10;have bL11:=sL bS11;obtain ⟨bF11,bO11⟩:=bS11;have bL12:=sL bS12;obtain ⟨bF12,bO12⟩:=bS12;have aK3:=aK.2;have bK3:=bK.2;refine aF func19 Z ntmps19 Z (fun Q hQ hN=>?_);have H0:=Sep.start (ae aO10 (ae aO11 (ae aO12 (ae bO10 (ae bO11 (ae bO12 aA))))));refine ab (bf aj Z Z H0 (fun b1 w1 e1 g1 H1=>bf aj Z Z H1 (fun b2 w2 e2 g2 H2=>sA Z Z (aa (ac (ab (sF gz Z ts2 (sLd tu2 (H2.box 0 Z) Z (sF gz Z ts2 (sLd tu2 (H2.box 1 Z) Z (sV Z (bE Z Z) (aa (aB Z (fun c1=>?_) (fun c1=>?_))))))))))))))
 ·refine ab (sA Z Z (aa (rT hQ results19 Z (⟨H2.ext,?_⟩))));rw [decide_eq_false (fun e=>by subst e; first | exact c1 rfl | simp at c1)]
 ·refine ak (ac (ab (sF gz Z dG (sV Z (au aX Z dG Z Z (At.sub (H2.box 0 Z) 15)) (sF gz Z dG (sV Z (au aX Z dG Z Z (At.sub (H2.box 1 Z) 15)) (sE func20 yL Z (lC η (H2.sees 0 Z) (H2.sees 1 Z) (H2.sees 2 Z) η (H2.sees 3 Z) (H2.sees 4 Z) (H2.sees 5 Z)) H2 (fun w3 e3 H3=>sV Z (aZ Z) (aa (bJ Z (fun c2=>?_) (fun c2=>?_)))))))))))
  ·refine ab (sA Z Z (aa (rT hQ results19 Z (⟨H3.ext,?_⟩))));rw [decide_eq_false (fun e=>by subst e; first | exact c2 rfl | simp at c2)]
  ·refine ak (ab (sA Z Z (aa (rT hQ results19 Z (⟨H3.ext,?_⟩)))));rw [decide_eq_true];cases a; cases b; simp_all
end Go.Wk
namespace Go.Wk
open Go.Proofs Rp Go.Proofs.Tryz
set_option maxRecDepth 10000
theorem fY {w:World}{zb zC9 zC10 zC11:Nat}{z:Wld}{zA9 zA10 zA11:Option Addr}(zB:w.heap[zb]? = some (.cells [.int .i64 z.Shape.Groups,.int .i64 z.Shape.Column,.int .i64 z.Shape.Data,.int .i64 z.Shape.Spare,.int .i64 z.Shape.Rows,.int .i64 z.Shape.Cap,.int .i64 z.Shape.Batch,.int .i64 z.Shape.Queue,.int .i64 z.Shape.Stage,.slice zA9 z.Groups.length zC9,.slice zA10 z.On.length zC10,.slice zA11 z.Tapes.length zC11,.int .i64 z.Writes,.int .i64 z.Stop,.bool z.Down].toArray 34)) (zK:z.Ok) (zS9:Sees w [.slice zA9 z.Groups.length zC9] z.Groups) (zS10:Sees w [.slice zA10 z.On.length zC10] z.On) (zS11:Sees w [.slice zA11 z.Tapes.length zC11] z.Tapes) (hT:z.Tapes.length=2):Ret Tryz.prog 227 #[.pointer (some ⟨zb,0,none⟩)] w fun v w'=>Ext No w w'∧(v = .int .i64 (uk z)):=by
 have zK2:=zK;unfold Wld.Ok Shape.Ok at zK2
 try unfold I64ok at zK2
 try unfold maxLen at zK2
 have zL9:=sL zS9;obtain ⟨zF9,zO9⟩:=zS9;have zL10:=sL zS10;obtain ⟨zF10,zO10⟩:=zS10;have zL11:=sL zS11;obtain ⟨zF11,zO11⟩:=zS11;refine aF func227 Z ntmps227 Z (fun Q hQ hN=>?_);have H0:=Sep.start (cq zB (ae zO9 (ae zO10 (ae zO11 aA))));refine ab (sA Z Z (aa (ac ?_)));obtain ⟨eb1,eo1,es1,ef1,ee1,ec1,eO1,eH1,em1⟩:=aV (H0.seen 3 Z) 0 ω;obtain ⟨ea1,ek1,eg1,rfl,eq1,eK1,eo2⟩:=cB eO1;have eP1:=H0.look1 3 Z eo2 (fun b hb=>eH1 b (by rw [eq1]; simp [hb]));have eL1:=oL eo2;obtain ⟨eb2,eo3,es2,ef2,ee2,ec2,eO2,eH2,em2⟩:=aV (eP1.seen 3 Z) 1 ω;obtain ⟨ea2,ek2,eg2,rfl,eq2,eK2,eo4⟩:=cB eO2;have eP2:=eP1.look1 3 Z eo4 (fun b hb=>eH2 b (by rw [eq2]; simp [hb]));have eL2:=oL eo4;refine bH (S:=Ext No _) (oQ [1,3,5,7,9,11,13,17,19,21,23,25,27,29,14,30,33,35,36]) κ κ κ Z (fun _=>Ext.refl.drawn _) (fun q1=>?_);have H1:=eP2.drawn q1;refine dR 2 Z (dV Z Z (fun zw hx=>ah aX Z ex Z Z) (dV Z Z (fun zw hx=>ag ce Z Z (ao (hx.heap (H1.fbox 0 Z)) Z)) (dV Z Z (fun zw hx=>ay ce cK Z Z ee1 0 ω ω) (dV Z Z (fun zw hx=>ah cz Z fa Z Z) (dV Z Z (fun zw hx=>ag ba Z Z (bd (hx.at ec1) 1 Z)) (dR 2 Z (dV Z Z (fun zw hx=>ah aX Z ex Z Z) (dV Z Z (fun zw hx=>ag ce Z Z (ao (hx.heap (H1.fbox 0 Z)) Z)) (dV Z Z (fun zw hx=>ay ce cK Z Z ee2 1 ω ω) (dV Z Z (fun zw hx=>ah cz Z fa Z Z) (dV Z Z (fun zw hx=>ag ba Z Z (bd (hx.at ec2) 1 Z)) (dC func228 qH Z (lV (H1.sees 4 Z)) (fun v1 w1 r1=>?_)))))))))))));obtain ⟨e1,rfl⟩:=r1;have H2:=H1.to e1;refine dC func228 qH Z (lV (H2.sees 5 Z)) (fun v2 w2 r2=>?_);obtain ⟨e2,rfl⟩:=r2;have H3:=H2.to e2;refine dV Z Z (fun zw hx=>HI Z Z) (dV Z Z (fun zw hx=>bM Z Z iO) (aT Z aj Z Z (br Z) (aU (rT hQ results227 Z ?_))));exact ⟨H3.ext,congrArg (Value.int .i64) (by unfold uk; split<;>omega)⟩
theorem tm {w:World}{zb zC9 zC10 zC11:Nat}{z:Wld}{zA9 zA10 zA11:Option Addr}{m:Int}(zB:w.heap[zb]? = some (.cells [.int .i64 z.Shape.Groups,.int .i64 z.Shape.Column,.int .i64 z.Shape.Data,.int .i64 z.Shape.Spare,.int .i64 z.Shape.Rows,.int .i64 z.Shape.Cap,.int .i64 z.Shape.Batch,.int .i64 z.Shape.Queue,.int .i64 z.Shape.Stage,.slice zA9 z.Groups.length zC9,.slice zA10 z.On.length zC10,.slice zA11 z.Tapes.length zC11,.int .i64 z.Writes,.int .i64 z.Stop,.bool z.Down].toArray 34)) (zK:z.Ok) (zS9:Sees w [.slice zA9 z.Groups.length zC9] z.Groups) (zS10:Sees w [.slice zA10 z.On.length zC10] z.On) (zS11:Sees w [.slice zA11 z.Tapes.length zC11] z.Tapes) (hT:z.Tapes.length=2) (hm:0≤m∧m≤10) (hr:(z.Tapes.getD 0 default).Recs.length≤1000∧(z.Tapes.getD 1 default).Recs.length≤1000):Ret Tryz.prog 209 #[.pointer (some ⟨zb,0,none⟩),.int .i64 m] w fun v w'=>Ext No w w'∧(v = .bool (lK z m)):=by
 have zK2:=zK;unfold Wld.Ok Shape.Ok at zK2
 try unfold I64ok at zK2
 try unfold maxLen at zK2
 have zL9:=sL zS9;obtain ⟨zF9,zO9⟩:=zS9;have zL10:=sL zS10;obtain ⟨zF10,zO10⟩:=zS10;have zL11:=sL zS11;obtain ⟨zF11,zO11⟩:=zS11;refine aF func209 Z ntmps209 Z (fun Q hQ hN=>?_);have H0:=Sep.start (cq zB (ae zO9 (ae zO10 (ae zO11 aA))));refine ab (sA Z Z (aa (ac ?_)));obtain ⟨eb1,eo1,es1,ef1,ee1,ec1,eO1,eH1,em1⟩:=aV (H0.seen 3 Z) 0 ω;obtain ⟨ea1,ek1,eg1,rfl,eq1,eK1,eo2⟩:=cB eO1;have eP1:=H0.look1 3 Z eo2 (fun b hb=>eH1 b (by rw [eq1]; simp [hb]));have eL1:=oL eo2;refine am (sR 2 Z (sF aX Z ex (sLd ce (eP1.fbox 0 Z) Z (sV Z (ay ce cK Z Z ee1 0 ω ω) (sF cz Z fa (sV Z (ag ba Z Z (bd ec1 1 Z)) (sV Z (aE ba Z) (sM Z Z (sV Z (aC Z Z iO) (sR 2 Z (dO (t:=16) Z (fun hg1=>?_) (fun hg1=>?_))))))))))))
 ·try simp only [decide_eq_true_eq,decide_eq_false_iff_not] at hg1
  refine sR 11 Z (sV Z (aO Z Z) (rA hQ results209 Z ?_));exact ⟨eP1.ext,congrArg Value.bool (by unfold lK; rw [decide_eq_true (p:=200<((z.Tapes.getD 0 default).Recs.length:Int)+m) hg1]; rfl)⟩
 ·try simp only [decide_eq_true_eq,decide_eq_false_iff_not] at hg1
  refine ax (wg Z Z Z) Z Z (aG Z) (ax (wg Z Z Z) Z Z (fA Z) (ax (wg Z Z Z) Z Z (ah aX Z ex Z Z) (ax (wg Z Z Z) Z Z (ag ce Z Z (ao (eP1.fbox 0 Z) Z)) ?_)));obtain ⟨eb2,eo3,es2,ef2,ee2,ec2,eO2,eH2,em2⟩:=aV (eP1.seen 3 Z) 1 ω;obtain ⟨ea2,ek2,eg2,rfl,eq2,eK2,eo4⟩:=cB eO2;have eP2:=eP1.look1 3 Z eo4 (fun b hb=>eH2 b (by rw [eq2]; simp [hb]));have eL2:=oL eo4;refine ax (wg Z Z Z) Z Z (ay ce cK Z Z ee2 1 ω ω) (ax (wg Z Z Z) Z Z (ah cz Z fa Z Z) (ax (wg Z Z Z) Z Z (ag ba Z Z (bd ec2 1 Z)) (ax (wg Z Z Z) Z Z (aE ba Z) (ax (wg Z Z Z) Z Z (aG Z) (ax (wg Z Z Z) Z Z (aC Z Z iO) (ax (wg Z Z Z) Z Z (er Z Z) (sV Z (aW Z Z) (rA hQ results209 Z ?_))))))));exact ⟨eP2.ext,congrArg Value.bool (by unfold lK; rw [decide_eq_false (p:=200<((z.Tapes.getD 0 default).Recs.length:Int)+m) hg1]; rfl)⟩
theorem mf {w:World}{d:Bool}  : Ret Tryz.prog 326 #[.bool d] w fun v w'=>Ext No w w'∧(v = .int .i64 (if d=true then 0 else 9)):=by
 refine aF func326 Z ntmps326 Z (fun Q hQ hN=>?_);have H0:=Sep.start (w:=w) (F:=[]) σ;refine ab (sA Z Z (aa (ac (ab (sM Z Z (sV Z (aZ Z) (aa (bJ Z (fun c1=>?_) (fun c1=>?_)))))))))
 ·refine ab (rA hQ results326 Z ?_);exact ⟨H0.ext,by simp_all⟩
 ·refine ak (ab (rA hQ results326 Z ?_));exact ⟨H0.ext,by simp_all⟩
theorem py {w:World}{z:Wld}{zb:Nat}{fp:List Nat}(o:OwnW w zb 34 z fp) (nd:fp.Nodup):Ret Tryz.prog 399 #[.pointer (some ⟨zb,0,none⟩)] w fun v w'=>(MutW w w' fp zb 34 (zt z)):=by
 refine aF func399 Z ntmps399 Z (fun Q hQ hN=>?_);have H0:=Sep.beginW o nd;obtain ⟨wA1,wC1,wA2,wC2,wA3,wC3,wf1,wf2,wf3,wok1,H1⟩:=H0.openW 0 Z
 try dsimp only[lNA,lCA,lSZ,lSS] at H1
 have wok1U:=wok1;unfold Wld.Ok Shape.Ok I64ok at wok1U;have wL1:=oL (H1.mine 2 Z);have wL2:=oL (H1.mine 3 Z);have wL3:=oL (H1.mine 4 Z);refine am (sR 3 Z (sF aX Z ts4 (cd aj ts4 Z Z Z H1 0 Z Z (fun w1 e1 H2=>?_))));dsimp only[lNA,lCA,lSZ,lSS,aQ] at H2;refine sV Z (fA Z) (sF aX Z bY (cd aj bY Z Z Z H2 0 Z Z (fun w2 e2 H3=>?_)));dsimp only[lNA,lCA,lSZ,lSS,aQ] at H3;refine aa (hN _ _ (jX results399 ?_));have H4:=H3.nilW (α:=Int)
 try dsimp only[lNA,lCA,lSZ,lSS] at H4
 obtain ⟨fp1,H5⟩:=H4.closeW 0 2 5 4 (zt z) Z Z Z Z Z Z Z Z Z Z (pv wok1)
 try dsimp only[lNA,lCA,lSZ,lSS] at H5
 have hz:=H5.doneW;exact hz
theorem gE {w:World}{z y:Wld}{zb:Nat}{fp:List Nat}{dof:FuncId}{doL:List Value}{doF:Func}(o:OwnW w zb 34 z fp) (nd:fp.Nodup) (doH:Tryz.prog.funcs[dof]? = some doF) (doB:doF.body.isNone=false) (doN:NG doF) (doC:∀ w1 fp1,OwnW w1 zb 34 z fp1→fp1.Nodup→(∀ x∈fp1,x∈fp∨w.heap.size≤x)→Ext (· ∈ fp) w w1→Ret Tryz.prog dof doL.toArray w1 fun v w'=>MutW w1 w' fp1 zb 34 y) (hy:y.Writes≤2000000000):Ret Tryz.prog 329 #[.pointer (some ⟨zb,0,none⟩),.func (.func dof) #[] doL.toArray] w fun v w'=>(v = .bool (!bD z)∧MutW w w' fp zb 34 (ll z y)):=by
 refine aF func329 Z ntmps329 Z (fun Q hQ hN=>?_);have H0:=Sep.beginW o nd;refine ab (sA Z Z (aa (ac (ac ?_))));obtain ⟨wA1,wC1,wA2,wC2,wA3,wC3,wf1,wf2,wf3,wok1,H1⟩:=H0.openW 0 Z
 try dsimp only[lNA,lCA,lSZ,lSS] at H1
 have wok1U:=wok1;unfold Wld.Ok Shape.Ok I64ok at wok1U;have wL1:=oL (H1.mine 2 Z);have wL2:=oL (H1.mine 3 Z);have wL3:=oL (H1.mine 4 Z);refine bH (S:=Ext No _) (oQ [1,3,5,7,9,11,13,15,17,19,21,23,25,27,29,30]) κ κ κ Z (fun _=>Ext.refl.drawn _) (fun q1=>?_);have H2:=H1.drawn q1;refine dR 2 Z (dV Z Z (fun zw hx=>ah aX Z ts2 Z Z) (dV Z Z (fun zw hx=>ag tu2 Z Z (ao (hx.heap (H2.box 0 Z)) Z)) (dR 2 Z (cY (t:=10) Z (fun hg1=>?_) (fun hg1=>?_)))))
 ·try simp only [decide_eq_true_eq,decide_eq_false_iff_not] at hg1
  refine aL Z (wg Z Z Z) Z Z (fun zw hx=>aG Z) (aL Z (wg Z Z Z) Z Z (fun zw hx=>fA Z) (aL Z (wg Z Z Z) Z Z (fun zw hx=>ah aX Z ts2 Z Z) (aL Z (wg Z Z Z) Z Z (fun zw hx=>ag tu2 Z Z (ao (hx.heap (H2.box 0 Z)) Z)) (aL Z (wg Z Z Z) Z Z (fun zw hx=>aG Z) (aL Z (wg Z Z Z) Z Z (fun zw hx=>fA Z) (aL Z (wg Z Z Z) Z Z (fun zw hx=>ah aX Z ts2 Z Z) (aL Z (wg Z Z Z) Z Z (fun zw hx=>ag tu2 Z Z (ao (hx.heap (H2.box 0 Z)) Z)) (aL Z (wg Z Z Z) Z Z (fun zw hx=>zl Z Z) (aT Z aj Z Z (aO Z Z) (aU (aB Z (fun c1=>?_) (fun c1=>?_))))))))))))
  ·refine ac ?_;have hnp:bD z=true:=uo ω ω;refine am (sM Z Z ?_);obtain ⟨fp1,H3⟩:=H2.closeW 0 2 3 4 z Z Z Z Z Z Z Z Z Z Z wok1
   try dsimp only[lNA,lCA,lSZ,lSS] at H3
   refine sC func399 BR Z (py (H3.wldAt 0 Z) (H3.nodup1 (i:=0) Z)) (fun v1 w1 r1=>?_);have mm1:=r1;obtain ⟨fp2,H4⟩:=H3.mutW 0 Z mm1
   try dsimp only[lNA,lCA,lSZ,lSS] at H4
   refine aa (ab (rA hQ results329 Z ?_));have hz:=H4.doneW;rw [← iL (y:=y) hnp] at hz;exact ⟨(by rw [hnp]; rfl),hz⟩
  ·refine ak (ac ?_);have hnp:bD z=false:=nb (.inr ω);refine am (sM Z Z ?_);obtain ⟨fp3,H5⟩:=H2.closeW 0 2 3 4 z Z Z Z Z Z Z Z Z Z Z wok1
   try dsimp only[lNA,lCA,lSZ,lSS] at H5
   refine eX aj Z Z (gT (lb:=doL) Z doH doB doN Z) (doC _ _ (H5.wldAt 0 Z) (H5.nodup1 (i:=0) Z) (fun x hx=>H5.new x (H5.inB 0 Z hx)) H5.ext) (fun v2 w2 r2=>?_);obtain ⟨fp4,H6⟩:=H5.mutW 0 Z r2
   try dsimp only[lNA,lCA,lSZ,lSS] at H6
   refine aa (ac ?_);obtain ⟨wA4,wC4,wA5,wC5,wA6,wC6,wf4,wf5,wf6,wok2,H7⟩:=H6.openW 0 Z
   try dsimp only[lNA,lCA,lSZ,lSS] at H7
   have wok2U:=wok2;unfold Wld.Ok Shape.Ok I64ok at wok2U;have wL4:=oL (H7.mine 6 Z);have wL5:=oL (H7.mine 7 Z);have wL6:=oL (H7.mine 8 Z);refine am (sR 2 Z (sF aX Z ts2 (sLd tu2 (H7.box 0 Z) Z (sV Z (aC Z Z iO) (sV Z (fA Z) (sF aX Z ts2 (cd aj ts2 Z Z Z H7 0 Z Z (fun w3 e2 H8=>?_))))))));dsimp only[lNA,lCA,lSZ,lSS,aQ] at H8;refine aa (ab (rA hQ results329 Z ?_));obtain ⟨fp5,H9⟩:=H8.closeW 0 6 7 8 (iz y) Z Z Z Z Z Z Z Z Z Z (kW wok2 hy)
   try dsimp only[lNA,lCA,lSZ,lSS] at H9
   have hz:=H9.doneW;rw [← eF hnp] at hz;exact ⟨(by rw [hnp]; rfl),hz⟩
 ·try simp only [decide_eq_true_eq,decide_eq_false_iff_not] at hg1
  refine dR 9 Z (aT Z aj Z Z (aW Z Z) (aU (jA Z (ak (ac ?_)))));have hnp:bD z=false:=nb (.inl ω);refine am (sM Z Z ?_);obtain ⟨fp6,H10⟩:=H2.closeW 0 2 3 4 z Z Z Z Z Z Z Z Z Z Z wok1
  try dsimp only[lNA,lCA,lSZ,lSS] at H10
  refine eX aj Z Z (gT (lb:=doL) Z doH doB doN Z) (doC _ _ (H10.wldAt 0 Z) (H10.nodup1 (i:=0) Z) (fun x hx=>H10.new x (H10.inB 0 Z hx)) H10.ext) (fun v3 w4 r3=>?_);obtain ⟨fp7,H11⟩:=H10.mutW 0 Z r3
  try dsimp only[lNA,lCA,lSZ,lSS] at H11
  refine aa (ac ?_);obtain ⟨wA7,wC7,wA8,wC8,wA9,wC9,wf7,wf8,wf9,wok3,H12⟩:=H11.openW 0 Z
  try dsimp only[lNA,lCA,lSZ,lSS] at H12
  have wok3U:=wok3;unfold Wld.Ok Shape.Ok I64ok at wok3U;have wL7:=oL (H12.mine 6 Z);have wL8:=oL (H12.mine 7 Z);have wL9:=oL (H12.mine 8 Z);refine am (sR 2 Z (sF aX Z ts2 (sLd tu2 (H12.box 0 Z) Z (sV Z (aC Z Z iO) (sV Z (fA Z) (sF aX Z ts2 (cd aj ts2 Z Z Z H12 0 Z Z (fun w5 e3 H13=>?_))))))));dsimp only[lNA,lCA,lSZ,lSS,aQ] at H13;refine aa (ab (rA hQ results329 Z ?_));obtain ⟨fp8,H14⟩:=H13.closeW 0 6 7 8 (iz y) Z Z Z Z Z Z Z Z Z Z (kW wok3 hy)
  try dsimp only[lNA,lCA,lSZ,lSS] at H14
  have hz:=H14.doneW;rw [← eF hnp] at hz;exact ⟨(by rw [hnp]; rfl),hz⟩
theorem kh {w:World}{z:Wld}{zb t b1 b2 b3 rC6 rC7 rC8:Nat}{fp rF6 rF7 rF8:List Nat}{r:Rec}{rA6 rA7 rA8:Option Addr}(o:OwnW w zb 34 z fp) (nd:fp.Nodup) (h1:w.heap[b1]? = some (.cells [.pointer (some ⟨zb,0,none⟩)].toArray 104)) (d1:b1 ∉ fp) (h2:w.heap[b2]? = some (.cells [.int .i64 (t:Nat)].toArray 2)) (d2:b2 ∉ fp) (h3:w.heap[b3]? = some (.cells [.int .i64 r.Kind,.int .i64 r.Seq,.string r.Name,.int .i64 r.Length,.int .i64 r.Group,.int .i64 r.Row,.slice rA6 r.Rows.length rC6,.slice rA7 r.Data.length rC7,.slice rA8 r.Delta.length rC8].toArray 55)) (d3:b3 ∉ fp) (rO6:own false w [.slice rA6 r.Rows.length rC6] r.Rows rF6) (rD6:∀ b∈rF6,b ∉ fp) (rO7:own false w [.slice rA7 r.Data.length rC7] r.Data rF7) (rD7:∀ b∈rF7,b ∉ fp) (rO8:own false w [.slice rA8 r.Delta.length rC8] r.Delta rF8) (rD8:∀ b∈rF8,b ∉ fp) (rK:r.Ok) (ht:t<z.Tapes.length) (hb:cN r≤1048576) (hl:(z.Tapes.getD t default).Recs.length≤100000):Ret Tryz.prog 330 #[.pointer (some ⟨b1,0,none⟩),.pointer (some ⟨b2,0,none⟩),.pointer (some ⟨b3,0,none⟩)] w fun v w'=>(MutW w w' fp zb 34 (pE t r z)):=by
 have rK2:=rK;unfold Rec.Ok at rK2
 try unfold I64ok at rK2
 try unfold maxLen at rK2
 have rN2:r.Name.size≤maxLen:=by unfold maxLen; omega
 have rL6:=oL rO6;have rL7:=oL rO7;have rL8:=oL rO8;refine aF func330 Z ntmps330 Z (fun Q hQ hN=>?_);have H0:=(((((((Sep.beginW o nd).boxF h1 d1).boxF h2 d2).boxF h3 d3).seeF rO6 rD6).seeF rO7 rD7).seeF rO8 rD8)
 try dsimp only[lNA,lCA,lSZ,lSS] at H0
 refine ac ?_;obtain ⟨wA1,wC1,wA2,wC2,wA3,wC3,wf1,wf2,wf3,wok1,H1⟩:=H0.openW 0 Z
 try dsimp only[lNA,lCA,lSZ,lSS] at H1
 have wok1U:=wok1;unfold Wld.Ok Shape.Ok I64ok at wok1U;have wL1:=oL (H1.mine 2 Z);have wL2:=oL (H1.mine 3 Z);have wL3:=oL (H1.mine 4 Z);obtain ⟨eb1,eo1,eT1,eF1,eG1,ea1,ek1,eg1,ee1,eK1,eH1⟩:=Tape.focus H1 4 Z t ω;have eK1U:=eK1;unfold Tape.Ok at eK1U
 try unfold I64ok at eK1U
 try unfold maxLen at eK1U
 try dsimp only[lNA,lCA,lSZ,lSS] at eH1
 refine bH (S:=Ext No _) (oQ [1,3,5,7,9,11,12]) κ κ κ Z (fun _=>Ext.refl.drawn _) (fun q1=>?_);have H2:=eH1.drawn q1;refine dV Z Z (fun zw hx=>ag uc Z Z (ao (hx.heap (H2.fbox 0 Z)) Z)) (dV Z Z (fun zw hx=>fA Z) (dV Z Z (fun zw hx=>ah aX Z ex Z Z) (dV Z Z (fun zw hx=>ag ce Z Z (ao (hx.heap (H2.box 0 Z)) Z)) (dV Z Z (fun zw hx=>ag tu2 Z Z (ao (hx.heap (H2.fbox 1 Z)) Z)) (dV Z Z (fun zw hx=>ay ce cK Z Z ee1 t ω ω) (aT Z aj Z Z (br Z) (aU (bH (S:=H2.S2 4 6) (oQ [1,3,5,7,9,13,2020,10,14,16,18,21,23,24,27,29,30,14,2018,10,16,18,21,23,24,27,29,30,16,10,18,21,23,24,27,29,30]) κ κ κ Z (fun _=>show H2.S2 4 6 _ from Ext.refl.drawn _) (fun q2=>?_)))))))));have H3:=H2.drawn q2;refine dR 4 Z (dV Z Z (fun zw hx=>ah cz Z fa Z Z) (dV Z Z (fun zw hx=>au aD Z aN Z Z (At.whole (H2.s2FBox hx 2 Z Z Z))) (dF Z ?_ ?_)))
 ·refine aT Z aj Z Z (ag ba Z Z (bd (H3.holAt 4 Z) 1 Z)) (cF Z aj Z Z (bb func258 Z mR Z) (fI η (H3.sees 3 Z) (H3.sees 4 Z) (H3.sees 5 Z) ξ) (fun hS _ _ r _=>H2.s2Call hS r.1) (fun v1 w1 r1=>?_));obtain ⟨e1,sa1,sk1,sa2,sk2,sa3,sk3,rfl,r1⟩:=r1;obtain ⟨fp1,H4⟩:=H3.res e1 r1;refine dS Z aj Z ba bc Z Z Z Z H4 (fun _ h e=>H2.s2Call h e) (fun b1 w2 e2 g1 H5=>jq Z aj Z ba bc Z Z Z H5 6 8 7 Z Z Z Z (by unfold maxLen; omega) ω (fun _ h e=>H2.s2In h 6 Z (.inr Z) e (fun _ hb=>hb)) (fun v2 w3 fp2 H6=>dV Z Z (fun zw hx=>fA Z) (dV Z Z (fun zw hx=>ah cz Z fa Z Z) ?_)));obtain ⟨a1,k1,q3⟩:=az (H6.mine 6 Z);cases q3;refine kJ Z aj fa H6 4 1 Z Z Z Z Z (fun _ h e _=>H2.s2In h 4 Z (.inl Z) e (fun _ hb=>by rw [hb]; exact List.mem_cons_self)) (fun w4 H7=>?_);dsimp only[lNA,lCA,lSZ,lSS,aQ] at H7;refine dV Z Z (fun zw hx=>fA Z) (dV Z Z (fun zw hx=>ah cz Z ts4 Z Z) (kJ Z aj ts4 H7 4 0 Z Z Z Z Z (fun _ h e _=>H2.s2In h 4 Z (.inl Z) e (fun _ hb=>by rw [hb]; exact List.mem_cons_self)) (fun w5 H8=>?_)));dsimp only[lNA,lCA,lSZ,lSS,aQ] at H8;refine aU (hN _ _ (jX results330 ?_));obtain ⟨fp3,H9⟩:=Tape.fill H8 4 6 Z Z Z trivial
  try dsimp only[lNA,lCA,lSZ,lSS] at H9
  obtain ⟨fp4,H10⟩:=H9.closeW 0 2 3 4 (pE t r z) Z Z Z Z Z Z Z Z Z Z (nB wok1)
  try dsimp only[lNA,lCA,lSZ,lSS] at H10
  have hz:=H10.doneW;exact hz
 ·refine cF Z aj Z Z (bb func258 Z mR Z) (fI η (H3.sees 3 Z) (H3.sees 4 Z) (H3.sees 5 Z) ξ) (fun hS _ _ r _=>H2.s2Call hS r.1) (fun v3 w6 r2=>?_);obtain ⟨e5,sa4,sk4,sa5,sk5,sa6,sk6,rfl,r2⟩:=r2;obtain ⟨fp5,H11⟩:=H3.res e5 r2;refine dF Z ?_ ?_
  ·refine aT Z aj Z Z (ag ba Z Z (bd (H11.holAt 4 Z) 1 Z)) (dS Z aj Z ba bc Z Z Z Z H11 (fun _ h e=>H2.s2Call h e) (fun b2 w7 e6 g2 H12=>jq Z aj Z ba bc Z Z Z H12 6 8 7 Z Z Z Z (by unfold maxLen; omega) ω (fun _ h e=>H2.s2In h 6 Z (.inr Z) e (fun _ hb=>hb)) (fun v4 w8 fp6 H13=>dV Z Z (fun zw hx=>fA Z) (dV Z Z (fun zw hx=>ah cz Z fa Z Z) ?_))));obtain ⟨a2,k2,q4⟩:=az (H13.mine 6 Z);cases q4;refine kJ Z aj fa H13 4 1 Z Z Z Z Z (fun _ h e _=>H2.s2In h 4 Z (.inl Z) e (fun _ hb=>by rw [hb]; exact List.mem_cons_self)) (fun w9 H14=>?_);dsimp only[lNA,lCA,lSZ,lSS,aQ] at H14;refine dV Z Z (fun zw hx=>fA Z) (dV Z Z (fun zw hx=>ah cz Z ts4 Z Z) (kJ Z aj ts4 H14 4 0 Z Z Z Z Z (fun _ h e _=>H2.s2In h 4 Z (.inl Z) e (fun _ hb=>by rw [hb]; exact List.mem_cons_self)) (fun w10 H15=>?_)));dsimp only[lNA,lCA,lSZ,lSS,aQ] at H15;refine aU (hN _ _ (jX results330 ?_));obtain ⟨fp7,H16⟩:=Tape.fill H15 4 6 Z Z Z trivial
   try dsimp only[lNA,lCA,lSZ,lSS] at H16
   obtain ⟨fp8,H17⟩:=H16.closeW 0 2 3 4 (pE t r z) Z Z Z Z Z Z Z Z Z Z (nB wok1)
   try dsimp only[lNA,lCA,lSZ,lSS] at H17
   have hz:=H17.doneW;exact hz
  ·refine dS Z aj Z ba bc Z Z Z Z H11 (fun _ h e=>H2.s2Call h e) (fun b3 w11 e9 g3 H18=>aT Z aj Z Z (ag ba Z Z (bd (H18.holAt 4 Z) 1 Z)) (jq Z aj Z ba bc Z Z Z H18 6 8 7 Z Z Z Z (by unfold maxLen; omega) ω (fun _ h e=>H2.s2In h 6 Z (.inr Z) e (fun _ hb=>hb)) (fun v5 w12 fp9 H19=>dV Z Z (fun zw hx=>fA Z) (dV Z Z (fun zw hx=>ah cz Z fa Z Z) ?_))));obtain ⟨a3,k3,q5⟩:=az (H19.mine 6 Z);cases q5;refine kJ Z aj fa H19 4 1 Z Z Z Z Z (fun _ h e _=>H2.s2In h 4 Z (.inl Z) e (fun _ hb=>by rw [hb]; exact List.mem_cons_self)) (fun w13 H20=>?_);dsimp only[lNA,lCA,lSZ,lSS,aQ] at H20;refine dV Z Z (fun zw hx=>fA Z) (dV Z Z (fun zw hx=>ah cz Z ts4 Z Z) (kJ Z aj ts4 H20 4 0 Z Z Z Z Z (fun _ h e _=>H2.s2In h 4 Z (.inl Z) e (fun _ hb=>by rw [hb]; exact List.mem_cons_self)) (fun w14 H21=>?_)));dsimp only[lNA,lCA,lSZ,lSS,aQ] at H21;refine aU (hN _ _ (jX results330 ?_));obtain ⟨fp10,H22⟩:=Tape.fill H21 4 6 Z Z Z trivial
   try dsimp only[lNA,lCA,lSZ,lSS] at H22
   obtain ⟨fp11,H23⟩:=H22.closeW 0 2 3 4 (pE t r z) Z Z Z Z Z Z Z Z Z Z (nB wok1)
   try dsimp only[lNA,lCA,lSZ,lSS] at H23
   have hz:=H23.doneW;exact hz
theorem gq {w:World}{z:Wld}{zb t rC6 rC7 rC8:Nat}{fp rF6 rF7 rF8:List Nat}{r:Rec}{rA6 rA7 rA8:Option Addr}(o:OwnW w zb 34 z fp) (nd:fp.Nodup) (rK:r.Ok) (rO6:own false w [.slice rA6 r.Rows.length rC6] r.Rows rF6) (rD6:∀ b∈rF6,b ∉ fp) (rO7:own false w [.slice rA7 r.Data.length rC7] r.Data rF7) (rD7:∀ b∈rF7,b ∉ fp) (rO8:own false w [.slice rA8 r.Delta.length rC8] r.Delta rF8) (rD8:∀ b∈rF8,b ∉ fp) (ht:t<z.Tapes.length) (hb:cN r≤1048576) (hl:(z.Tapes.getD t default).Recs.length≤100000) (hw:z.Writes≤2000000000):Ret Tryz.prog 216 #[.pointer (some ⟨zb,0,none⟩),.int .i64 t,r.val rA6 rC6 rA7 rC7 rA8 rC8] w fun v w'=>(v = .bool (!bD z)∧MutW w w' fp zb 34 (fS t r z)):=by
 have rK2:=rK;unfold Rec.Ok at rK2
 try unfold I64ok at rK2
 try unfold maxLen at rK2
 have rN2:r.Name.size≤maxLen:=by unfold maxLen; omega
 have rL6:=oL rO6;have rL7:=oL rO7;have rL8:=oL rO8;refine aF func216 Z ntmps216 Z (fun Q hQ hN=>?_);have H0:=(((Sep.beginW o nd).seeF (rO6) rD6).seeF (rO7) rD7).seeF (rO8) rD8
 try dsimp only[lNA,lCA,lSZ,lSS] at H0
 refine ab (bf aj Z Z H0 (fun b1 w1 e1 g1 H1=>bf aj Z Z H1 (fun b2 w2 e2 g2 H2=>bf aj Z Z H2 (fun b3 w3 e3 g3 H3=>sA Z Z (aa (ab (sLd uc (H3.box 1 Z) Z (sV Z (lG Z) (sC func329 qT Z (gE (H3.wldAt 0 Z) (H3.nodup1 (i:=0) Z) (y:=pE t r z) func330 Z DS (fun w1 fp1 o1 n1 s1 e1=>kh o1 n1 (H3.boxFar 0 1 Z Z Z s1 e1).1 (H3.boxFar 0 1 Z Z Z s1 e1).2 (H3.boxFar 0 2 Z Z Z s1 e1).1 (H3.boxFar 0 2 Z Z Z s1 e1).2 (H3.boxFar 0 3 Z Z Z s1 e1).1 (H3.boxFar 0 3 Z Z Z s1 e1).2 (H3.seeFar 0 0 Z Z s1 e1).1 (H3.seeFar 0 0 Z Z s1 e1).2 (H3.seeFar 0 1 Z Z s1 e1).1 (H3.seeFar 0 1 Z Z s1 e1).2 (H3.seeFar 0 2 Z Z s1 e1).1 (H3.seeFar 0 2 Z Z s1 e1).2 rK ht hb hl) ξ) (fun v1 w4 r1=>?_))))))))));obtain ⟨rfl,mm1⟩:=r1;obtain ⟨fp1,H4⟩:=H3.mutW 0 Z mm1
 try dsimp only[lNA,lCA,lSZ,lSS] at H4
 refine rA hQ results216 Z ?_;exact ⟨Z,H4.doneW⟩
theorem nV {w:World}{z:Wld}{zb rC6 rC7 rC8:Nat}{fp rF6 rF7 rF8:List Nat}{r:Rec}{rA6 rA7 rA8:Option Addr}(o:OwnW w zb 34 z fp) (nd:fp.Nodup) (rK:r.Ok) (rO6:own false w [.slice rA6 r.Rows.length rC6] r.Rows rF6) (rD6:∀ b∈rF6,b ∉ fp) (rO7:own false w [.slice rA7 r.Data.length rC7] r.Data rF7) (rD7:∀ b∈rF7,b ∉ fp) (rO8:own false w [.slice rA8 r.Delta.length rC8] r.Delta rF8) (rD8:∀ b∈rF8,b ∉ fp) (hf:fi z=true) (hT:z.Tapes.length=2) (hb:cN r≤1048576) (hw:z.Writes≤1500000000):Ret Tryz.prog 211 #[.pointer (some ⟨zb,0,none⟩),r.val rA6 rC6 rA7 rC7 rA8 rC8] w fun v w'=>(v = .int .i64 2∧MutW w w' fp zb 34 (z)):=by
 have rK2:=rK;unfold Rec.Ok at rK2
 try unfold I64ok at rK2
 try unfold maxLen at rK2
 have rN2:r.Name.size≤maxLen:=by unfold maxLen; omega
 have rL6:=oL rO6;have rL7:=oL rO7;have rL8:=oL rO8;refine aF func211 Z ntmps211 Z (fun Q hQ hN=>?_);have H0:=(((Sep.beginW o nd).seeF (rO6) rD6).seeF (rO7) rD7).seeF (rO8) rD8
 try dsimp only[lNA,lCA,lSZ,lSS] at H0
 refine ab (bf aj Z Z H0 (fun b1 w1 e1 g1 H1=>sA Z Z (aa (ac (ac ?_)))));obtain ⟨wA1,wC1,wA2,wC2,wA3,wC3,wf1,wf2,wf3,wok1,H2⟩:=H1.openW 0 Z
 try dsimp only[lNA,lCA,lSZ,lSS] at H2
 have wok1U:=wok1;unfold Wld.Ok Shape.Ok I64ok at wok1U;have wL1:=oL (H2.mine 3 Z);have wL2:=oL (H2.mine 4 Z);have wL3:=oL (H2.mine 5 Z);refine am (sM Z Z (sE func227 qm Z (fY (H2.box 0 Z) η (H2.msees 3 Z) (H2.msees 4 Z) (H2.msees 5 Z) ξ) H2 (fun w2 e2 H3=>sV Z (aM Z Z) (aa (aB Z (fun c1=>?_) (fun c1=>?_))))))
 ·refine ab (rA hQ results211 Z ?_);obtain ⟨fp1,H4⟩:=H3.closeW 0 3 4 5 z Z Z Z Z Z Z Z Z Z Z wok1
  try dsimp only[lNA,lCA,lSZ,lSS] at H4
  have hz:=H4.doneW;exact ⟨Z,hz⟩
 ·exact absurd (Hu c1) (by simp [hf])
theorem pR {w:World}{z:Wld}{zb rC6 rC7 rC8:Nat}{fp rF6 rF7 rF8:List Nat}{r:Rec}{rA6 rA7 rA8:Option Addr}(o:OwnW w zb 34 z fp) (nd:fp.Nodup) (rK:r.Ok) (rO6:own false w [.slice rA6 r.Rows.length rC6] r.Rows rF6) (rD6:∀ b∈rF6,b ∉ fp) (rO7:own false w [.slice rA7 r.Data.length rC7] r.Data rF7) (rD7:∀ b∈rF7,b ∉ fp) (rO8:own false w [.slice rA8 r.Delta.length rC8] r.Delta rF8) (rD8:∀ b∈rF8,b ∉ fp) (hf:fi z=false) (hT:z.Tapes.length=2) (hb:cN r≤1048576) (hw:z.Writes≤1500000000):Ret Tryz.prog 211 #[.pointer (some ⟨zb,0,none⟩),r.val rA6 rC6 rA7 rC7 rA8 rC8] w fun v w'=>(v = .int .i64 (if nM z r=true then 0 else 9)∧MutW w w' fp zb 34 (nj z r)):=by
 have rK2:=rK;unfold Rec.Ok at rK2
 try unfold I64ok at rK2
 try unfold maxLen at rK2
 have rN2:r.Name.size≤maxLen:=by unfold maxLen; omega
 have rL6:=oL rO6;have rL7:=oL rO7;have rL8:=oL rO8;have aw:=(jH (t:=0) (r:=r) (z:=z)).2;have at_:=kC (t:=0) (r:=r) (z:=z);have ar:=xW (t:=0) (u:=1) (r:=r) (z:=z);have fn_:=Bj hf;refine aF func211 Z ntmps211 Z (fun Q hQ hN=>?_);have H0:=(((Sep.beginW o nd).seeF (rO6) rD6).seeF (rO7) rD7).seeF (rO8) rD8
 try dsimp only[lNA,lCA,lSZ,lSS] at H0
 refine ab (bf aj Z Z H0 (fun b1 w1 e1 g1 H1=>sA Z Z (aa (ac (ac ?_)))));obtain ⟨wA1,wC1,wA2,wC2,wA3,wC3,wf1,wf2,wf3,wok1,H2⟩:=H1.openW 0 Z
 try dsimp only[lNA,lCA,lSZ,lSS] at H2
 have wok1U:=wok1;unfold Wld.Ok Shape.Ok I64ok at wok1U;have wL1:=oL (H2.mine 3 Z);have wL2:=oL (H2.mine 4 Z);have wL3:=oL (H2.mine 5 Z);refine am (sM Z Z (sE func227 qm Z (fY (H2.box 0 Z) η (H2.msees 3 Z) (H2.msees 4 Z) (H2.msees 5 Z) ξ) H2 (fun w2 e2 H3=>sV Z (aM Z Z) (aa (aB Z (fun c1=>?_) (fun c1=>?_))))))
 ·exact absurd (F5 c1) (by simp [hf])
 ·refine ak (ab (sM Z Z (sV Z (au aD Z aN Z Z (At.whole (H3.box 1 Z))) ?_)));obtain ⟨fp1,H4⟩:=H3.closeW 0 3 4 5 z Z Z Z Z Z Z Z Z Z Z wok1
  try dsimp only[lNA,lCA,lSZ,lSS] at H4
  refine sC func216 wJ Z (gq (H4.wldAt 0 Z) (H4.nodup1 (i:=0) Z) η (aS (H4.seen 0 Z)) (fun b hb=>H4.off 0 Z 0 Z hb) (aS (H4.seen 1 Z)) (fun b hb=>H4.off 1 Z 0 Z hb) (aS (H4.seen 2 Z)) (fun b hb=>H4.off 2 Z 0 Z hb) ξ ξ ξ ξ (t:=0)) (fun v2 w3 r2=>?_);obtain ⟨rfl,mm1⟩:=r2;obtain ⟨fp2,H5⟩:=H4.mutW 0 Z mm1
  try dsimp only[lNA,lCA,lSZ,lSS] at H5
  refine sM Z Z (dO (t:=11) Z (fun hg1=>?_) (fun hg1=>?_))
  ·try simp only [decide_eq_true_eq,decide_eq_false_iff_not] at hg1
   refine ax (wg Z Z Z) Z Z (aG Z) (ax (wg Z Z Z) Z Z (au aD Z aN Z Z (At.whole (H5.box 1 Z))) (eX (wg Z Z Z) Z Z (bb func216 Z wJ Z) (gq (H5.wldAt 0 Z) (H5.nodup1 (i:=0) Z) η (aS (H5.seen 0 Z)) (fun b hb=>H5.off 0 Z 0 Z hb) (aS (H5.seen 1 Z)) (fun b hb=>H5.off 1 Z 0 Z hb) (aS (H5.seen 2 Z)) (fun b hb=>H5.off 2 Z 0 Z hb) ξ ξ ξ ξ (t:=1)) (fun v3 w4 r3=>?_)));obtain ⟨rfl,mm2⟩:=r3;obtain ⟨fp3,H6⟩:=H5.mutW 0 Z mm2
   try dsimp only[lNA,lCA,lSZ,lSS] at H6
   refine sV Z (aO Z Z) (sE func326 vH Z mf H6 (fun w5 e5 H7=>rA hQ results211 Z ?_));have hnp:bD z=false:=by simpa using hg1
   have hz:=H7.doneW;rw [← (oo (r:=r) hnp).1] at hz;exact ⟨(by rw [(oo (r:=r) hnp).2]),hz⟩
  ·try simp only [decide_eq_true_eq,decide_eq_false_iff_not] at hg1
   refine sR 3 Z (sV Z (aW Z Z) (sE func326 vH Z mf H5 (fun w6 e6 H8=>rA hQ results211 Z ?_)));have hnp:bD z=true:=by simpa using hg1
   have hz:=H8.doneW;rw [← (uT (r:=r) hnp).1] at hz;exact ⟨(by rw [(uT (r:=r) hnp).2]),hz⟩
theorem jQ {w:World}{x:Wld}{xA9 xA10 xA11:Option Addr}{xC9 xC10 xC11:Nat}{c:Int}(xK:x.Ok) (xS9:Sees w [.slice xA9 x.Groups.length xC9] x.Groups) (xS10:Sees w [.slice xA10 x.On.length xC10] x.On) (xS11:Sees w [.slice xA11 x.Tapes.length xC11] x.Tapes) (hc:c≠0∧c≠9):Ret Tryz.prog 89 #[x.val xA9 xC9 xA10 xC10 xA11 xC11,.int .i64 c] w fun v w'=>Ext No w w'∧(v=(⟨c,noWld⟩:WldResult).val none 0 none 0 none 0):=by
 have xK2:=xK;unfold Wld.Ok Shape.Ok at xK2
 try unfold I64ok at xK2
 try unfold maxLen at xK2
 have xL9:=sL xS9;obtain ⟨xF9,xO9⟩:=xS9;have xL10:=sL xS10;obtain ⟨xF10,xO10⟩:=xS10;have xL11:=sL xS11;obtain ⟨xF11,xO11⟩:=xS11;refine aF func89 Z ntmps89 Z (fun Q hQ hN=>?_);have H0:=Sep.start (ae xO9 (ae xO10 (ae xO11 aA)));refine ab (bf aj Z Z H0 (fun b1 w1 e1 g1 H1=>bT aj Z zeroValue36 H1 (fun b2 w2 e2 g2 H2=>aa (ac (ab (sR 3 Z (dO (t:=7) Z (fun hg1=>?_) (fun hg1=>?_))))))))
 ·try simp only [decide_eq_true_eq,decide_eq_false_iff_not] at hg1
  refine ax (wg Z Z Z) Z Z (aG Z) (ax (wg Z Z Z) Z Z (bE Z Z) (sV Z (aO Z Z) (aa (aB Z (fun c1=>?_) (fun c1=>?_)))))
  ·refine ab (sM Z Z (sV Z (bQ eS Z Z) (be aj eD Z Z Z Z H2 1 Z Z (fun w3 e3 H3=>?_))));dsimp only[lNA,lCA,lSZ,lSS,aQ] at H3;refine aa (bR (hQ _ _ (eu results89 Z (aJ gz Z eD Z (At.whole (H3.box 1 Z))) ?_)));exact ⟨H3.ext,Z⟩
  ·exfalso; simp_all
 ·exfalso; simp_all
theorem i9 {w:World}{x:Wld}{xA9 xA10 xA11:Option Addr}{xC9 xC10 xC11:Nat}{c:Int}(xK:x.Ok) (xS9:Sees w [.slice xA9 x.Groups.length xC9] x.Groups) (xS10:Sees w [.slice xA10 x.On.length xC10] x.On) (xS11:Sees w [.slice xA11 x.Tapes.length xC11] x.Tapes) (hc:c=0∨c=9):Ret Tryz.prog 89 #[x.val xA9 xC9 xA10 xC10 xA11 xC11,.int .i64 c] w fun v w'=>Ext No w w'∧(v=(⟨c,x⟩:WldResult).val xA9 xC9 xA10 xC10 xA11 xC11):=by
 have xK2:=xK;unfold Wld.Ok Shape.Ok at xK2
 try unfold I64ok at xK2
 try unfold maxLen at xK2
 have xL9:=sL xS9;obtain ⟨xF9,xO9⟩:=xS9;have xL10:=sL xS10;obtain ⟨xF10,xO10⟩:=xS10;have xL11:=sL xS11;obtain ⟨xF11,xO11⟩:=xS11;refine aF func89 Z ntmps89 Z (fun Q hQ hN=>?_);have H0:=Sep.start (ae xO9 (ae xO10 (ae xO11 aA)));refine ab (bf aj Z Z H0 (fun b1 w1 e1 g1 H1=>bT aj Z zeroValue36 H1 (fun b2 w2 e2 g2 H2=>aa (ac (ab (sR 3 Z (dO (t:=7) Z (fun hg1=>?_) (fun hg1=>?_))))))))
 ·try simp only [decide_eq_true_eq,decide_eq_false_iff_not] at hg1
  refine ax (wg Z Z Z) Z Z (aG Z) (ax (wg Z Z Z) Z Z (bE Z Z) (sV Z (aO Z Z) (aa (aB Z (fun c1=>?_) (fun c1=>?_)))))
  ·exfalso; simp_all
  ·refine ak (ab (sM Z Z (sV Z (au aX Z dG Z Z (At.whole (H2.box 0 Z))) (sV Z (bQ eS Z Z) (be aj eD Z Z Z Z H2 1 Z Z (fun w3 e3 H3=>?_))))));dsimp only[lNA,lCA,lSZ,lSS,aQ] at H3;refine aa (bR (hQ _ _ (eu results89 Z (aJ gz Z eD Z (At.whole (H3.box 1 Z))) ?_)));exact ⟨H3.ext,Z⟩
 ·try simp only [decide_eq_true_eq,decide_eq_false_iff_not] at hg1
  refine sR 2 Z (sV Z (aW Z Z) (aa (jA Z (ak (ab (sM Z Z (sV Z (au aX Z dG Z Z (At.whole (H2.box 0 Z))) (sV Z (bQ eS Z Z) (be aj eD Z Z Z Z H2 1 Z Z (fun w4 e4 H4=>?_))))))))));dsimp only[lNA,lCA,lSZ,lSS,aQ] at H4;refine aa (bR (hQ _ _ (eu results89 Z (aJ gz Z eD Z (At.whole (H4.box 1 Z))) ?_)));exact ⟨H4.ext,Z⟩
theorem gX {w:World}{z:Wld}{zb:Nat}{fp:List Nat}(o:OwnW w zb 34 z fp) (nd:fp.Nodup) (hd:z.Down=false) (hw:z.Writes≤2000000000):Ret Tryz.prog 224 #[.pointer (some ⟨zb,0,none⟩)] w fun v w'=>(v = .bool (!bD z)∧MutW w w' fp zb 34 (ll z z)):=by
 refine aF func224 Z ntmps224 Z (fun Q hQ hN=>?_);have H0:=Sep.beginW o nd;refine ab (sA Z Z (aa (ac (ac ?_))));obtain ⟨wA1,wC1,wA2,wC2,wA3,wC3,wf1,wf2,wf3,wok1,H1⟩:=H0.openW 0 Z
 try dsimp only[lNA,lCA,lSZ,lSS] at H1
 have wok1U:=wok1;unfold Wld.Ok Shape.Ok I64ok at wok1U;have wL1:=oL (H1.mine 2 Z);have wL2:=oL (H1.mine 3 Z);have wL3:=oL (H1.mine 4 Z);refine am (sR 2 Z (sF aX Z ts4 (sLd tu4 (H1.box 0 Z) Z (aa (bJ Z (fun c1=>?_) (fun c1=>?_))))))
 ·exfalso; simp_all
 ·refine ak (ac (ac (bH (S:=Ext No _) (oQ [1,3,5,7,9,11,13,15,17,19,21,23,25,27,29,30]) κ κ κ Z (fun _=>Ext.refl.drawn _) (fun q1=>?_))));have H2:=H1.drawn q1;refine dR 2 Z (dV Z Z (fun zw hx=>ah aX Z ts2 Z Z) (dV Z Z (fun zw hx=>ag tu2 Z Z (ao (hx.heap (H2.box 0 Z)) Z)) (dR 2 Z (cY (t:=12) Z (fun hg1=>?_) (fun hg1=>?_)))))
  ·try simp only [decide_eq_true_eq,decide_eq_false_iff_not] at hg1
   refine aL Z (wg Z Z Z) Z Z (fun zw hx=>aG Z) (aL Z (wg Z Z Z) Z Z (fun zw hx=>fA Z) (aL Z (wg Z Z Z) Z Z (fun zw hx=>ah aX Z ts2 Z Z) (aL Z (wg Z Z Z) Z Z (fun zw hx=>ag tu2 Z Z (ao (hx.heap (H2.box 0 Z)) Z)) (aL Z (wg Z Z Z) Z Z (fun zw hx=>aG Z) (aL Z (wg Z Z Z) Z Z (fun zw hx=>fA Z) (aL Z (wg Z Z Z) Z Z (fun zw hx=>ah aX Z ts2 Z Z) (aL Z (wg Z Z Z) Z Z (fun zw hx=>ag tu2 Z Z (ao (hx.heap (H2.box 0 Z)) Z)) (aL Z (wg Z Z Z) Z Z (fun zw hx=>zl Z Z) (aT Z aj Z Z (aO Z Z) (aU (aB Z (fun c2=>?_) (fun c2=>?_))))))))))))
   ·refine ac ?_;have hnp:bD z=true:=uo ω ω;refine am (sR 2 Z (sF aX Z ts4 (cd aj ts4 Z Z Z H2 0 Z Z (fun w1 e1 H3=>?_))));dsimp only[lNA,lCA,lSZ,lSS,aQ] at H3;refine aa (ab (sR 2 Z (sF aX Z bY (cd aj bY Z Z Z H3 0 Z Z (fun w2 e2 H4=>?_)))));dsimp only[lNA,lCA,lSZ,lSS,aQ] at H4;refine aa (ab (rA hQ results224 Z ?_));have H5:=H4.nilW (α:=Int)
    try dsimp only[lNA,lCA,lSZ,lSS] at H5
    obtain ⟨fp1,H6⟩:=H5.closeW 0 2 5 4 (zt z) Z Z Z Z Z Z Z Z Z Z (pv wok1)
    try dsimp only[lNA,lCA,lSZ,lSS] at H6
    have hz:=H6.doneW;rw [← iL (y:=z) hnp] at hz;exact ⟨(by rw [hnp]; rfl),hz⟩
   ·refine ak (ac ?_);have hnp:bD z=false:=nb (.inr ω);refine am (sR 3 Z (sF aX Z ts2 (sLd tu2 (H2.box 0 Z) Z (sV Z (aC Z Z iO) (sV Z (fA Z) (sF aX Z ts2 (cd aj ts2 Z Z Z H2 0 Z Z (fun w3 e3 H7=>?_))))))));dsimp only[lNA,lCA,lSZ,lSS,aQ] at H7;refine aa (ab (rA hQ results224 Z ?_));obtain ⟨fp2,H8⟩:=H7.closeW 0 2 3 4 (iz z) Z Z Z Z Z Z Z Z Z Z (kW wok1 hw)
    try dsimp only[lNA,lCA,lSZ,lSS] at H8
    have hz:=H8.doneW;rw [← eF hnp] at hz;exact ⟨(by rw [hnp]; rfl),hz⟩
  ·try simp only [decide_eq_true_eq,decide_eq_false_iff_not] at hg1
   refine dR 9 Z (aT Z aj Z Z (aW Z Z) (aU (jA Z (ak (ac ?_)))));have hnp:bD z=false:=nb (.inl ω);refine am (sR 3 Z (sF aX Z ts2 (sLd tu2 (H2.box 0 Z) Z (sV Z (aC Z Z iO) (sV Z (fA Z) (sF aX Z ts2 (cd aj ts2 Z Z Z H2 0 Z Z (fun w4 e4 H9=>?_))))))));dsimp only[lNA,lCA,lSZ,lSS,aQ] at H9;refine aa (ab (rA hQ results224 Z ?_));obtain ⟨fp3,H10⟩:=H9.closeW 0 2 3 4 (iz z) Z Z Z Z Z Z Z Z Z Z (kW wok1 hw)
   try dsimp only[lNA,lCA,lSZ,lSS] at H10
   have hz:=H10.doneW;rw [← eF hnp] at hz;exact ⟨(by rw [hnp]; rfl),hz⟩
theorem kT {w:World}{z:Wld}{zb t rC6 rC7 rC8:Nat}{fp rF6 rF7 rF8:List Nat}{r:Rec}{rA6 rA7 rA8:Option Addr}(o:OwnW w zb 34 z fp) (nd:fp.Nodup) (rK:r.Ok) (rO6:own false w [.slice rA6 r.Rows.length rC6] r.Rows rF6) (rD6:∀ b∈rF6,b ∉ fp) (rO7:own false w [.slice rA7 r.Data.length rC7] r.Data rF7) (rD7:∀ b∈rF7,b ∉ fp) (rO8:own false w [.slice rA8 r.Delta.length rC8] r.Delta rF8) (rD8:∀ b∈rF8,b ∉ fp) (hd:z.Down=false) (ht:t<z.Tapes.length) (hb:cN r≤1048576) (hl:(z.Tapes.getD t default).Recs.length≤100000) (hw:z.Writes≤2000000000):Ret Tryz.prog 215 #[.pointer (some ⟨zb,0,none⟩),.int .i64 t,r.val rA6 rC6 rA7 rC7 rA8 rC8] w fun v w'=>(v = .bool (!bD z)∧MutW w w' fp zb 34 (fS t r z)):=by
 have rK2:=rK;unfold Rec.Ok at rK2
 try unfold I64ok at rK2
 try unfold maxLen at rK2
 have rN2:r.Name.size≤maxLen:=by unfold maxLen; omega
 have rL6:=oL rO6;have rL7:=oL rO7;have rL8:=oL rO8;refine aF func215 Z ntmps215 Z (fun Q hQ hN=>?_);have H0:=(((Sep.beginW o nd).seeF (rO6) rD6).seeF (rO7) rD7).seeF (rO8) rD8
 try dsimp only[lNA,lCA,lSZ,lSS] at H0
 refine ab (bf aj Z Z H0 (fun b1 w1 e1 g1 H1=>sA Z Z (aa (ac (ab (sM Z Z (sC func224 nE Z (gX (H1.wldAt 0 Z) (H1.nodup1 (i:=0) Z) ξ ξ) (fun v1 w2 r1=>?_))))))));obtain ⟨rfl,mm1⟩:=r1;obtain ⟨fp1,H2⟩:=H1.mutW 0 Z mm1
 try dsimp only[lNA,lCA,lSZ,lSS] at H2
 refine sV Z (aZ Z) (aa (bJ Z (fun c1=>?_) (fun c1=>?_)))
 ·refine ab (rA hQ results215 Z ?_);have hnp:bD z=true:=by simpa using c1
  have hz:=H2.doneW;rw [iL hnp] at hz;exact ⟨(by rw [hnp]; rfl),(by unfold fS; rw [iL hnp]; exact hz)⟩
 ·refine ak (ac ?_);have hnp:bD z=false:=by simpa using c1
  obtain ⟨z1,hz1⟩:∃ z1,z1=iz z:=⟨_,Z⟩;have HZ:=H2;rw [eF hnp,← hz1] at HZ;have ht1:t<z1.Tapes.length:=by rw [hz1]; exact ht
  have hl1:(z1.Tapes.getD t default).Recs.length≤100000:=by rw [hz1]; exact hl
  obtain ⟨wA1,wC1,wA2,wC2,wA3,wC3,wf1,wf2,wf3,wok1,H3⟩:=HZ.openW 0 Z
  try dsimp only[lNA,lCA,lSZ,lSS] at H3
  have wok1U:=wok1;unfold Wld.Ok Shape.Ok I64ok at wok1U;have wL1:=oL (H3.mine 3 Z);have wL2:=oL (H3.mine 4 Z);have wL3:=oL (H3.mine 5 Z);obtain ⟨eb1,eo1,eT1,eF1,eG1,ea1,ek1,eg1,ee1,eK1,eH1⟩:=Tape.focus H3 5 Z t ω;have eK1U:=eK1;unfold Tape.Ok at eK1U
  try unfold I64ok at eK1U
  try unfold maxLen at eK1U
  try dsimp only[lNA,lCA,lSZ,lSS] at eH1
  refine bH (S:=eH1.S2 5 7) (oQ [1,3,5,7,9,11,13,15,17,19,21,23,27,2014,24,28,30,32,35,37,38,28,2012,24,30,32,35,37,38,30,24,32,35,37,38]) κ κ κ Z (fun _=>show eH1.S2 5 7 _ from Ext.refl.drawn _) (fun q1=>?_);have H4:=eH1.drawn q1;refine dR 2 Z (dV Z Z (fun zw hx=>ah aX Z ex Z Z) (dV Z Z (fun zw hx=>ag ce Z Z (ao (eH1.s2Box hx 0 Z Z Z Z Z) Z)) (dR 3 Z (dV Z Z (fun zw hx=>ah aX Z ex Z Z) (dV Z Z (fun zw hx=>ag ce Z Z (ao (eH1.s2Box hx 0 Z Z Z Z Z) Z)) (dM Z Z Z (dV Z Z (fun zw hx=>ay ce cK Z Z ee1 t ω ω) (dV Z Z (fun zw hx=>ah cz Z fa Z Z) (dV Z Z (fun zw hx=>au aD Z aN Z Z (At.whole (eH1.s2Box hx 1 Z Z Z Z Z))) (dF Z ?_ ?_))))))))))
  ·refine aT Z aj Z Z (ag ba Z Z (bd (H4.holAt 5 Z) 1 Z)) (cF Z aj Z Z (bb func309 Z p9 Z) (gK η (H4.sees 0 Z) (H4.sees 1 Z) (H4.sees 2 Z) ξ) (fun hS _ _ r _=>eH1.s2Call hS r.1) (fun v2 w3 r2=>?_));obtain ⟨e3,sa1,sk1,sa2,sk2,sa3,sk3,rfl,r2⟩:=r2;obtain ⟨fp2,H5⟩:=H4.res e3 r2;refine dS Z aj Z ba bc Z Z Z Z H5 (fun _ h e=>eH1.s2Call h e) (fun b2 w4 e4 g2 H6=>jq Z aj Z ba bc Z Z Z H6 7 9 8 Z Z Z Z (by unfold maxLen; omega) ω (fun _ h e=>eH1.s2In h 7 Z (.inr Z) e (fun _ hb=>hb)) (fun v3 w5 fp3 H7=>dV Z Z (fun zw hx=>ay ce cK Z Z ee1 t ω ω) (dV Z Z (fun zw hx=>ah cz Z fa Z Z) ?_)));obtain ⟨a1,k1,q2⟩:=az (H7.mine 7 Z);cases q2;refine kJ Z aj fa H7 5 1 Z Z Z Z Z (fun _ h e _=>eH1.s2In h 5 Z (.inl Z) e (fun _ hb=>by rw [hb]; exact List.mem_cons_self)) (fun w6 H8=>?_);dsimp only[lNA,lCA,lSZ,lSS,aQ] at H8;refine aU (ab (sR 2 Z (sF aX Z ex (sLd ce (H8.box 0 Z) Z (sM Z Z (sV Z (ay ce cK Z Z ee1 t ω ω) (sF cz Z ts4 (jT aj ts4 H8 5 0 Z Z Z Z Z (fun w7 H9=>?_)))))))));dsimp only[lNA,lCA,lSZ,lSS,aQ] at H9;refine aa (ab (rA hQ results215 Z ?_));obtain ⟨fp4,H10⟩:=Tape.fill H9 5 7 Z Z Z trivial
   try dsimp only[lNA,lCA,lSZ,lSS] at H10
   obtain ⟨fp5,H11⟩:=H10.closeW 0 3 4 5 (pE t r z1) Z Z Z Z Z Z Z Z Z Z (nB wok1)
   try dsimp only[lNA,lCA,lSZ,lSS] at H11
   have hz:=H11.doneW;rw [show pE t r z1=fS t r z from by unfold fS; rw [eF hnp,hz1]; rfl] at hz;exact ⟨(by rw [hnp]; rfl),hz⟩
  ·refine cF Z aj Z Z (bb func309 Z p9 Z) (gK η (H4.sees 0 Z) (H4.sees 1 Z) (H4.sees 2 Z) ξ) (fun hS _ _ r _=>eH1.s2Call hS r.1) (fun v4 w8 r3=>?_);obtain ⟨e7,sa4,sk4,sa5,sk5,sa6,sk6,rfl,r3⟩:=r3;obtain ⟨fp6,H12⟩:=H4.res e7 r3;refine dF Z ?_ ?_
   ·refine aT Z aj Z Z (ag ba Z Z (bd (H12.holAt 5 Z) 1 Z)) (dS Z aj Z ba bc Z Z Z Z H12 (fun _ h e=>eH1.s2Call h e) (fun b3 w9 e8 g3 H13=>jq Z aj Z ba bc Z Z Z H13 7 9 8 Z Z Z Z (by unfold maxLen; omega) ω (fun _ h e=>eH1.s2In h 7 Z (.inr Z) e (fun _ hb=>hb)) (fun v5 w10 fp7 H14=>dV Z Z (fun zw hx=>ay ce cK Z Z ee1 t ω ω) (dV Z Z (fun zw hx=>ah cz Z fa Z Z) ?_))));obtain ⟨a2,k2,q3⟩:=az (H14.mine 7 Z);cases q3;refine kJ Z aj fa H14 5 1 Z Z Z Z Z (fun _ h e _=>eH1.s2In h 5 Z (.inl Z) e (fun _ hb=>by rw [hb]; exact List.mem_cons_self)) (fun w11 H15=>?_);dsimp only[lNA,lCA,lSZ,lSS,aQ] at H15;refine aU (ab (sR 2 Z (sF aX Z ex (sLd ce (H15.box 0 Z) Z (sM Z Z (sV Z (ay ce cK Z Z ee1 t ω ω) (sF cz Z ts4 (jT aj ts4 H15 5 0 Z Z Z Z Z (fun w12 H16=>?_)))))))));dsimp only[lNA,lCA,lSZ,lSS,aQ] at H16;refine aa (ab (rA hQ results215 Z ?_));obtain ⟨fp8,H17⟩:=Tape.fill H16 5 7 Z Z Z trivial
    try dsimp only[lNA,lCA,lSZ,lSS] at H17
    obtain ⟨fp9,H18⟩:=H17.closeW 0 3 4 5 (pE t r z1) Z Z Z Z Z Z Z Z Z Z (nB wok1)
    try dsimp only[lNA,lCA,lSZ,lSS] at H18
    have hz:=H18.doneW;rw [show pE t r z1=fS t r z from by unfold fS; rw [eF hnp,hz1]; rfl] at hz;exact ⟨(by rw [hnp]; rfl),hz⟩
   ·refine dS Z aj Z ba bc Z Z Z Z H12 (fun _ h e=>eH1.s2Call h e) (fun b4 w13 e11 g4 H19=>aT Z aj Z Z (ag ba Z Z (bd (H19.holAt 5 Z) 1 Z)) (jq Z aj Z ba bc Z Z Z H19 7 9 8 Z Z Z Z (by unfold maxLen; omega) ω (fun _ h e=>eH1.s2In h 7 Z (.inr Z) e (fun _ hb=>hb)) (fun v6 w14 fp10 H20=>dV Z Z (fun zw hx=>ay ce cK Z Z ee1 t ω ω) (dV Z Z (fun zw hx=>ah cz Z fa Z Z) ?_))));obtain ⟨a3,k3,q4⟩:=az (H20.mine 7 Z);cases q4;refine kJ Z aj fa H20 5 1 Z Z Z Z Z (fun _ h e _=>eH1.s2In h 5 Z (.inl Z) e (fun _ hb=>by rw [hb]; exact List.mem_cons_self)) (fun w15 H21=>?_);dsimp only[lNA,lCA,lSZ,lSS,aQ] at H21;refine aU (ab (sR 2 Z (sF aX Z ex (sLd ce (H21.box 0 Z) Z (sM Z Z (sV Z (ay ce cK Z Z ee1 t ω ω) (sF cz Z ts4 (jT aj ts4 H21 5 0 Z Z Z Z Z (fun w16 H22=>?_)))))))));dsimp only[lNA,lCA,lSZ,lSS,aQ] at H22;refine aa (ab (rA hQ results215 Z ?_));obtain ⟨fp11,H23⟩:=Tape.fill H22 5 7 Z Z Z trivial
    try dsimp only[lNA,lCA,lSZ,lSS] at H23
    obtain ⟨fp12,H24⟩:=H23.closeW 0 3 4 5 (pE t r z1) Z Z Z Z Z Z Z Z Z Z (nB wok1)
    try dsimp only[lNA,lCA,lSZ,lSS] at H24
    have hz:=H24.doneW;rw [show pE t r z1=fS t r z from by unfold fS; rw [eF hnp,hz1]; rfl] at hz;exact ⟨(by rw [hnp]; rfl),hz⟩
theorem uF {w:World}{z:Wld}{zb rC6 rC7 rC8:Nat}{fp rF6 rF7 rF8:List Nat}{r:Rec}{rA6 rA7 rA8:Option Addr}(o:OwnW w zb 34 z fp) (nd:fp.Nodup) (rK:r.Ok) (rO6:own false w [.slice rA6 r.Rows.length rC6] r.Rows rF6) (rD6:∀ b∈rF6,b ∉ fp) (rO7:own false w [.slice rA7 r.Data.length rC7] r.Data rF7) (rD7:∀ b∈rF7,b ∉ fp) (rO8:own false w [.slice rA8 r.Delta.length rC8] r.Delta rF8) (rD8:∀ b∈rF8,b ∉ fp) (hf:fi z=false) (hd:z.Down=false) (hT:z.Tapes.length=2) (hb:cN r≤1048576) (hw:z.Writes≤1500000000):Ret Tryz.prog 210 #[.pointer (some ⟨zb,0,none⟩),r.val rA6 rC6 rA7 rC7 rA8 rC8] w fun v w'=>(v = .bool (nM z r)∧MutW w w' fp zb 34 (nj z r)):=by
 have rK2:=rK;unfold Rec.Ok at rK2
 try unfold I64ok at rK2
 try unfold maxLen at rK2
 have rN2:r.Name.size≤maxLen:=by unfold maxLen; omega
 have rL6:=oL rO6;have rL7:=oL rO7;have rL8:=oL rO8;have aw:=(jH (t:=0) (r:=r) (z:=z)).2;have at_:=kC (t:=0) (r:=r) (z:=z);have ar:=xW (t:=0) (u:=1) (r:=r) (z:=z);have fn_:=Bj hf;refine aF func210 Z ntmps210 Z (fun Q hQ hN=>?_);have H0:=(((Sep.beginW o nd).seeF (rO6) rD6).seeF (rO7) rD7).seeF (rO8) rD8
 try dsimp only[lNA,lCA,lSZ,lSS] at H0
 refine ab (bf aj Z Z H0 (fun b1 w1 e1 g1 H1=>sA Z Z (aa (ab (sM Z Z (sV Z (au aD Z aN Z Z (At.whole (H1.box 1 Z))) (sC func215 wV Z (kT (H1.wldAt 0 Z) (H1.nodup1 (i:=0) Z) η (aS (H1.seen 0 Z)) (fun b hb=>H1.off 0 Z 0 Z hb) (aS (H1.seen 1 Z)) (fun b hb=>H1.off 1 Z 0 Z hb) (aS (H1.seen 2 Z)) (fun b hb=>H1.off 2 Z 0 Z hb) ξ ξ ξ ξ ξ (t:=0)) (fun v1 w2 r1=>?_))))))));obtain ⟨rfl,mm1⟩:=r1;obtain ⟨fp1,H2⟩:=H1.mutW 0 Z mm1
 try dsimp only[lNA,lCA,lSZ,lSS] at H2
 refine sM Z Z (dO (t:=8) Z (fun hg1=>?_) (fun hg1=>?_))
 ·have hnp0:bD z=false:=by simpa using hg1
  have ad:(fS 0 r z).Down=false:=(tC (t:=0) (r:=r) hnp0).trans hd;refine ax (wg Z Z Z) Z Z (aG Z) (ax (wg Z Z Z) Z Z (au aD Z aN Z Z (At.whole (H2.box 1 Z))) (eX (wg Z Z Z) Z Z (bb func215 Z wV Z) (kT (H2.wldAt 0 Z) (H2.nodup1 (i:=0) Z) η (aS (H2.seen 0 Z)) (fun b hb=>H2.off 0 Z 0 Z hb) (aS (H2.seen 1 Z)) (fun b hb=>H2.off 1 Z 0 Z hb) (aS (H2.seen 2 Z)) (fun b hb=>H2.off 2 Z 0 Z hb) ξ ξ ξ ξ ξ (t:=1)) (fun v2 w3 r2=>?_)));obtain ⟨rfl,mm2⟩:=r2;obtain ⟨fp2,H3⟩:=H2.mutW 0 Z mm2
  try dsimp only[lNA,lCA,lSZ,lSS] at H3
  refine sV Z (aO Z Z) (rA hQ results210 Z ?_);have hnp:bD z=false:=by simpa using hg1
  have hz:=H3.doneW;rw [← (oo (r:=r) hnp).1] at hz;exact ⟨(by rw [(oo (r:=r) hnp).2]),hz⟩
 ·try simp only [decide_eq_true_eq,decide_eq_false_iff_not] at hg1
  refine sR 3 Z (sV Z (aW Z Z) (rA hQ results210 Z ?_));have hnp:bD z=true:=by simpa using hg1
  have hz:=H2.doneW;rw [← (uT (r:=r) hnp).1] at hz;exact ⟨(by rw [(uT (r:=r) hnp).2]),hz⟩
end Go.Wk
namespace Go.Wk
open Rp (sz own)
section
variable {α:Type}[Inhabited α] {f:α→Nat}{xs:List α}{y:α}{i:Nat}
theorem md (h:i<xs.length):mkL f (xs.set i y)+f (xs.getD i default)=mkL f xs+f y:=by
  unfold mkL
  rw [List.length_set]
  have e1:bV (fun j=>f ((xs.set i y).getD j default)+(if j=i then f (xs.getD i default) else 0)) xs.length=bV (fun j=>f (xs.getD j default)+(if j=i then f y else 0)) xs.length:=
    rg fun j hj=>by
      rw [cP]
      by_cases e:j=i
      · subst e; rw [if_pos ⟨rfl,h⟩,if_pos rfl,if_pos rfl]; omega
      · rw [if_neg (fun q=>e q.1),if_neg e,if_neg e]
  rw [ti,ti,wj,wj,if_pos h,if_pos h] at e1
  exact e1
end
def eo (s g:Int):Rec:=⟨3,s,⟨#[]⟩,0,g,0,[],[],[]⟩
def oG (z:Wld) (r:Rec):Int:=if fi z=true then 2 else if nM z r=true then 0 else 9
def mq (z:Wld) (r:Rec):Wld:=if fi z=true then z else nj z r
section
variable {z:Wld}{r:Rec}{rs:List Rec}{t:Nat}
theorem Ja:oG z r=0∨oG z r=2∨oG z r=9:=by
  unfold oG; split
  · exact .inr (.inl rfl)
  · split
    · exact .inl rfl
    · exact .inr (.inr rfl)
theorem xS (h:fi z=true):oG z r=2∧mq z r=z:=⟨if_pos h,if_pos h⟩
theorem kE (h:fi z=false):oG z r=(if nM z r=true then 0 else 9)∧mq z r=nj z r:=⟨if_neg (by simp [h]),if_neg (by simp [h])⟩
theorem Fl {i:Nat}(h:i<rs.length):rs.drop i=rs.getD i default::rs.drop (i+1):=by
  rw [cS h]; exact List.drop_eq_getElem_cons h
theorem EV (h:t<z.Tapes.length):bW (fS t r z)≤bW z+cO r:=by
  unfold fS ll; split
  · have:=zH (z:=z); omega
  · have h1:=md (f:=dt) (xs:=z.Tapes) (i:=t) (y:=⟨false,(z.Tapes.getD t default).Recs++[r]⟩) h
    have h3:dt ⟨false,(z.Tapes.getD t default).Recs++[r]⟩=dt (z.Tapes.getD t default)+cO r:=by
      unfold dt; dsimp only; rw [GM]; omega
    unfold bW iz pE; dsimp only; omega
theorem IZ (h:z.Tapes.length=2):bW (nj z r)≤bW z+2*cO r:=by
  unfold nj; split
  · have:=zH (z:=z); omega
  · have h1:=EV (t:=0) (r:=r) (z:=z) ω
    have h2:=EV (t:=1) (r:=r) (z:=fS 0 r z) (by rw [kC]; omega)
    omega
theorem CS:(nj z r).Tapes.length=z.Tapes.length:=by
  unfold nj; split
  · rfl
  · rw [kC,kC]
theorem AN:z.Writes≤(nj z r).Writes∧(nj z r).Writes≤z.Writes+2:=by
  unfold nj; split
  · show z.Writes≤z.Writes∧z.Writes≤z.Writes+2; omega
  · have h1:=jH (t:=0) (r:=r) (z:=z)
    have h2:=jH (t:=1) (r:=r) (z:=fS 0 r z)
    omega
theorem Gr (h:nM z r=true):(nj z r).Down=z.Down:=by
  unfold nM at h
  simp only [Bool.and_eq_true,Bool.not_eq_true'] at h
  rw [(oo h.1).1,tC h.2,tC h.1]
theorem GL (h:z.Ok) (h2:z.Writes≤1500000000):(nj z r).Ok:=by
  unfold nj; split
  · exact pv h
  · have:=jH (t:=0) (r:=r) (z:=z)
    exact E3 (E3 h ω) ω
theorem GE {s g:Int}:cO (eo s g)=6:=rfl
theorem Bb {s g:Int}(h1:I64ok s) (h2:I64ok g):(eo s g).Ok:=by
  have h0:I64ok 0:=by unfold I64ok; omega
  exact ⟨by show I64ok 3; unfold I64ok; omega,h1,by show (0:Nat)≤maxLen; exact Nat.zero_le _,h0,h2,h0⟩
theorem qC (hT:z.Tapes.length=2):(mq z r).Tapes.length=2∧(mq z r).Writes≤z.Writes+2∧z.Writes≤(mq z r).Writes∧bW (mq z r)≤bW z+2*cO r:=by
  unfold mq; split
  · exact ⟨hT,ω,ω,ω⟩
  · have h1:=AN (z:=z) (r:=r)
    exact ⟨by rw [CS,hT],ω,ω,IZ hT⟩
theorem Jh (h:z.Ok) (h2:z.Writes≤1500000000):(mq z r).Ok:=by
  unfold mq; split
  · exact h
  · exact GL h h2
end
end Go.Wk
namespace Go.Wk
theorem z6 {s g:Int}:cN (eo s g)=0:=rfl
end Go.Wk
namespace Go.Wk
open Rp (sz own)
section
variable {α K:Type}{lt:K→K→Prop}{key:α→K}
theorem Ord.at [Inhabited α] {xs:List α}(h:Ord lt key xs):∀ {i j:Nat},i<j→j<xs.length→¬ lt (key (xs.getD j default)) (key (xs.getD i default)):=by
  induction h with
  | nil=>intro i j _ h; simp at h
  | cons h1 h2 ih=>
    intro i j hij hj
    obtain ⟨j,rfl⟩:∃ k,j=k+1:=⟨j-1,ω⟩
    rw [List.length_cons] at hj
    rcases Nat.eq_zero_or_pos i with e | e
    · subst e
      rw [List.getD_cons_succ,List.getD_cons_zero,cS ω]
      exact h1 _ (List.getElem_mem _)
    · obtain ⟨i,rfl⟩:∃ k,i=k+1:=⟨i-1,ω⟩
      rw [List.getD_cons_succ,List.getD_cons_succ]
      exact ih ω ω
end
end Go.Wk
namespace Go.Wk
open Rp (sz own)
section
variable {M:Nat→Prop}{w0 w:World}{Δ F:List Rsc}
theorem Sep.packB (h:Sep M w0 Δ F w) (j:Nat) {a:Option Addr}{n c:Nat}{bs:List UInt8}{f:List Nat}(q:Int) (hj:Δ[j]? = some (Wk.mine [.slice a n c] bs f)) (hq:I64ok q) :
    Sep M w0 (Δ.set j (Wk.mine [.int .i64 q,.slice a n c] (⟨q,bs⟩:Block) f)) F w:=by
  have ho:=h.mine j hj
  obtain rfl:=eM ho
  have hn:f.Nodup:=h.nodup1 hj
  exact h.set hj (q:=Wk.mine [.int .i64 q,.slice a bs.length c] (⟨q,bs⟩:Block) f) Ext.refl (Block.own_mk (x:=⟨q,bs⟩) hq ho) hn (fun b hb => .inl hb)
end
def fR (z:Wld) (g i:Nat):Drive:=(z.Groups.getD g []).getD i default
def lS (g i row:Nat) (b:Block) (z:Wld):Wld:=
  ⟨z.Shape,z.Groups.set g ((z.Groups.getD g []).set i ⟨(fR z g i).Wiped,(fR z g i).Blocks.set row b⟩),z.On,z.Tapes,z.Writes,z.Stop,z.Down⟩
def fb (g i row:Nat) (b:Block) (z:Wld):Wld:=ll z (lS g i row b z)
section
variable {z:Wld}{g i row:Nat}{b:Block}
theorem pa (h:z.Ok):(lS g i row b z).Ok:=h
end
end Go.Wk
namespace Go.Wk
open Go.Proofs Rp Go.Proofs.Tryz
set_option maxRecDepth 10000
theorem jV {w:World}{z:Wld}{zb i b1 b2 b3 b4 b5:Nat}{g row:Int}{fp xF:List Nat}{x:Block}{xA:Option Addr}{xC:Nat}(o:OwnW w zb 34 z fp) (nd:fp.Nodup) (h1:w.heap[b1]? = some (.cells [.int .i64 x.Stamp,.slice xA x.Bytes.length xC].toArray 64)) (d1:b1 ∉ fp) (h2:w.heap[b2]? = some (.cells [.pointer (some ⟨zb,0,none⟩)].toArray 104)) (d2:b2 ∉ fp) (h3:w.heap[b3]? = some (.cells [.int .i64 g].toArray 2)) (d3:b3 ∉ fp) (h4:w.heap[b4]? = some (.cells [.int .i64 (i:Nat)].toArray 2)) (d4:b4 ∉ fp) (h5:w.heap[b5]? = some (.cells [.int .i64 row].toArray 2)) (d5:b5 ∉ fp) (xO:own false w [.slice xA x.Bytes.length xC] x.Bytes xF) (xD:∀ b∈xF,b ∉ fp) (xK:x.Ok) (hg:0≤g∧g.toNat<z.Groups.length) (hi:i<(z.Groups.getD g.toNat []).length) (hr:0≤row∧row.toNat<((z.Groups.getD g.toNat []).getD i default).Blocks.length) (hl:x.Bytes.length≤1000000):Ret Tryz.prog 338 #[.pointer (some ⟨b1,0,none⟩),.pointer (some ⟨b2,0,none⟩),.pointer (some ⟨b3,0,none⟩),.pointer (some ⟨b4,0,none⟩),.pointer (some ⟨b5,0,none⟩)] w fun v w'=>(MutW w w' fp zb 34 (lS g.toNat i row.toNat x z)):=by
 have xLe:=oL xO;refine aF func338 Z ntmps338 Z (fun Q hQ hN=>?_);have H0:=((((((Sep.beginW o nd).boxF h1 d1).boxF h2 d2).boxF h3 d3).boxF h4 d4).boxF h5 d5).seeF xO xD
 try dsimp only[lNA,lCA,lSZ,lSS] at H0
 obtain ⟨wA1,wC1,wA2,wC2,wA3,wC3,wf1,wf2,wf3,wok1,H1⟩:=H0.openW 0 Z
 try dsimp only[lNA,lCA,lSZ,lSS] at H1
 have wok1U:=wok1;unfold Wld.Ok Shape.Ok I64ok at wok1U;have wL1:=oL (H1.mine 2 Z);have wL2:=oL (H1.mine 3 Z);have wL3:=oL (H1.mine 4 Z);obtain ⟨eb1,eo1,eT1,eF1,eG1,ea1,ek1,eg1,ee1,eH1⟩:=H1.focusL 2 Z g.toNat ω
 try dsimp only[lNA,lCA,lSZ,lSS] at eH1
 obtain ⟨eb2,eo2,eT2,eF2,eG2,ea2,ek2,eg2,ee2,eK1,eH2⟩:=Drive.focus eH1 5 Z i ω;have eK1U:=eK1;unfold Drive.Ok at eK1U
 try unfold I64ok at eK1U
 try unfold maxLen at eK1U
 try dsimp only[lNA,lCA,lSZ,lSS] at eH2
 obtain ⟨eb3,eo3,ee3⟩:=eH (eH2.mine 7 Z) row.toNat ω;refine bH (S:=eH2.S2 2 5) (oQ [1,3,5,7,9,11,15,23,25,27,29,31,2028,12,17,19,2010,20,32,35,37,38,32,35,20,37,38,32,35,12,17,19,20,37,38]) κ κ κ Z (fun _=>show eH2.S2 2 5 _ from Ext.refl.drawn _) (fun q1=>?_);have H2:=eH2.drawn q1;refine dV Z Z (fun zw hx=>ag uc Z Z (ao (eH2.s2FBox hx 1 Z Z Z) Z)) (dV Z Z (fun zw hx=>fA Z) (dV Z Z (fun zw hx=>ah aX Z eG Z Z) (dV Z Z (fun zw hx=>ag cC Z Z (ao (eH2.s2Box hx 0 Z Z Z Z Z) Z)) (dV Z Z (fun zw hx=>ag tu2 Z Z (ao (eH2.s2FBox hx 2 Z Z Z) Z)) (dV Z Z (fun zw hx=>ay cC gy Z Z ee1 g.toNat ω ω) (dV Z Z (fun zw hx=>ag tu2 Z Z (ao (eH2.s2FBox hx 3 Z Z Z) Z)) (dV Z Z (fun zw hx=>ag tu2 Z Z (ao (eH2.s2FBox hx 4 Z Z Z) Z)) (dV Z Z (fun zw hx=>ah gI Z ts2 Z Z) (dV Z Z (fun zw hx=>ag tu2 Z Z (ao (eH2.s2FBox hx 0 Z Z Z) Z)) (dV Z Z (fun zw hx=>ah gI Z aY Z Z) (dV Z Z (fun zw hx=>ag aP Z Z (ao (eH2.s2FBox hx 0 Z Z Z) Z)) (dF Z ?_ ?_))))))))))))
 ·refine aT Z aj Z Z (ag cD Z Z (bd (H2.holAt 2 Z) 0 Z)) (dV Z Z (fun zw hx=>ay cD eq Z Z ee2 i ω ω) (dV Z Z (fun zw hx=>ah dW Z jN Z Z) (dF Z ?_ ?_)))
  ·refine aT Z aj Z Z (ag dH Z Z (bd (H2.holAt 5 Z) 1 Z)) (cF Z aj Z Z (bb func109 Z bt Z) (bh (H2.sees 5 Z) ω) (fun hS _ _ r _=>eH2.s2Call hS r.1) (fun v1 w1 r1=>?_));obtain ⟨e1,r1⟩:=r1;obtain ⟨fp1,H3⟩:=H2.res e1 r1;obtain ⟨a1,k1,q2⟩:=az (H3.mine 8 Z);cases q2;refine dV Z Z (fun zw hx=>bQ iw Z Z) (dV Z Z (fun zw hx=>ay dH fG Z Z ee3 row.toNat ω ω) ?_);have H5:=H3.packB 8 x.Stamp Z xK
   try dsimp only[lNA,lCA,lSZ,lSS] at H5
   refine oO Z aj fG H5 7 8 Z Z Z row.toNat ω Z ee3 Z (fun w2 fp2 H4=>?_)
   try dsimp only[lNA,lCA,lSZ,lSS] at H4
   refine aU (hN _ _ (jX results338 ?_));obtain ⟨fp3,H6⟩:=Drive.fill H4 5 7 Z Z Z trivial
   try dsimp only[lNA,lCA,lSZ,lSS] at H6
   obtain ⟨fp4,H7⟩:=H6.fill 2 5 Z Z Z
   try dsimp only[lNA,lCA,lSZ,lSS] at H7
   obtain ⟨fp5,H8⟩:=H7.closeW 0 2 3 4 (lS g.toNat i row.toNat x z) Z Z Z Z Z Z Z Z Z Z (pa wok1)
   try dsimp only[lNA,lCA,lSZ,lSS] at H8
   exact H8.doneW
  ·refine cF Z aj Z Z (bb func109 Z bt Z) (bh (H2.sees 5 Z) ω) (fun hS _ _ r _=>eH2.s2Call hS r.1) (fun v2 w3 r2=>?_);obtain ⟨e3,r2⟩:=r2;obtain ⟨fp6,H9⟩:=H2.res e3 r2;obtain ⟨a2,k2,q3⟩:=az (H9.mine 8 Z);cases q3;refine dV Z Z (fun zw hx=>bQ iw Z Z) (aT Z aj Z Z (ag dH Z Z (bd (H9.holAt 5 Z) 1 Z)) (dV Z Z (fun zw hx=>ay dH fG Z Z ee3 row.toNat ω ω) ?_));have H11:=H9.packB 8 x.Stamp Z xK
   try dsimp only[lNA,lCA,lSZ,lSS] at H11
   refine oO Z aj fG H11 7 8 Z Z Z row.toNat ω Z ee3 Z (fun w4 fp7 H10=>?_)
   try dsimp only[lNA,lCA,lSZ,lSS] at H10
   refine aU (hN _ _ (jX results338 ?_));obtain ⟨fp8,H12⟩:=Drive.fill H10 5 7 Z Z Z trivial
   try dsimp only[lNA,lCA,lSZ,lSS] at H12
   obtain ⟨fp9,H13⟩:=H12.fill 2 5 Z Z Z
   try dsimp only[lNA,lCA,lSZ,lSS] at H13
   obtain ⟨fp10,H14⟩:=H13.closeW 0 2 3 4 (lS g.toNat i row.toNat x z) Z Z Z Z Z Z Z Z Z Z (pa wok1)
   try dsimp only[lNA,lCA,lSZ,lSS] at H14
   exact H14.doneW
 ·refine cF Z aj Z Z (bb func109 Z bt Z) (bh (H2.sees 5 Z) ω) (fun hS _ _ r _=>eH2.s2Call hS r.1) (fun v3 w5 r3=>?_);obtain ⟨e5,r3⟩:=r3;obtain ⟨fp11,H15⟩:=H2.res e5 r3;obtain ⟨a3,k3,q4⟩:=az (H15.mine 8 Z);cases q4;refine dV Z Z (fun zw hx=>bQ iw Z Z) (aT Z aj Z Z (ag cD Z Z (bd (H15.holAt 2 Z) 0 Z)) (dV Z Z (fun zw hx=>ay cD eq Z Z ee2 i ω ω) (dV Z Z (fun zw hx=>ah dW Z jN Z Z) (aT Z aj Z Z (ag dH Z Z (bd (H15.holAt 5 Z) 1 Z)) (dV Z Z (fun zw hx=>ay dH fG Z Z ee3 row.toNat ω ω) ?_)))));have H17:=H15.packB 8 x.Stamp Z xK
  try dsimp only[lNA,lCA,lSZ,lSS] at H17
  refine oO Z aj fG H17 7 8 Z Z Z row.toNat ω Z ee3 Z (fun w6 fp12 H16=>?_)
  try dsimp only[lNA,lCA,lSZ,lSS] at H16
  refine aU (hN _ _ (jX results338 ?_));obtain ⟨fp13,H18⟩:=Drive.fill H16 5 7 Z Z Z trivial
  try dsimp only[lNA,lCA,lSZ,lSS] at H18
  obtain ⟨fp14,H19⟩:=H18.fill 2 5 Z Z Z
  try dsimp only[lNA,lCA,lSZ,lSS] at H19
  obtain ⟨fp15,H20⟩:=H19.closeW 0 2 3 4 (lS g.toNat i row.toNat x z) Z Z Z Z Z Z Z Z Z Z (pa wok1)
  try dsimp only[lNA,lCA,lSZ,lSS] at H20
  exact H20.doneW
theorem kP {w:World}{z:Wld}{zb i:Nat}{fp:List Nat}{g row:Int}{x:Block}{xA1:Option Addr}{xC1:Nat}{xF1:List Nat}(o:OwnW w zb 34 z fp) (nd:fp.Nodup) (xK:x.Ok) (xO1:own false w [.slice xA1 x.Bytes.length xC1] x.Bytes xF1) (xD1:∀ b∈xF1,b ∉ fp) (hg:0≤g∧g.toNat<z.Groups.length) (hi:i<(z.Groups.getD g.toNat []).length) (hr:0≤row∧row.toNat<((z.Groups.getD g.toNat []).getD i default).Blocks.length) (hl:x.Bytes.length≤1000000) (hw:z.Writes≤2000000000):Ret Tryz.prog 230 #[.pointer (some ⟨zb,0,none⟩),.int .i64 g,.int .i64 i,.int .i64 row,x.val xA1 xC1] w fun v w'=>(v = .bool (!bD z)∧MutW w w' fp zb 34 (fb g.toNat i row.toNat x z)):=by
 have xK2:=xK;unfold Block.Ok at xK2
 try unfold I64ok at xK2
 try unfold maxLen at xK2
 have xL1:=oL xO1;refine aF func230 Z ntmps230 Z (fun Q hQ hN=>?_);have H0:=(Sep.beginW o nd).seeF (xO1) xD1
 try dsimp only[lNA,lCA,lSZ,lSS] at H0
 refine ab (bf aj Z Z H0 (fun b1 w1 e1 g1 H1=>bf aj Z Z H1 (fun b2 w2 e2 g2 H2=>bf aj Z Z H2 (fun b3 w3 e3 g3 H3=>bf aj Z Z H3 (fun b4 w4 e4 g4 H4=>bf aj Z Z H4 (fun b5 w5 e5 g5 H5=>sA Z Z (aa (ab (sLd uc (H5.box 1 Z) Z (sV Z (lG Z) (sC func329 qT Z (gE (H5.wldAt 0 Z) (H5.nodup1 (i:=0) Z) (y:=lS g.toNat i row.toNat x z) func338 Z Cy (fun w1 fp1 o1 n1 s1 e1=>jV o1 n1 (H5.boxFar 0 5 Z Z Z s1 e1).1 (H5.boxFar 0 5 Z Z Z s1 e1).2 (H5.boxFar 0 1 Z Z Z s1 e1).1 (H5.boxFar 0 1 Z Z Z s1 e1).2 (H5.boxFar 0 2 Z Z Z s1 e1).1 (H5.boxFar 0 2 Z Z Z s1 e1).2 (H5.boxFar 0 3 Z Z Z s1 e1).1 (H5.boxFar 0 3 Z Z Z s1 e1).2 (H5.boxFar 0 4 Z Z Z s1 e1).1 (H5.boxFar 0 4 Z Z Z s1 e1).2 (H5.seeFar 0 0 Z Z s1 e1).1 (H5.seeFar 0 0 Z Z s1 e1).2 xK hg hi hr hl) ξ) (fun v1 w6 r1=>?_))))))))))));obtain ⟨rfl,mm1⟩:=r1;obtain ⟨fp1,H6⟩:=H5.mutW 0 Z mm1
 try dsimp only[lNA,lCA,lSZ,lSS] at H6
 refine rA hQ results230 Z ?_;exact ⟨Z,H6.doneW⟩
end Go.Wk
