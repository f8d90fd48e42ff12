/-
  Laws on walking, and the functions walked, each once: what this claim comes to.
-/
import Derived.Test.YtikenamkplgabaaGreatZC3
set_option linter.unusedVariables false
set_option linter.unusedSimpArgs false
namespace Go.Wk
open Go.Proofs Rp Go.Proofs.Tryz
set_option maxRecDepth 10000
theorem lq {w:World}{i j:Int}(hj:0≤j∧j≤900):Ret Tryz.prog 215 #[.int .i64 i,.int .i64 j] w fun v w'=>Ext No w w'∧(v = .int .u8 (cauchy (8+j) i).toNat):=by
 refine aH func215 Z ntmps215 Z (fun Q hQ hN=>?_);have H0:=Sep.start (w:=w) (F:=[]) σ;refine ab (sA Z Z (aa (ab (sM Z Z (sV Z (aE Z Z iO) (sV Z (nA tu2 tu5 Z) (sM Z Z (sV Z (nA tu2 tu5 Z) (sV Z (nI Z Z) (sE func264 pb Z (kZ (a:=1)) H0 (fun w1 e1 H1=>rA hQ results215 Z ?_)))))))))));exact ⟨H1.ext,by rw [nY,cauchy,show (128:Int)+(8+j)=136+j by omega]⟩
theorem dH {w:World}{n:Nat}{s p:Int}(hn:n≤100∧0≤p∧p≤500):Ret Tryz.prog 157 #[.agg #[.int .i64 n,.int .i64 s],.int .i64 p] w fun v w'=>Ext No w w'∧(Res w w' [v] (ew n p 8)):=by
 refine aH func157 Z ntmps157 Z (fun Q hQ hN=>?_);have H0:=Sep.start (w:=w) (F:=[]) σ;refine ab (bm ah Z Z H0 (fun b1 w1 e1 g1 H1=>sA Z Z (aa (ab (sF jz Z ts2 (sLd tu2 (H1.box 0 Z) Z (mz ah Z aU cb ph Z ω (by unfold maxLen; omega) H1 (fun b2 w2 e2 g2 H2=>sA Z Z (aa (ac (ab (sF jz Z ts2 (sLd tu2 (H2.box 0 Z) Z (sM Z Z (aa (ay (bJ (γ:=Nat × List Nat) (fun (k,f)=>[(1,.int .i64 p),(2,.pointer (some ⟨b1,0,none⟩)),(5,.slice (some ⟨b2,0,none⟩) n n),(11,.int .i64 n),(12,.int .i64 k)]) (fun (k,f) w'=>Sep No w [box b1 (.cells #[.int .i64 n,.int .i64 s] 107),mine [.slice (some ⟨b2,0,none⟩) n n] (jL (genAt n p 8) n k) f] [] w'∧k≤n) (fun (k,f)=>n-k) (0,[b2]) ⟨Z,Z,Z,Z,Z,trivial⟩ ⟨(by rw [uk]; exact H2),ω⟩ (fun (k,f) w3 H3=>?_))))))))))))))))));obtain ⟨H3,hk⟩:=H3;refine ab (sV Z (aY Z Z) (aa (ac (aD Z (fun c1=>?_) (fun c1=>?_)))))
 ·refine ax (ac (ay (ab (sR 2 Z (aa (ay (ab (sM Z Z (sF jz Z ts2 (sLd tu2 (H3.box 0 Z) Z (sR 2 Z (aa (aD Z (fun c2=>?_) (fun c2=>?_))))))))))))))
  ·obtain ⟨eb1,eo1,ee1,ec1⟩:=cD (H3.mine 1 Z) k (by rw [il ω]; omega);refine an (sR 4 Z (sF jz Z ts2 (sLd tu2 (H3.box 0 Z) Z (sV Z (bY Z Z iO) (sE func215 uN Z (lq ω) H3 (fun w4 e3 H4=>sV Z (aB aU ts5 Z Z ee1 k ω ω) (qM ah ts5 Z H4 1 Z k (by rw [il ω]; omega) Z ee1 Z jB (fun w5 fp1 e4 H5=>aa (an (sV Z (aE Z Z iO) (sM Z Z (aa ?_))))))))))))
   refine ⟨(k+1,_),⟨Z,Z,Z,Z,Z,trivial⟩,⟨by
    have h:=H5;rw [nM ω (by rw [genAt,if_pos ω]; congr 1; omega)] at h
    exact h,ω⟩,θ⟩
  ·refine ab (sR 4 Z (aa (aD Z (fun c3=>?_) (fun c3=>?_))))
   ·obtain ⟨eb2,eo2,ee2,ec2⟩:=cD (H3.mine 1 Z) k (by rw [il ω]; omega);refine an (sR 2 Z (sV Z (aB aU ts5 Z Z ee2 k ω ω) (qM ah ts5 Z H3 1 Z k (by rw [il ω]; omega) Z ee2 Z (jB (x:=1)) (fun w6 fp2 e5 H6=>aa (an (sV Z (aE Z Z iO) (sM Z Z (aa ?_))))))))
    refine ⟨(k+1,_),⟨Z,Z,Z,Z,Z,trivial⟩,⟨by
     have h:=H6;rw [nM ω (by rw [genAt,if_neg ω,if_pos ω])] at h
     exact h,ω⟩,θ⟩
   ·refine ax (an (sV Z (aE Z Z iO) (sM Z Z (aa ?_))))
    refine ⟨(k+1,_),⟨Z,Z,Z,Z,Z,trivial⟩,⟨by
     have h:=H3;rw [tx ω (by rw [genAt,if_neg ω,if_neg ω])] at h
     exact h,ω⟩,θ⟩
 ·refine aP (ab (sR 2 Z (rN hQ results157 Z ?_)));obtain rfl:k=n:=by omega
  exact ⟨H3.ext,by
   have h:=H3.out 1 Z
   rwa [ww] at h⟩
theorem kq {w:World}{n hsC:Nat}{s p:Int}{hs:List Int}{hsA:Option Addr}(hsS:Sees w [.slice hsA hs.length hsC] hs) (hl:hs.length=n) (hn:1≤n∧n≤100) (hr:∀ i,i<n→0≤hs.getD i 0∧hs.getD i 0≤500) (hp:0≤p∧p≤500):Ret Tryz.prog 219 #[.agg #[.int .i64 n,.int .i64 s],.slice hsA hs.length hsC,.int .i64 p] w fun v w'=>Ext No w w'∧(Res w w' [v] (betw n hs p 8)):=by
 subst hl;obtain ⟨hsF,hsO⟩:=hsS;obtain ⟨hb0,ho0,had0⟩:=eB hsO 0 ω;subst had0;refine aH func219 Z ntmps219 Z (fun Q hQ hN=>?_);have H0:=Sep.start (ae hsO aA);refine ab (bm ah Z Z H0 (fun b1 w1 e1 g1 H1=>sA Z Z (aa (ab (sF jz Z ts2 (sLd tu2 (H1.box 0 Z) Z (mz ah Z cE ce (BO (α:=UInt8)) Z ω (by unfold maxLen; omega) H1 (fun b2 w2 e2 g2 H2=>sA Z Z (aa (ac (ab (sM Z Z (sF jz Z ts2 (sLd tu2 (H2.box 0 Z) Z (sV Z (CH bv ts2 Z Z hs.length Z (gT (H2.seen 0 Z))) ((sV Z (aS bv Z) (sM Z Z (aa (ay (bJ (γ:=Nat × List Nat) (fun (j,f)=>[(1,.slice (some ⟨hb0,ho0,none⟩) hs.length hsC),(2,.int .i64 p),(3,.pointer (some ⟨b1,0,none⟩)),(7,.slice (some ⟨b2,0,none⟩) hs.length hs.length),(20,.slice (some ⟨hb0,ho0,none⟩) hs.length hsC),(21,.int .i64 hs.length),(22,.int .i64 j)]) (fun (j,f) w'=>Sep No w [box b1 (.cells #[.int .i64 hs.length,.int .i64 s] 107),mine [.slice (some ⟨b2,0,none⟩) hs.length hs.length] (trF (hv hs.length hs 8) hs.length j 0) f] [seen false [.slice (some ⟨hb0,ho0,none⟩) hs.length hsC] hs hsF] w'∧j≤hs.length) (fun (j,f)=>hs.length-j) (0,_) ⟨Z,Z,Z,Z,Z,Z,Z,trivial⟩ ⟨by rw [yj]; exact H2,ω⟩ (fun (j,f) w3 H3=>?_))))))))))))))))))))));obtain ⟨H3,hj0⟩:=H3;refine ab (sV Z (aY Z Z) (aa (ac (aD Z (fun c1=>?_) (fun c1=>?_)))))
 ·refine ax (ac (ay (ac ?_)));obtain ⟨eb1,eo1,ee1,ec1⟩:=dc (H3.seen 0 Z) j ω;have eI1:=dJ (H3.seen 0 Z) j ω;refine an (sV Z (aB bv ts2 Z Z ee1 j ω ω) (sV Z (aj tu2 Z Z ec1) (sA Z Z (aa (ac ?_)))));have hj:=hr j ω;have gl:(ew hs.length (hs.getD j 0) 8).length=hs.length:=ll;refine an (sV Z (ak jz Z rG Z Z (At.whole (H3.box 0 Z))) (sM Z Z (sC func157 py Z (dH ω) (fun v1 w4 r1=>?_))));obtain ⟨e3,r1⟩:=r1;obtain ⟨fp1,H4⟩:=H3.res e3 r1;obtain ⟨a1,k1,q1⟩:=ao (H4.mine 2 Z);cases q1;refine sV Z (aS aU Z) (sM Z Z (aa (ay (bJ (γ:=Nat × List Nat) (fun (i,f2)=>[(1,.slice (some ⟨hb0,ho0,none⟩) hs.length hsC),(2,.int .i64 p),(3,.pointer (some ⟨b1,0,none⟩)),(7,.slice (some ⟨b2,0,none⟩) hs.length hs.length),(20,.slice (some ⟨hb0,ho0,none⟩) hs.length hsC),(21,.int .i64 hs.length),(22,.int .i64 j),(28,.slice a1 (ew hs.length (hs.getD j 0) 8).length k1),(29,.int .i64 (ew hs.length (hs.getD j 0) 8).length),(30,.int .i64 i)]) (fun (i,f2) w'=>Sep No w [box b1 (.cells #[.int .i64 hs.length,.int .i64 s] 107),mine [.slice (some ⟨b2,0,none⟩) hs.length hs.length] (trF (hv hs.length hs 8) hs.length j i) f2,mine [.slice a1 (ew hs.length (hs.getD j 0) 8).length k1] (ew hs.length (hs.getD j 0) 8) fp1] [seen false [.slice (some ⟨hb0,ho0,none⟩) hs.length hsC] hs hsF] w'∧i≤hs.length) (fun (i,f2)=>hs.length-i) (0,_) ⟨Z,Z,Z,Z,Z,Z,Z,Z,Z,Z,trivial⟩ ⟨H4,ω⟩ (fun (i,f2) w5 H5=>?_)))));obtain ⟨H5,hi⟩:=H5;refine ab (sV Z (aY Z Z) (aa (ac (aD Z (fun c2=>?_) (fun c2=>?_)))))
  ·refine ax (ac (ay (ac ?_)));obtain ⟨eb2,eo2,ee2,ec2⟩:=cD (H5.mine 2 Z) i ω;refine an (sM Z Z (sV Z (aB aU ts5 Z Z ee2 i ω ω) (sV Z (aj tu5 Z Z ec2) (sR 2 Z (aa ?_)))));have e6:((trF (hv hs.length hs 8) hs.length j i).getD i []).length=j:=by rw [sD ω]; simp
   obtain ⟨eb3,eo3,eB1,eS1,eF1,eG1,ef1,ea1,ek1,ee3,eN1,ec3,nbef1,eH1⟩:=H5.unhook 1 Z i (by rw [sJ]; omega)
   try dsimp only[lNA,lCA,lSZ,lSS] at eH1
   refine an (sR 4 Z (sV Z (aB cE aZ Z Z ee3 i ω ω) (sV Z (aj aU Z Z ec3) (sM Z Z (dU ah Z aU cb Z Z Z Z eH1 (fun b3 w6 e4 g3 H6=>ir ah Z aU cb Z Z Z H6 3 4 Z Z jB (by unfold maxLen; omega) ω (fun v2 w7 fp2 H7=>sV Z (aB cE aZ Z Z ee3 i ω ω) (Fi ah aZ H7 1 3 Z Z Z eN1 Z Z (fun w8 fp3 H8=>?_)))))))))
   try dsimp only[lNA,lCA,lSZ,lSS] at H8
   refine aa (an (sV Z (aE Z Z iO) (sM Z Z (aa ?_))));have hz:=(H8.dtake 3);rw [show (ew hs.length (hs.getD j 0) 8).getD i 0=(hv hs.length hs 8 j).getD i 0 from rfl,xW ω] at hz;refine ⟨(i+1,_),⟨Z,Z,Z,Z,Z,Z,Z,Z,Z,Z,trivial⟩,⟨hz,ω⟩,θ⟩
  ·refine aP (an (sV Z (aE Z Z iO) (sM Z Z (aa ?_))));have ei:i=hs.length:=by omega
   have hz:=(H5.dtake 2);rw [ei,yU] at hz;refine ⟨(j+1,_),⟨Z,Z,Z,Z,Z,Z,Z,trivial⟩,⟨hz,ω⟩,θ⟩
 ·refine aP (ac ?_);have ej:j=hs.length:=by omega
  have HB:=H3;rw [ej,show trF (hv hs.length hs 8) hs.length hs.length 0=oP hs.length hs 8 from rfl] at HB;have hRm:=tw (n:=hs.length) (h:=hs) (b:=8);have bl:=oi (n:=hs.length) (h:=hs) (b:=8);have gl2:(ew hs.length p 8).length=hs.length:=ll;refine an (sM Z Z (sV Z (ak jz Z rG Z Z (At.whole (HB.box 0 Z))) (sM Z Z (sC func157 py Z (dH ω) (fun v3 w9 r2=>?_)))));obtain ⟨e6,r2⟩:=r2;obtain ⟨fp4,H9⟩:=HB.res e6 r2;obtain ⟨a2,k2,q2⟩:=ao (H9.mine 2 Z);cases q2;refine sC func263 uA Z (mG (H9.msees 1 Z) (H9.msees 2 Z) η ξ ω) (fun v4 w10 r3=>?_);obtain ⟨e7,sa1,sk1,rfl,r3⟩:=r3;obtain ⟨fp5,H10⟩:=H9.res e7 r3;refine sR 5 Z (aa (ac (cd (S:=Ext (· ∈ fp5) _) (oQ [1,3,7,9,4,11,12,14]) κ κ κ Z (fun _=>Ext.refl.drawn _) (fun q3=>?_))));have H11:=H10.drawn q3;refine dR 2 Z (dV Z Z (fun zw hx=>ag jz Z ts2 Z Z) (dV Z Z (fun zw hx=>aj tu2 Z Z (am (hx.heapM (H11.boff 0 Z 3 Z Z) (H11.box 0 Z)) Z)) (dC func60 fE Z (dk (H11.sees 0 Z)) (fun v5 w11 r4=>?_))));obtain ⟨e8,rfl⟩:=r4;have H12:=H11.to e8;refine dV Z Z (fun zw hx=>bY Z Z iO) (aW Z ah Z Z (IB aU tu2 cb Z Z ω (gT (H12.mine 3 Z))) (aW Z ah Z Z (bt Z) (bb (rT hQ results219 Z ?_))));exact ⟨H12.ext,H12.out 3 Z⟩
theorem lm {w:World}{s:Shape}(hs:s.ok=true):Ret Tryz.prog 218 #[s.v] w fun v w'=>Ext No w w'∧(v = .agg #[.int .i64 (s.Groups.toNat:Nat),.int .i64 s.Column]):=by
 have sbd:=aL hs;refine aH func218 Z ntmps218 Z (fun Q hQ hN=>?_);have H0:=Sep.start (w:=w) (F:=[]) σ;refine ab (bm ah Z Z H0 (fun b1 w1 e1 g1 H1=>bH ah Z zeroValue107 H1 (fun b2 w2 e2 g2 H2=>aa (ab (sF be Z ts2 (sLd tu2 (H2.box 0 Z) Z (sF be Z ts2 (sLd tu2 (H2.box 0 Z) Z (sV Z (aM sX Z Z) (aG ah rG Z Z Z Z H2 1 Z Z (fun w3 e3 H3=>?_)))))))))));dsimp only[lNA,lCA,lSZ,lSS,aI] at H3;refine aa (bc (hQ _ _ (cr results218 Z (az jz Z rG Z (At.whole (H3.box 1 Z))) (⟨H3.ext,?_⟩))));rw [Int.toNat_of_nonneg ω]
 rfl
theorem mK {w:World}{s:Shape}(hs:s.ok=true):Ret Tryz.prog 36 #[s.v] w fun v w'=>Ext No w w'∧(v = .int .i64 ((s.Groups+s.Column).toNat:Nat)):=by
 have sbd:=aL hs;refine aH func36 Z ntmps36 Z (fun Q hQ hN=>?_);have H0:=Sep.start (w:=w) (F:=[]) σ;refine ab (bm ah Z Z H0 (fun b1 w1 e1 g1 H1=>sA Z Z (aa (ab (sF be Z ts2 (sLd tu2 (H1.box 0 Z) Z (sF be Z ts2 (sLd tu2 (H1.box 0 Z) Z (sV Z (aE Z Z iO) (sA Z Z (aa (rT hQ results36 Z (⟨H1.ext,?_⟩)))))))))))));rw [Int.toNat_of_nonneg ω]
theorem lj {w:World}{zb zC9 zC10 zC11:Nat}{z:Wld}{zA9 zA10 zA11:Option Addr}{g:Int}(zB:w.heap[zb]? = some (.cells [.int .i64 z.Shape.Groups,.int .i64 z.Shape.Column,.int .i64 z.Shape.Data,.int .i64 z.Shape.Spare,.int .i64 z.Shape.Rows,.int .i64 z.Shape.Cap,.int .i64 z.Shape.Batch,.int .i64 z.Shape.Queue,.int .i64 z.Shape.Stage,.slice zA9 z.Groups.length zC9,.slice zA10 z.On.length zC10,.slice zA11 z.Tapes.length zC11,.int .i64 z.Writes,.int .i64 z.Stop,.bool z.Down].toArray 31)) (zK:z.Ok) (zS9:Sees w [.slice zA9 z.Groups.length zC9] z.Groups) (zS10:Sees w [.slice zA10 z.On.length zC10] z.On) (zS11:Sees w [.slice zA11 z.Tapes.length zC11] z.Tapes) (hs:z.Shape.ok=true) (hG:aR z=true) (hg:ins g 0 (z.Shape.Groups+z.Shape.Column-1)=true):Ret Tryz.prog 149 #[.pointer (some ⟨zb,0,none⟩),.int .i64 g] w fun v w'=>Ext No w w'∧(∃ A C,v = .tuple #[.slice A (uO z g).length C,.bool (ko z g)]∧Res w w' [.slice A (uO z g).length C] (uO z g)):=by
 have zK2:=zK;unfold Wld.Ok Shape.Ok at zK2
 try unfold I64ok at zK2
 try unfold maxLen at zK2
 have zL9:=sL zS9;obtain ⟨zF9,zO9⟩:=zS9;have zL10:=sL zS10;obtain ⟨zF10,zO10⟩:=zS10;have zL11:=sL zS11;obtain ⟨zF11,zO11⟩:=zS11;have sbd:=aL hs;have hgi:=aN.1 hg;refine aH func149 Z ntmps149 Z (fun Q hQ hN=>?_);have H0:=Sep.start (cQ zB (ae zO9 (ae zO10 (ae zO11 aA))));refine ab (sR 2 Z (aa (ab (eO (α:=Int) ah Z bv bG H0 (fun b1 w1 e1 g1 H1=>sA Z Z (aa (ac (ab (sR 2 Z (sF ba Z br (sV Z (ak be Z br Z Z (At.sub (H1.fbox 0 Z) 9)) (sE func36 go Z (cx η) H1 (fun w2 e2 H2=>sM Z Z (aa (ay (jS (α:=Int) (γ:=Nat) (fun k=>(bk z g k)) 0 H2 0 Z 6 Z [(0,_),(1,_),(4,_),(5,_),(16,_)] ⟨Z,Z,Z,Z,Z,trivial⟩ (fun k=>[(17,.int .i64 k)]) (fun k=>k≤(z.Shape.Groups+z.Shape.Column).toNat∧True) (fun k=>(z.Shape.Groups+z.Shape.Column).toNat-k) ⟨Z,trivial⟩ ⟨ω,trivial⟩ (fun k vA1 fA1 w3 H3 ⟨hk,_⟩=>?_)))))))))))))))));dsimp only[lCA,lNA,lSZ,lSS] at H3 ⊢;refine ab (sV Z (aY Z Z) (aa (ac (aD Z (fun c1=>?_) (fun c1=>?_)))))
 ·refine ax (ac (ay (ab (sR 2 Z (aa (ac ?_))))));obtain ⟨a1,k1,q1⟩:=ao (H3.mine 0 Z);cases q1;have hgk:ins (k:Int) 0 (z.Shape.Groups+z.Shape.Column-1)=true:=aN.2 ω;have lvl:=px (z:=z) (g:=g) k;refine cd (S:=Ext No _) (oQ [1,3,5,7,9,11,12,15,17,19,21,25,27,29,31,33,22,35,36]) κ κ κ Z (fun _=>Ext.refl.drawn _) (fun q2=>?_);have H4:=H3.drawn q2;refine dR 4 Z (eu (t:=23) Z (fun hg1=>?_) (fun hg1=>?_))
  ·try simp only [decide_eq_true_eq,decide_eq_false_iff_not] at hg1
   refine aT Z (wg Z Z Z) Z Z (fun zw hx=>aJ Z) (aT Z (wg Z Z Z) Z Z (fun zw hx=>aJ Z) (cS Z (wg Z Z Z) Z Z (aV func80 Z wa Z) (jn (H4.fbox 0 Z) η (H4.sees 1 Z) (H4.sees 2 Z) (H4.sees 3 Z) η η η) (fun hS _ _ r _=>hS.trans r.1.no) (fun v2 w4 r2=>?_)));obtain ⟨e3,rfl⟩:=r2;have H5:=H4.to e3;refine aT Z (wg Z Z Z) Z Z (fun zw hx=>bg Z) (dV Z Z (fun zw hx=>bd Z Z) (dM Z Z Z (eu (t:=29) Z (fun hg2=>?_) (fun hg2=>?_))))
   ·try simp only [decide_eq_true_eq,decide_eq_false_iff_not] at hg2
    refine aT Z (wg Z Z Z) Z Z (fun zw hx=>aJ Z) (aT Z (wg Z Z Z) Z Z (fun zw hx=>aJ Z) (aT Z (wg Z Z Z) Z Z (fun zw hx=>fP Z) (aT Z (wg Z Z Z) Z Z (fun zw hx=>ag ba Z br Z Z) (aT Z (wg Z Z Z) Z Z (fun zw hx=>ag be Z ts2 Z Z) (aT Z (wg Z Z Z) Z Z (fun zw hx=>aj tu2 Z Z (am (hx.heap (H4.fbox 0 Z)) Z)) (cS Z (wg Z Z Z) Z Z (aV func60 Z fE Z) (dk (H5.msees 0 Z)) (fun hS _ _ r _=>hS.trans r.1.no) (fun v3 w5 r3=>?_)))))));obtain ⟨e4,rfl⟩:=r3;have H6:=H5.to e4;refine aT Z (wg Z Z Z) Z Z (fun zw hx=>aY Z Z) (aW Z ah Z Z (bd Z Z) (bb (aD Z (fun c2=>?_) (fun c2=>?_))))
    ·refine an (sR 2 Z (dU ah Z bv bG Z Z Z Z H6 (fun b2 w6 e5 g2 H7=>ir ah Z bv bG Z Z Z H7 0 1 Z Z (ld (by first | assumption | (unfold I64ok; omega))) (by unfold maxLen; omega) ω (fun v4 w7 fp1 H8=>sA Z Z (aa (an (sV Z (aE Z Z iO) (sM Z Z (aa ?_)))))))));exact ⟨(k+1,_,_),⟨Z,Z,Z,Z,Z,Z,Z,trivial⟩,⟨by dsimp only; rw [pv (z:=z) (g:=g) (k:=k) ⟨ξ,by simp_all,ω⟩]; exact (H8.dtake 1),ω,trivial⟩,θ⟩
    ·refine ax (an (sV Z (aE Z Z iO) (sM Z Z (aa ?_))));exact ⟨(k+1,_,_),⟨Z,Z,Z,Z,Z,Z,Z,trivial⟩,⟨by dsimp only; rw [ki (z:=z) (g:=g) (k:=k) (fun hh=>by obtain ⟨h1,h2,h3⟩:=hh; first | omega | (simp_all; done) | (simp_all; omega))]; exact H6,ω,trivial⟩,θ⟩
   ·try simp only [decide_eq_true_eq,decide_eq_false_iff_not] at hg2
    refine dR 8 Z (aW Z ah Z Z (bi Z Z) (bb (kt Z (ax (an (sV Z (aE Z Z iO) (sM Z Z (aa ?_))))))));exact ⟨(k+1,_,_),⟨Z,Z,Z,Z,Z,Z,Z,trivial⟩,⟨by dsimp only; rw [ki (z:=z) (g:=g) (k:=k) (fun hh=>by obtain ⟨h1,h2,h3⟩:=hh; first | omega | (simp_all; done) | (simp_all; omega))]; exact H5,ω,trivial⟩,θ⟩
  ·try simp only [decide_eq_true_eq,decide_eq_false_iff_not] at hg1
   refine dR 4 Z (dV Z Z (fun zw hx=>bi Z Z) (dR 9 Z (aW Z ah Z Z (bi Z Z) (bb (kt Z (ax (an (sV Z (aE Z Z iO) (sM Z Z (aa ?_))))))))));exact ⟨(k+1,_,_),⟨Z,Z,Z,Z,Z,Z,Z,trivial⟩,⟨by dsimp only; rw [ki (z:=z) (g:=g) (k:=k) (fun hh=>by obtain ⟨h1,h2,h3⟩:=hh; first | omega | (simp_all; done) | (simp_all; omega))]; exact H4,ω,trivial⟩,θ⟩
 ·refine aP (ac (ac ?_));obtain rfl:k=(z.Shape.Groups+z.Shape.Column).toNat:=by omega
  obtain ⟨a2,k2,q3⟩:=ao (H3.mine 0 Z);cases q3;have lvl:=px (z:=z) (g:=g) (z.Shape.Groups+z.Shape.Column).toNat;have lvc:=tF (z:=z) (g:=g) ω (z.Shape.Groups+z.Shape.Column).toNat;refine cd (S:=Ext No _) (oQ [1,5,7,9,11,13,2,14]) κ κ κ Z (fun _=>Ext.refl.drawn _) (fun q4=>?_);have H9:=H3.drawn q4;refine dR 3 Z (dV Z Z (fun zw hx=>ag ba Z br Z Z) (dV Z Z (fun zw hx=>ag be Z ts2 Z Z) (dV Z Z (fun zw hx=>aj tu2 Z Z (am (hx.heap (H9.fbox 0 Z)) Z)) (dC func60 fE Z (dk (H9.msees 0 Z)) (fun v5 w8 r4=>?_)))));obtain ⟨e6,rfl⟩:=r4;have H10:=H9.to e6;refine aW Z ah Z Z (aY Z Z) (bb (aD Z (fun c3=>?_) (fun c3=>?_)))
  ·refine ab (sR 2 Z (aa (bc (hQ _ _ (rf results149 Z Z ?_)))));obtain ⟨e1,e2⟩:=GU (z:=z) (g:=g) (by show ¬ (((bk z g (z.Shape.Groups+z.Shape.Column).toNat).length:Nat):Int)=_; omega);exact ⟨H10.ext,none,0,(by rw [e1,e2]; rfl),(by rw [e2]; exact ⟨[],.inr (.inl ⟨Z,Z,Z⟩),.nil,σ⟩)⟩
  ·refine ax (ac ?_);have hlq:(bk z g (z.Shape.Groups+z.Shape.Column).toNat).length=z.Shape.Groups.toNat:=by omega
   have hlr:∀ i,i<z.Shape.Groups.toNat→0≤(bk z g (z.Shape.Groups+z.Shape.Column).toNat).getD i 0∧(bk z g (z.Shape.Groups+z.Shape.Column).toNat).getD i 0≤500:=fun i hi=>by have:=lH (z:=z) (g:=g) (z.Shape.Groups+z.Shape.Column).toNat i ω; omega
   have bwl:=yr (n:=z.Shape.Groups.toNat) (h:=(bk z g (z.Shape.Groups+z.Shape.Column).toNat)) (x:=g) (b:=8);refine an (sR 2 Z (sF ba Z br (sV Z (ak be Z br Z Z (At.sub (H10.fbox 0 Z) 9)) (sE func36 go Z (mK η) H10 (fun w9 e7 H11=>mz ah Z aU cb ph Z ω (by unfold maxLen; omega) H11 (fun b3 w10 e8 g3 H12=>sA Z Z (aa (ac (ab (sR 2 Z (sF ba Z br (sV Z (ak be Z br Z Z (At.sub (H12.fbox 0 Z) 9)) (sE func218 Ag Z (lm η) H12 (fun w11 e9 H13=>sR 2 Z (sC func219 Bo Z (kq (n:=z.Shape.Groups.toNat) (s:=z.Shape.Column) ⟨_,aC (H13.mine 0 Z)⟩ hlq ω hlr ω) (fun v8 w12 r7=>?_))))))))))))))));obtain ⟨e10,r7⟩:=r7;obtain ⟨fp2,H14⟩:=H13.res e10 r7;obtain ⟨a3,k3,q5⟩:=ao (H14.mine 2 Z);cases q5;refine sV Z (aS aU Z) (sM Z Z (aa (ay (bJ (γ:=Nat × List Nat) (fun (k,f)=>[(6,.slice a2 (bk z g (z.Shape.Groups+z.Shape.Column).toNat).length k2),(8,.slice (some ⟨b3,0,none⟩) (z.Shape.Groups+z.Shape.Column).toNat (z.Shape.Groups+z.Shape.Column).toNat),(65,.slice a3 (betw z.Shape.Groups.toNat (bk z g (z.Shape.Groups+z.Shape.Column).toNat) g 8).length k3),(66,.int .i64 (betw z.Shape.Groups.toNat (bk z g (z.Shape.Groups+z.Shape.Column).toNat) g 8).length),(67,.int .i64 k)]) (fun (k,f) w'=>Sep No w [mine [.slice a2 (bk z g (z.Shape.Groups+z.Shape.Column).toNat).length k2] (bk z g (z.Shape.Groups+z.Shape.Column).toNat) fA1,mine [.slice (some ⟨b3,0,none⟩) (z.Shape.Groups+z.Shape.Column).toNat (z.Shape.Groups+z.Shape.Column).toNat] (putAt (bk z g (z.Shape.Groups+z.Shape.Column).toNat) (betw z.Shape.Groups.toNat (bk z g (z.Shape.Groups+z.Shape.Column).toNat) g 8) (z.Shape.Groups+z.Shape.Column).toNat k) f,mine [.slice a3 (betw z.Shape.Groups.toNat (bk z g (z.Shape.Groups+z.Shape.Column).toNat) g 8).length k3] (betw z.Shape.Groups.toNat (bk z g (z.Shape.Groups+z.Shape.Column).toNat) g 8) fp2] [box zb (.cells [.int .i64 z.Shape.Groups,.int .i64 z.Shape.Column,.int .i64 z.Shape.Data,.int .i64 z.Shape.Spare,.int .i64 z.Shape.Rows,.int .i64 z.Shape.Cap,.int .i64 z.Shape.Batch,.int .i64 z.Shape.Queue,.int .i64 z.Shape.Stage,.slice zA9 z.Groups.length zC9,.slice zA10 z.On.length zC10,.slice zA11 z.Tapes.length zC11,.int .i64 z.Writes,.int .i64 z.Stop,.bool z.Down].toArray 31),seen false [.slice zA9 z.Groups.length zC9] z.Groups zF9,seen false [.slice zA10 z.On.length zC10] z.On zF10,seen false [.slice zA11 z.Tapes.length zC11] z.Tapes zF11] w'∧k≤(betw z.Shape.Groups.toNat (bk z g (z.Shape.Groups+z.Shape.Column).toNat) g 8).length) (fun (k,f)=>(betw z.Shape.Groups.toNat (bk z g (z.Shape.Groups+z.Shape.Column).toNat) g 8).length-k) (0,_) ⟨Z,Z,Z,Z,Z,trivial⟩ ⟨by rw [B2]; exact H14,ω⟩ (fun (k,f) w13 H15=>?_)))));obtain ⟨H15,hk2⟩:=H15;refine ab (sV Z (aY Z Z) (aa (ac (aD Z (fun c4=>?_) (fun c4=>?_)))))
   ·refine ax (ac (ay (ac ?_)));obtain ⟨eb1,eo1,ee1,ec1⟩:=cD (H15.mine 2 Z) k ω;refine an (sM Z Z (sV Z (aB aU ts5 Z Z ee1 k ω ω) (sV Z (aj tu5 Z Z ec1) (sR 2 Z (aa ?_)))));have hlk:=hlr k ω;have hlg:=lH (z:=z) (g:=g) (z.Shape.Groups+z.Shape.Column).toNat k ω;obtain ⟨eb2,eo2,ee2,ec2⟩:=dc (H15.mine 0 Z) k ω;obtain ⟨eb3,eo3,ee3,ec3⟩:=cD (H15.mine 1 Z) ((bk z g (z.Shape.Groups+z.Shape.Column).toNat).getD k 0).toNat (by rw [iT]; omega);refine an (sR 3 Z (sV Z (aB bv ts2 Z Z ee2 k ω ω) (sV Z (aj tu2 Z Z ec2) (sM Z Z (sV Z (aB aU ts5 Z Z ee3 ((bk z g (z.Shape.Groups+z.Shape.Column).toNat).getD k 0).toNat ω ω) (qM ah ts5 Z H15 1 Z ((bk z g (z.Shape.Groups+z.Shape.Column).toNat).getD k 0).toNat (by rw [iT]; omega) Z ee3 Z jB (fun w14 fp3 e11 H16=>aa (an (sV Z (aE Z Z iO) (sM Z Z (aa ?_)))))))))));have hz:=H16;rw [show (putAt (bk z g (z.Shape.Groups+z.Shape.Column).toNat) (betw z.Shape.Groups.toNat (bk z g (z.Shape.Groups+z.Shape.Column).toNat) g 8) (z.Shape.Groups+z.Shape.Column).toNat k).set ((bk z g (z.Shape.Groups+z.Shape.Column).toNat).getD k 0).toNat ((betw z.Shape.Groups.toNat (bk z g (z.Shape.Groups+z.Shape.Column).toNat) g 8).getD k 0)=putAt (bk z g (z.Shape.Groups+z.Shape.Column).toNat) (betw z.Shape.Groups.toNat (bk z g (z.Shape.Groups+z.Shape.Column).toNat) g 8) (z.Shape.Groups+z.Shape.Column).toNat (k+1) from rfl] at hz;refine ⟨(k+1,_),⟨Z,Z,Z,Z,Z,trivial⟩,⟨hz,ω⟩,θ⟩
   ·refine aP (ab (sR 3 Z (aa (bc (hQ _ _ (rf results149 Z Z ?_))))));obtain rfl:k=(betw z.Shape.Groups.toNat (bk z g (z.Shape.Groups+z.Shape.Column).toNat) g 8).length:=by omega
    obtain ⟨e1,e2⟩:=Cl (z:=z) (g:=g) (by show (((bk z g (z.Shape.Groups+z.Shape.Column).toNat).length:Nat):Int)=_; omega);have hz:=H15.out 1 Z;have e3:(putAt (bk z g (z.Shape.Groups+z.Shape.Column).toNat) (betw z.Shape.Groups.toNat (bk z g (z.Shape.Groups+z.Shape.Column).toNat) g 8) (z.Shape.Groups+z.Shape.Column).toNat (betw z.Shape.Groups.toNat (bk z g (z.Shape.Groups+z.Shape.Column).toNat) g 8).length)=vZ z g:=Z;rw [e3] at hz;have e4:(vZ z g).length=(z.Shape.Groups+z.Shape.Column).toNat:=iT;exact ⟨H15.ext,_,_,(by rw [e1,e2,e4]),(by rw [e2,e4]; exact hz)⟩
end Go.Wk
namespace Go.Wk
open Go.Proofs Rp Go.Proofs.Tryz
set_option maxRecDepth 10000
theorem qu {w:World}{x:List UInt8}{xA:Option Addr}{xC rb:Nat}{rows:List (List UInt8)}{rA:Option Addr}{rC m:Nat}(xS:Sees w [.slice xA x.length xC] x) (rB:w.heap[rb]? = some (.cells [.slice rA rows.length rC].toArray 57)) (rS:Sees w [.slice rA rows.length rC] rows) (h0:0<rows.length) (hm:(rows.getD 0 []).length=m):Ret Tryz.prog 155 #[.slice xA x.length xC,.pointer (some ⟨rb,0,none⟩)] w fun v w'=>Ext No w w'∧(v = .bool (yz m x)):=by
 obtain ⟨xF,xO⟩:=xS;obtain ⟨rF,rO⟩:=rS;refine aH func155 Z ntmps155 Z (fun Q hQ hN=>?_);have H0:=Sep.start (ae xO (cQ rB (ae rO aA)));refine ab (sA Z Z (aa (ac ?_)));obtain ⟨eb1,eo1,ea1,ek1,ef1,ee1,ec1,eO1,eH1⟩:=fJ (H0.seen 2 Z) 0 ω;have eP1:=H0.look1 2 Z eO1 eH1;refine an (sM Z Z (sV Z (aS aU Z) (sLd cE (eP1.fbox 1 Z) Z (sV Z (aB cE aZ Z Z ee1 0 ω ω) (sV Z (aj aU Z Z ec1) (sV Z (aS aU Z) (sR 2 Z (rN hQ results155 Z ?_))))))));exact ⟨eP1.ext,congrArg Value.bool (by unfold yz; rw [hm])⟩
theorem pQ {w:World}{xs:List (List UInt8)}{xsA:Option Addr}{xsC:Nat}{gf:FuncId}{gL:List Value}{gF:Func}(xsS:Sees w [.slice xsA xs.length xsC] xs) {p:(List UInt8)→Bool}(gH:Tryz.prog.funcs[gf]? = some gF) (gB:gF.body.isNone=false) (gN:NG gF) (gC:∀ w1,Ext No w w1→∀ (i0:Nat),i0<xs.length→∀ (A0:Option Addr) (C0:Nat) (_:Sees w1 [.slice A0 (xs.getD i0 []).length C0] (xs.getD i0 [])),Ret Tryz.prog gf (([.slice A0 (xs.getD i0 []).length C0]:List Value)++gL).toArray w1 fun v w'=>Ext No w1 w'∧v = .bool (p (xs.getD i0 []))):Ret Tryz.prog 224 #[.slice xsA xs.length xsC,.func (.func gf) #[] gL.toArray] w fun v w'=>Ext No w w'∧(v = .int .i64 (ff p xs)):=by
 have xsL:=sL xsS;obtain ⟨xsF,xsO⟩:=xsS;refine aH func224 Z ntmps224 Z (fun Q hQ hN=>?_);have H0:=Sep.start (ae xsO aA);refine ab (sA Z Z (aa (ac (ab (sM Z Z (sV Z (aS cE Z) (sM Z Z (aa (ay (dW (γ:=Nat) H0 [(0,_),(1,_),(7,_)] ⟨Z,Z,Z,trivial⟩ (fun k=>[(8,.int .i64 k)]) (fun k=>k≤xs.length∧(∀ i,i<k→p (xs.getD i [])=false)) (fun k=>xs.length-k) 0 ⟨Z,trivial⟩ ⟨ω,fun i hi=>by omega⟩ (fun k w1 H1 ⟨hk,he⟩=>?_)))))))))));dsimp only[lCA,lNA];refine ab (sV Z (aY Z Z) (aa (ac (aD Z (fun c1=>?_) (fun c1=>?_)))))
 ·refine ax (ac (ay (ab (sR 2 Z (aa (ac ?_))))));obtain ⟨eb1,eo1,ea1,ek1,ef1,ee1,ec1,eO1,eH1⟩:=fJ (H1.seen 0 Z) k ω;have eP1:=H1.look1 0 Z eO1 eH1;refine an (sR 3 Z (sV Z (aB cE aZ Z Z ee1 k ω ω) (sV Z (aj aU Z Z ec1) (eU ah Z Z (eT (lb:=gL) Z gH gB gN Z) (gC _ eP1.ext k ω _ _ (eP1.sees 1 Z)) (fun v1 w2 r1=>?_)))));obtain ⟨e1,rfl⟩:=r1;have H2:=eP1.to e1;refine aa (cK Z (fun c2=>?_) (fun c2=>?_))
  ·refine ab (sR 2 Z (rN hQ results224 Z ?_));exact ⟨H2.ext,congrArg (Value.int .i64) (kz (d:=[]) ω η he).symm⟩
  ·refine ax (an (sV Z (aE Z Z iO) (sM Z Z (aa (⟨k+1,⟨Z,Z,Z,Z,trivial⟩,⟨(H2.ftake 1),ω,fun i hi=>?_⟩,θ⟩)))))
   by_cases e:i=k
   ·subst e
    assumption
   ·exact he i ω
 ·refine aP (ab (rA hQ results224 Z ?_));exact ⟨H1.ext,congrArg (Value.int .i64) (ku (d:=[]) (fun i hi=>he i ω)).symm⟩
theorem nz {w:World}{xs:List (List UInt8)}{xsA:Option Addr}{xsC:Nat}{gf:FuncId}{gL:List Value}{gF:Func}(xsS:Sees w [.slice xsA xs.length xsC] xs) {p:(List UInt8)→Bool}(gH:Tryz.prog.funcs[gf]? = some gF) (gB:gF.body.isNone=false) (gN:NG gF) (gC:∀ w1,Ext No w w1→∀ (i0:Nat),i0<xs.length→∀ (A0:Option Addr) (C0:Nat) (_:Sees w1 [.slice A0 (xs.getD i0 []).length C0] (xs.getD i0 [])),Ret Tryz.prog gf (([.slice A0 (xs.getD i0 []).length C0]:List Value)++gL).toArray w1 fun v w'=>Ext No w1 w'∧v = .bool (p (xs.getD i0 []))):Ret Tryz.prog 154 #[.slice xsA xs.length xsC,.func (.func gf) #[] gL.toArray] w fun v w'=>Ext No w w'∧(v = .bool (xs.any p)):=by
 have xsL:=sL xsS;obtain ⟨xsF,xsO⟩:=xsS;refine aH func154 Z ntmps154 Z (fun Q hQ hN=>?_);have H0:=Sep.start (ae xsO aA);refine ab (sA Z Z (aa (ab (sR 2 Z (sE func224 z6 Z (pQ (H0.sees 0 Z) gH gB gN (fun w1 e1=>gC w1 (H0.ext.trans e1))) H0 (fun w1 e1 H1=>sR 2 Z (rN hQ results154 Z ?_)))))));exact ⟨H1.ext,by rw [← ik]⟩
theorem sf {w:World}{rows:List (List UInt8)}{rowsA:Option Addr}{rowsC:Nat}(rowsS:Sees w [.slice rowsA rows.length rowsC] rows) {m:Nat}(h0:0<rows.length) (hx:∀ i,i<rows.length→(rows.getD i []).length=m):Ret Tryz.prog 89 #[.slice rowsA rows.length rowsC] w fun v w'=>Ext No w w'∧(v = .bool true):=by
 have rowsL:=sL rowsS;obtain ⟨rowsF,rowsO⟩:=rowsS;refine aH func89 Z ntmps89 Z (fun Q hQ hN=>?_);have H0:=Sep.start (ae rowsO aA);refine ab (bm ah Z Z H0 (fun b1 w1 e1 g1 H1=>sA Z Z (aa (ab (sLd cE (H1.box 0 Z) Z (sV Z (jh Z) (sE func154 zX Z (nz (H1.sees 0 Z) (p:=(yz m)) func155 Z Bb (fun w1 e1 i0 hi0 _ _ o0=>qu o0 ((H1.to e1).box 0 Z) ((H1.to e1).sees 0 Z) h0 (hx 0 h0))) H1 (fun w2 e2 H2=>sV Z (bg Z) (rA hQ results89 Z ?_)))))))));exact ⟨H2.ext,congrArg Value.bool (by rw [EQ hx]; rfl)⟩
theorem jR {w:World}{n s m:Nat}{xs:List (List UInt8)}{xsA:Option Addr}{xsC:Nat}(hl:xs.length=n) (hn:1≤n∧n≤100) (hs:s≤100) (hx:∀ i,i<xs.length→(xs.getD i []).length=m) (hm:m≤1048576) (xsS:Sees w [.slice xsA xs.length xsC] xs):Ret Tryz.prog 90 #[.agg #[.int .i64 n,.int .i64 s],.slice xsA xs.length xsC] w fun v w'=>Ext No w w'∧(Res w w' [v] (eD xs n m s)):=by
 have xsL:=sL xsS;obtain ⟨xsF,xsO⟩:=xsS;refine aH func90 Z ntmps90 Z (fun Q hQ hN=>?_);have H0:=Sep.start (ae xsO aA);refine ab (bm ah Z Z H0 (fun b1 w1 e1 g1 H1=>sA Z Z (aa (ab (eO (α:=(List UInt8)) ah Z cE ce H1 (fun b2 w2 e2 g2 H2=>sA Z Z (aa (ac (ab (sF jz Z ts2 (sLd tu2 (H2.box 0 Z) Z (sM Z Z (aa (ay (jS (α:=(List UInt8)) (γ:=Nat) (fun k=>eD xs n m k) 0 H2 1 Z 5 Z [(1,_),(2,_),(4,_),(9,_)] ⟨Z,Z,Z,Z,trivial⟩ (fun k=>[(10,.int .i64 k)]) (fun k=>k≤s∧True) (fun k=>s-k) ⟨Z,trivial⟩ ⟨ω,trivial⟩ (fun k vA1 fA1 w3 H3 ⟨hk,_⟩=>?_))))))))))))))));dsimp only[lCA,lNA,lSZ,lSS] at H3 ⊢;refine ab (sV Z (aY Z Z) (aa (ac (aD Z (fun c1=>?_) (fun c1=>?_)))))
 ·refine ax (ac (ay (ab (sR 2 Z (aa ?_)))));have gl:(ew n ((n:Int)+k) 8).length=n:=ll;have sl:=pE (xs:=xs) (n:=n) (m:=m) (j:=k);refine an (sR 2 Z (sV Z (ak jz Z rG Z Z (At.whole (H3.box 0 Z))) (sF jz Z ts2 (sLd tu2 (H3.box 0 Z) Z (sM Z Z (sV Z (aE Z Z iO) (sC func157 py Z (dH ω) (fun v1 w4 r1=>?_))))))));obtain ⟨e3,r1⟩:=r1;obtain ⟨fp1,H4⟩:=H3.res e3 r1;obtain ⟨a1,k1,q1⟩:=ao (H4.mine 2 Z);cases q1;refine sC func156 pF Z (jD (H4.sees 0 Z) (H4.msees 2 Z) ω ω η ω) (fun v2 w5 r2=>?_);obtain ⟨e4,r2⟩:=r2;obtain ⟨fp2,H5⟩:=H4.res e4 r2;obtain ⟨a2,k2,q2⟩:=ao (H5.mine 3 Z);cases q2;refine dU ah Z cE ce Z Z Z Z H5 (fun b3 w6 e5 g3 H6=>ma ah Z cE ce Z Z Z H6 1 4 3 Z Z Z Z (by unfold maxLen; omega) ω (fun v3 w7 fp3 H7=>sA Z Z (aa (an (sV Z (aE Z Z iO) (sM Z Z (aa ?_)))))));have hz:=(H7.dtake 2);rw [yT] at hz;exact ⟨(k+1,_,_),⟨Z,Z,Z,Z,Z,Z,trivial⟩,⟨hz,ω,trivial⟩,θ⟩
 ·refine aP (ab (sR 2 Z (rN hQ results90 Z ?_)));obtain rfl:k=s:=by omega
  exact ⟨H3.ext,H3.out 1 Z⟩
end Go.Wk
namespace Go.Wk
open Rp (sz own)
def dv (z:Wld) (g:Int) (r:Rec):List (List UInt8):=
  pD z.Shape.Data.toNat (z.Shape.Data.toNat+z.Shape.Spare.toNat) (bD r.Delta (cauchy (8+(g-z.Shape.Groups)) r.Group))
def fc (z:Wld) (r:Rec):List (List UInt8):=pD z.Shape.Data.toNat (z.Shape.Data.toNat+z.Shape.Spare.toNat) r.Data
def oN (z:Wld) (g:Int) (r:Rec):List (List UInt8):=if ins g 0 (z.Shape.Groups-1)=true then fc z r else dv z g r
def fw (z:Wld) (g i row:Nat):Block:=(bX z g i).Blocks.getD row default
def gc (z:Wld) (g:Int) (i:Nat) (r:Rec) (row:List UInt8):List UInt8:=if ins g 0 (z.Shape.Groups-1)=true then row else cP row (fw z g.toNat i r.Row.toNat).Bytes
def jQ (z:Wld) (g i:Nat) (r:Rec):Bool:=(bX z g i).Wiped || decide (r.Seq≤(fw z g i r.Row.toNat).Stamp)
def redoI (rows:List (List UInt8)) (g:Int) (r:Rec):Nat→Nat→Wld→Bool × Wld
  | 0,_,z=>(true,z)
  | n + 1,i,z=>if jQ z g.toNat i r=true then redoI rows g r n (i+1) z else
      if cj z=true then (false,jX g.toNat i r.Row.toNat ⟨r.Seq,gc z g i r (rows.getD i [])⟩ z)
      else redoI rows g r n (i+1) (jX g.toNat i r.Row.toNat ⟨r.Seq,gc z g i r (rows.getD i [])⟩ z)
def lS (z:Wld):Nat:=z.Shape.Data.toNat+z.Shape.Spare.toNat
def fL (z:Wld) (g:Int) (r:Rec):Bool × Wld:=redoI (oN z g r) g r (lS z) 0 z
section
variable {z:Wld}{g i row j n:Nat}{b:Block}{r:Rec}{rows:List (List UInt8)}
theorem uJ {α:Type}{xs:List α}{k:Nat}{d:α}(h:k<xs.length):xs.set k (xs.getD k d)=xs:=by
  rw [bh h]; exact List.set_getElem_self h
theorem oc (hg:g<z.Groups.length) (hi:i<(z.Groups.getD g []).length) (hr:row<((z.Groups.getD g []).getD i default).Blocks.length):lB g i row (fw z g i row) z=z:=by
  unfold lB fw bX
  rw [uJ hr]
  have e:(⟨((z.Groups.getD g []).getD i default).Wiped,((z.Groups.getD g []).getD i default).Blocks⟩:Drive)=(z.Groups.getD g []).getD i default:=rfl
  rw [e,uJ hi,uJ hg]
theorem vN {g:Int}(h:¬ i<n):redoI rows g r (n-i) i z=(true,z):=by rw [show n-i=0 by omega]; rfl
theorem tb {g:Int}(h:i<n) (c:jQ z g.toNat i r=true):redoI rows g r (n-i) i z=redoI rows g r (n-(i+1)) (i+1) z:=by
  rw [show n-i=(n-(i+1))+1 by omega,redoI,if_pos c]
theorem yC {g:Int}(h:i<n) (c:jQ z g.toNat i r=false) (p:cj z=false):redoI rows g r (n-i) i z=redoI rows g r (n-(i+1)) (i+1) (jX g.toNat i r.Row.toNat ⟨r.Seq,gc z g i r (rows.getD i [])⟩ z):=by
  rw [show n-i=(n-(i+1))+1 by omega,redoI,if_neg (by rw [c]; simp),if_neg (by rw [p]; simp)]
theorem tq {g:Int}(h:i<n) (c:jQ z g.toNat i r=false) (p:cj z=true):redoI rows g r (n-i) i z=(false,jX g.toNat i r.Row.toNat ⟨r.Seq,gc z g i r (rows.getD i [])⟩ z):=by
  rw [show n-i=(n-(i+1))+1 by omega,redoI,if_neg (by rw [c]; simp),if_pos p]
theorem je (hg:g<z.Groups.length) (hi:i<(z.Groups.getD g []).length) :
    (jX g i row b z).Groups.length=z.Groups.length∧((jX g i row b z).Groups.getD g []).length=(z.Groups.getD g []).length∧∀ j,j≠i→bX (jX g i row b z) g j=bX z g j:=by
  unfold jX mn
  split
  · exact ⟨rfl,rfl,fun _ _=>rfl⟩
  · have e:(kJ (lB g i row b z)).Groups=z.Groups.set g ((z.Groups.getD g []).set i ⟨(bX z g i).Wiped,(bX z g i).Blocks.set row b⟩):=rfl
    have e2:(z.Groups.set g ((z.Groups.getD g []).set i ⟨(bX z g i).Wiped,(bX z g i).Blocks.set row b⟩)).getD g []=(z.Groups.getD g []).set i ⟨(bX z g i).Wiped,(bX z g i).Blocks.set row b⟩:=by rw [cm,if_pos ⟨rfl,hg⟩]
    refine ⟨by rw [e,List.length_set],by rw [e,e2,List.length_set],fun j hj=>?_⟩
    unfold bX
    rw [e,e2,cm,if_neg (fun q=>hj q.1)]
theorem mB {g:Int}(hs:z.Shape.ok=true) (hG:aR z=true) (hg:ins g 0 (z.Shape.Groups+z.Shape.Column-1)=true) (hm:recF z.Shape r=0) (hk:r.Kind=2) :
    g.toNat<z.Groups.length∧(z.Groups.getD g.toNat []).length=lS z∧(∀ i,i<lS z→r.Row.toNat<(bX z g.toNat i).Blocks.length∧((bX z g.toNat i).Blocks.getD r.Row.toNat default).Bytes.length=4) ∧
      r.Data.length=z.Shape.Data.toNat*4∧(r.Delta.length:Int)=z.Shape.Data*4∧(1≤r.Seq∧r.Seq≤1000000000∧0≤r.Row∧0≤r.Group∧r.Group<z.Shape.Groups):=by
  have sbd:=aL hs
  have hgi:=aN.1 hg
  obtain ⟨h1,h2⟩:=dQ hG
  obtain ⟨h3,h4⟩:=h2 g.toNat ω
  have hd:lS z=z.Shape.Data.toNat+z.Shape.Spare.toNat:=rfl
  have hi:ins r.Kind 1 4=true:=by rw [hk]; rfl
  unfold recF at hm
  rw [if_pos hi] at hm
  have hq:ins r.Seq 1 1000000000=true:=by
    cases c:ins r.Seq 1 1000000000
    · rw [c] at hm; simp at hm
    · rfl
  rw [if_pos hq] at hm
  have hkf:eG z.Shape r=0:=by
    by_cases c:eG z.Shape r≠0
    · rw [if_pos c] at hm; exact absurd hm c
    · omega
  have hmv:jb z.Shape r=true:=by
    unfold eG at hkf
    rw [if_neg ω,if_pos hk] at hkf
    cases c:jb z.Shape r
    · rw [c] at hkf; simp at hkf
    · rfl
  unfold jb at hmv
  simp only [Bool.and_eq_true,decide_eq_true_eq,aN] at hmv
  have hq2:=aN.1 hq
  refine ⟨ω,ω,fun i hi=>?_,ω,hmv.2,ω⟩
  obtain ⟨h5,h6⟩:=h4 i ω
  have h7:r.Row.toNat<(bX z g.toNat i).Blocks.length:=by unfold bX; omega
  exact ⟨h7,(kH (h6 r.Row.toNat (by unfold bX at h7; exact h7))).2.2⟩
theorem pc:(jX g i row b z).Shape=z.Shape:=by unfold jX mn; split<;>rfl
theorem jp:z.Writes≤(jX g i row b z).Writes∧(jX g i row b z).Writes≤z.Writes+1:=by
  unfold jX mn; split
  · show z.Writes≤z.Writes∧z.Writes≤z.Writes+1; omega
  · show z.Writes≤z.Writes+1∧z.Writes+1≤z.Writes+1; omega
theorem xI (h:cj z=false):jX g i row b z=kJ (lB g i row b z):=by unfold jX; exact iE h
end
def ga (z:Wld) (g:Int) (r:Rec):Bool:=decide (recF z.Shape r≠0) || (decide (r.Kind≠2) || (ins g 0 (z.Shape.Groups-1) && decide (r.Group≠g)))
def d9 (z:Wld) (g:Int) (r:Rec):WldResult:=
  if dD z g 0=0 then if ga z g r=true then ⟨1,noWld⟩ else ⟨if (fL z g r).1=true then 0 else 9,(fL z g r).2⟩ else ⟨dD z g 0,noWld⟩
section
variable {z:Wld}{g:Int}{r:Rec}
theorem DD (h:z.Shape.ok=true):AY z g 0=eq z g:=by
  have sbd:=aL h
  unfold AY eq
  rw [show ins 0 0 (z.Shape.Rows-1)=true from aN.2 ω]
  simp
theorem vh (h:dD z g 0≠0):d9 z g r=⟨dD z g 0,noWld⟩:=if_neg h
theorem zk (h:dD z g 0=0) (h2:ga z g r=true):d9 z g r=⟨1,noWld⟩:=by rw [d9,if_pos h,if_pos h2]
theorem uD (h:dD z g 0=0) (h2:ga z g r=false):d9 z g r=⟨if (fL z g r).1=true then 0 else 9,(fL z g r).2⟩:=by rw [d9,if_pos h,if_neg (by rw [h2]; simp)]
theorem ur (h:ga z g r=false):recF z.Shape r=0∧r.Kind=2:=by
  unfold ga at h
  simp only [Bool.or_eq_false_iff,decide_eq_false_iff_not,Decidable.not_not] at h
  exact ⟨h.1,h.2.1⟩
theorem CL (h:upF z≠0):dD z g 0=upF z:=if_pos h
theorem eN (h:upF z=0):dD z g 0=eq z g:=by
  rw [dD,if_neg ω,DD (bx (fl h).1).1]
end
end Go.Wk
namespace Go.Wk
open Go.Proofs Rp Go.Proofs.Tryz
set_option maxRecDepth 10000
theorem mP {w:World}{zb zC9 zC10 zC11 rC6 rC7 rC8:Nat}{z:Wld}{zA9 zA10 zA11 rA6 rA7 rA8:Option Addr}{g:Int}{r:Rec}(zB:w.heap[zb]? = some (.cells [.int .i64 z.Shape.Groups,.int .i64 z.Shape.Column,.int .i64 z.Shape.Data,.int .i64 z.Shape.Spare,.int .i64 z.Shape.Rows,.int .i64 z.Shape.Cap,.int .i64 z.Shape.Batch,.int .i64 z.Shape.Queue,.int .i64 z.Shape.Stage,.slice zA9 z.Groups.length zC9,.slice zA10 z.On.length zC10,.slice zA11 z.Tapes.length zC11,.int .i64 z.Writes,.int .i64 z.Stop,.bool z.Down].toArray 31)) (zK:z.Ok) (zS9:Sees w [.slice zA9 z.Groups.length zC9] z.Groups) (zS10:Sees w [.slice zA10 z.On.length zC10] z.On) (zS11:Sees w [.slice zA11 z.Tapes.length zC11] z.Tapes) (rK:r.Ok) (rS6:Sees w [.slice rA6 r.Rows.length rC6] r.Rows) (rS7:Sees w [.slice rA7 r.Data.length rC7] r.Data) (rS8:Sees w [.slice rA8 r.Delta.length rC8] r.Delta) (hs:z.Shape.ok=true) (hg:z.Shape.Groups≤g∧g≤100) (hd:(r.Delta.length:Int)=z.Shape.Data*4):Ret Tryz.prog 145 #[.pointer (some ⟨zb,0,none⟩),.int .i64 g,r.val rA6 rC6 rA7 rC7 rA8 rC8] w fun v w'=>Ext No w w'∧(Res w w' [v] (dv z g r)):=by
 have zK2:=zK;unfold Wld.Ok Shape.Ok at zK2
 try unfold I64ok at zK2
 try unfold maxLen at zK2
 have zL9:=sL zS9;obtain ⟨zF9,zO9⟩:=zS9;have zL10:=sL zS10;obtain ⟨zF10,zO10⟩:=zS10;have zL11:=sL zS11;obtain ⟨zF11,zO11⟩:=zS11;have rK2:=rK;unfold Rec.Ok at rK2
 try unfold I64ok at rK2
 try unfold maxLen at rK2
 have rN2:r.Name.size≤maxLen:=by unfold maxLen; omega
 have rL6:=sL rS6;obtain ⟨rF6,rO6⟩:=rS6;have rL7:=sL rS7;obtain ⟨rF7,rO7⟩:=rS7;have rL8:=sL rS8;obtain ⟨rF8,rO8⟩:=rS8;have sbd:=aL hs;refine aH func145 Z ntmps145 Z (fun Q hQ hN=>?_);have H0:=Sep.start (cQ zB (ae zO9 (ae zO10 (ae zO11 (ae rO6 (ae rO7 (ae rO8 aA)))))));refine ab (bm ah Z Z H0 (fun b1 w1 e1 g1 H1=>sA Z Z (aa (ac (cd (S:=Ext No _) (oQ [1,3,5,7,11,13,15,17,19,21,23,25,27,29,31,8,32,34,36,38]) κ κ κ Z (fun _=>Ext.refl.drawn _) (fun q1=>?_))))));have H2:=H1.drawn q1;refine dR 2 Z (dV Z Z (fun zw hx=>ag ba Z br Z Z) (dV Z Z (fun zw hx=>ak be Z br Z Z (At.sub (hx.heap (H2.fbox 0 Z)) 9)) (dV Z Z (fun zw hx=>ag aF Z aZ Z Z) (dV Z Z (fun zw hx=>aj aU Z Z (am (hx.heap (H2.box 0 Z)) Z)) (dV Z Z (fun zw hx=>ag aF Z ts2 Z Z) (dV Z Z (fun zw hx=>aj tu2 Z Z (am (hx.heap (H2.box 0 Z)) Z)) (dR 3 Z (dV Z Z (fun zw hx=>ag ba Z br Z Z) (dV Z Z (fun zw hx=>ag be Z ts2 Z Z) (dV Z Z (fun zw hx=>aj tu2 Z Z (am (hx.heap (H2.fbox 0 Z)) Z)) (dV Z Z (fun zw hx=>bY Z Z iO) (dC func136 o5 Z (gu η) (fun v1 w2 r1=>?_)))))))))))));obtain ⟨e2,rfl⟩:=r1;have H3:=H2.to e2;refine dC func215 uN Z (lq ω) (fun v2 w3 r2=>?_);obtain ⟨e3,rfl⟩:=r2;have H4:=H3.to e3;refine dC func214 s5 Z (lL (H4.sees 6 Z) ω) (fun v3 w4 r3=>?_);obtain ⟨e4,r3⟩:=r3;obtain ⟨fp1,H5⟩:=H4.res e4 r3;obtain ⟨a1,k1,q2⟩:=ao (H5.mine 1 Z);cases q2;refine dC func137 un Z (gG (n:=z.Shape.Data.toNat) (s:=z.Shape.Spare.toNat) ω ω ω (by rw [cY]; omega) ⟨_,aC (H5.mine 1 Z)⟩) (fun v4 w5 r4=>?_);obtain ⟨e5,r4⟩:=r4;obtain ⟨fp2,H6⟩:=H5.res e5 r4;obtain ⟨a2,k2,q3⟩:=ao (H6.mine 2 Z);cases q3;refine aW Z ah Z Z (bt Z) (bb (rT hQ results145 Z ?_));exact ⟨H6.ext,H6.out 2 Z⟩
theorem gJ {w:World}{z:Wld}{zb rC6 rC7 rC8:Nat}{fp rF6 rF7 rF8:List Nat}{g:Int}{r:Rec}{rA6 rA7 rA8:Option Addr}(o:OwnW w zb 31 z fp) (nd:fp.Nodup) (rK:r.Ok) (rO6:own false w [.slice rA6 r.Rows.length rC6] r.Rows rF6) (rD6:∀ b∈rF6,b ∉ fp) (rO7:own false w [.slice rA7 r.Data.length rC7] r.Data rF7) (rD7:∀ b∈rF7,b ∉ fp) (rO8:own false w [.slice rA8 r.Delta.length rC8] r.Delta rF8) (rD8:∀ b∈rF8,b ∉ fp) (hs:z.Shape.ok=true) (hG:aR z=true) (hg:ins g 0 (z.Shape.Groups+z.Shape.Column-1)=true) (hm:recF z.Shape r=0) (hk:r.Kind=2) (hw:z.Writes≤1400000000):Ret Tryz.prog 83 #[.pointer (some ⟨zb,0,none⟩),.int .i64 g,r.val rA6 rC6 rA7 rC7 rA8 rC8] w fun v w'=>(v = .int .i64 (if (fL z g r).1=true then 0 else 9)∧MutW w w' fp zb 31 ((fL z g r).2)):=by
 have rK2:=rK;unfold Rec.Ok at rK2
 try unfold I64ok at rK2
 try unfold maxLen at rK2
 have rN2:r.Name.size≤maxLen:=by unfold maxLen; omega
 have rL6:=oL rO6;have rL7:=oL rO7;have rL8:=oL rO8;have sbd:=aL hs;have hdn:lS z=z.Shape.Data.toNat+z.Shape.Spare.toNat:=Z;obtain ⟨hgg,hgr,hro,hDl,hDe,hsq⟩:=mB hs hG hg hm hk;have hgi:=aN.1 hg;refine aH func83 Z ntmps83 Z (fun Q hQ hN=>?_);have H0:=(((Sep.beginW o nd).seeF (rO6) rD6).seeF (rO7) rD7).seeF (rO8) rD8
 try dsimp only[lNA,lCA,lSZ,lSS] at H0
 refine ab (bm ah Z Z H0 (fun b1 w1 e1 g1 H1=>sA Z Z (aa (ac ?_))));obtain ⟨wA1,wC1,wA2,wC2,wA3,wC3,wf1,wf2,wf3,wok1,H2⟩:=H1.openW 0 Z
 try dsimp only[lNA,lCA,lSZ,lSS] at H2
 have wok1U:=wok1;unfold Wld.Ok Shape.Ok I64ok at wok1U;have wL1:=oL (H2.mine 3 Z);have wL2:=oL (H2.mine 4 Z);have wL3:=oL (H2.mine 5 Z);refine an (sR 2 Z (sF ba Z br (sV Z (ak be Z br Z Z (At.sub (H2.box 0 Z) 9)) (sM Z Z (sE func65 nW Z (dN η) H2 (fun w2 e2 H3=>sA Z Z (aa (ab (eO (α:=(List UInt8)) ah Z cE ce H3 (fun b2 w3 e3 g2 H4=>sA Z Z (aa (ac (ab (sM Z Z (aa (cK Z (fun c1=>?_) (fun c1=>?_)))))))))))))))))
 ·refine cd (S:=Ext No _) (oQ [1,3,5,7,11,13,8,14,16]) κ κ κ Z (fun _=>Ext.refl.drawn _) (fun q1=>?_);have H5:=H4.drawn q1;refine dR 2 Z (dV Z Z (fun zw hx=>ag ba Z br Z Z) (dV Z Z (fun zw hx=>ak be Z br Z Z (At.sub (hx.heap (H5.box 0 Z)) 9)) (dV Z Z (fun zw hx=>ag aF Z aZ Z Z) (dV Z Z (fun zw hx=>aj aU Z Z (am (hx.heap (H5.box 1 Z)) Z)) (dC func136 o5 Z (gu η) (fun v2 w4 r2=>?_))))));obtain ⟨e4,rfl⟩:=r2;have H6:=H5.to e4;refine dC func137 un Z (gG (n:=z.Shape.Data.toNat) (s:=z.Shape.Spare.toNat) ω ω ω ω ⟨_,aC (H6.seen 1 Z)⟩) (fun v3 w5 r3=>?_);obtain ⟨e5,r3⟩:=r3;obtain ⟨fp1,H7⟩:=H6.res e5 r3;obtain ⟨a1,k1,q2⟩:=ao (H7.mine 7 Z);cases q2;refine aW Z ah Z Z (bt Z) (bb (ac (ab (sR 2 Z (sF ba Z br (sV Z (ak be Z br Z Z (At.sub (H7.box 0 Z) 9)) (sE func37 kc Z (cN η) H7 (fun w6 e6 H8=>sM Z Z (aa (ay ?_))))))))));have H9:=H8.share 7 Z
  try dsimp only[lNA,lCA,lSZ,lSS] at H9
  obtain ⟨fp2,H10⟩:=H9.closeW 0 3 4 5 z Z Z Z Z Z Z Z Z Z Z wok1
  try dsimp only[lNA,lCA,lSZ,lSS] at H10
  have hRl:(fc z r).length=lS z:=by unfold fc; exact tA
  have hRe:oN z g r=(fc z r):=if_pos c1;refine bJ (γ:=Nat × Wld × List Nat) (fun (i,zi,f)=>[(0,.pointer (some ⟨zb,0,none⟩)),(1,.int .i64 g),(5,.pointer (some ⟨b1,0,none⟩)),(7,.bool (ins g 0 (z.Shape.Groups-1))),(8,.slice a1 (fc z r).length k1),(37,.int .i64 (z.Shape.Data+z.Shape.Spare)),(38,.int .i64 i)]) (fun (i,zi,f) w'=>Sep (· ∈ fp) w [wldR zb 31 zi f,box b1 (.cells [.int .i64 r.Kind,.int .i64 r.Seq,.string r.Name,.int .i64 r.Length,.int .i64 r.Group,.int .i64 r.Row,.slice rA6 r.Rows.length rC6,.slice rA7 r.Data.length rC7,.slice rA8 r.Delta.length rC8].toArray 59)] [seen false [.slice rA6 r.Rows.length rC6] r.Rows rF6,seen false [.slice rA7 r.Data.length rC7] r.Data rF7,seen false [.slice rA8 r.Delta.length rC8] r.Delta rF8,seen true [.slice a1 (fc z r).length k1] (fc z r) fp1] w'∧i≤lS z∧fL z g r=redoI (fc z r) g r (lS z-i) i zi∧zi.Shape=z.Shape∧zi.Groups.length=z.Groups.length∧(zi.Groups.getD g.toNat []).length=(z.Groups.getD g.toNat []).length∧(∀ j,i≤j→bX zi g.toNat j=bX z g.toNat j)∧zi.Writes≤z.Writes+i) (fun (i,zi,f)=>lS z-i) (0,z,_) ⟨Z,Z,Z,Z,Z,Z,Z,trivial⟩ ⟨(H10.dtake 2),by (try dsimp only); omega,(by rw [← hRe]; rfl),Z,Z,Z,fun _ _=>Z,by (try dsimp only); omega⟩ (fun (i,zi,f) w7 H11=>?_);obtain ⟨H11,hi,hdl,hsh,hgl,hgn,hdv,hw2⟩:=H11;refine ab (sV Z (aY Z Z) (aa (ac (aD Z (fun c2=>?_) (fun c2=>?_)))))
  ·refine ax (ac (ay (ab (sR 2 Z (aa (ac ?_))))));have hdr:=hdv i (Nat.le_refl i);have hq1:g.toNat<zi.Groups.length:=by omega
   have hq2:i<(zi.Groups.getD g.toNat []).length:=by omega
   have hq3:r.Row.toNat<((zi.Groups.getD g.toNat []).getD i default).Blocks.length:=by
    have e:(zi.Groups.getD g.toNat []).getD i default=(z.Groups.getD g.toNat []).getD i default:=hdr;rw [e]; exact (hro i ω).1
   have hq4:(fw zi g.toNat i r.Row.toNat).Bytes.length=4:=by
    unfold fw; rw [hdr]; exact (hro i ω).2
   obtain ⟨wA4,wC4,wA5,wC5,wA6,wC6,wf4,wf5,wf6,wok2,H12⟩:=H11.openW 0 Z
   try dsimp only[lNA,lCA,lSZ,lSS] at H12
   have wok2U:=wok2;unfold Wld.Ok Shape.Ok I64ok at wok2U;have wL4:=oL (H12.mine 3 Z);have wL5:=oL (H12.mine 4 Z);have wL6:=oL (H12.mine 5 Z);obtain ⟨eb1,eo1,eT1,eF1,eG1,ea1,ek1,eg1,ee1,eH1⟩:=H12.focusL 3 Z g.toNat ω
   try dsimp only[lNA,lCA,lSZ,lSS] at eH1
   obtain ⟨eb2,eo2,eT2,eF2,eG2,ea2,ek2,eg2,ee2,eK1,eH2⟩:=Drive.focus eH1 6 Z i ω;have eK1U:=eK1;unfold Drive.Ok at eK1U
   try unfold I64ok at eK1U
   try unfold maxLen at eK1U
   try dsimp only[lNA,lCA,lSZ,lSS] at eH2
   refine an (sR 2 Z (sF ba Z lz (sLd iH (eH2.box 0 Z) Z (sM Z Z (sV Z (aB iH yy Z Z ee1 g.toNat ω ω) (sV Z (aj gI Z Z (fg (eH2.holAt 3 Z) 0 Z)) (sM Z Z (sV Z (aB gI i9 Z Z ee2 i ω ω) (sV Z (ak jZ Z i9 Z Z (eH2.holAt 6 Z)) (bH ah Z zeroValue72 eH2 (fun b3 w8 e7 g3 H13=>aG ah i9 Z Z Z Z H13 9 Z Z (fun w9 e8 H14=>?_))))))))))));dsimp only[lNA,lCA,lSZ,lSS,aI] at H14;refine aa (ac ?_);obtain ⟨eb3,eo3,eT3,eF3,eG3,ea3,ek3,eg3,ee3,eK2,eH3⟩:=Block.focus H14 8 Z r.Row.toNat ω;have eK2U:=eK2;unfold Block.Ok at eK2U
   try unfold I64ok at eK2U
   try unfold maxLen at eK2U
   try dsimp only[lNA,lCA,lSZ,lSS] at eH3
   refine an (sF jZ Z ta (sLd js (eH3.box 9 Z) Z (sF aF Z ts2 (sLd tu2 (eH3.box 1 Z) Z (sV Z (aB js gY Z Z ee3 r.Row.toNat ω ω) (sV Z (ak jM Z gY Z Z (eH3.holAt 8 Z)) (bH ah Z zeroValue116 eH3 (fun b4 w10 e9 g4 H15=>aG ah gY Z Z Z Z H15 12 Z Z (fun w11 e10 H16=>?_)))))))));dsimp only[lNA,lCA,lSZ,lSS,aI] at H16;refine aa (ac (ab (sF jZ Z ts4 (sLd tu4 (H16.box 9 Z) Z (sM Z Z (bU 5 (j:=2) (want:=false) (t:=64) Z Z Z Z (fun hg1 kk1=>au (wgE Z Z Z hg1) Z Z (ag jM Z ts2 Z Z) (au (wgE Z Z Z hg1) Z Z (aj tu2 Z Z (am (H16.box 12 Z) Z)) (au (wgE Z Z Z hg1) Z Z (ag aF Z ts2 Z Z) (au (wgE Z Z Z hg1) Z Z (aj tu2 Z Z (am (H16.box 1 Z) Z)) (au (wgE Z Z Z hg1) Z Z (qP Z Z) (kk1 _ _ (kx Z (kx Z (kx Z (kx Z (kx Z k0))))) Z Ext.refl)))))) (fun w12 e11=>?_)))))));have H17:=H16.to e11;refine sV Z (dO Z Z) (aa (cK Z (fun c3=>?_) (fun c3=>?_)))
   ·refine aP (an (sV Z (aE Z Z iO) (sM Z Z (aa ?_))));obtain ⟨fp3,H18⟩:=Block.fill H17 8 11 Z Z Z eK2
    try dsimp only[lNA,lCA,lSZ,lSS] at H18
    obtain ⟨fp4,H19⟩:=Drive.fill H18 6 8 Z Z Z eK1
    try dsimp only[lNA,lCA,lSZ,lSS] at H19
    obtain ⟨fp5,H20⟩:=H19.fill 3 6 Z Z Z
    try dsimp only[lNA,lCA,lSZ,lSS] at H20
    obtain ⟨fp6,H21⟩:=H20.closeW 0 3 4 5 (lB g.toNat i r.Row.toNat (fw zi g.toNat i r.Row.toNat) zi) Z Z Z Z Z Z Z Z Z Z (mu wok2)
    try dsimp only[lNA,lCA,lSZ,lSS] at H21
    rw [oc hq1 hq2 hq3] at H21;exact ⟨(i+1,zi,_),⟨Z,Z,Z,Z,Z,Z,Z,trivial⟩,⟨(H21.dtake 2),by (try dsimp only); omega,by (try dsimp only); rw [hdl,tb ω (by unfold jQ fw bX; simpa using c3)],hsh,hgl,hgn,fun j hj=>hdv j (by (try dsimp only at hj); omega),by (try dsimp only); omega⟩,θ⟩
   ·refine ax (ac ?_);obtain ⟨eb4,eo4,ea4,ek4,ef1,ee4,ec4,eO1,eH4⟩:=fJ (H17.seen 3 Z) i ω;have eP1:=H17.look1 3 Z eO1 eH4;refine an (sR 2 Z (sV Z (aB cE aZ Z Z ee4 i ω ω) (sV Z (aj aU Z Z ec4) (sA Z Z (aa (ac (ac ?_)))))));have hrw:((fc z r).getD i []).length=4:=by unfold fc; exact nP ω i ω
    have hq5:((((zi.Groups.getD g.toNat []).getD i default).Blocks.getD r.Row.toNat default).Bytes).length=4:=hq4;have hbl:((fc z r).getD i []).length=4:=by exact hrw
    refine an (sM Z Z (sV Z (bg Z) (aa (cK Z (fun c4=>?_) (fun c4=>?_)))))
    ·exact absurd c4 (by rw [c1]; simp)
    ·refine ax (ac ?_);obtain ⟨fp7,H22⟩:=Block.fill eP1 8 11 Z Z Z eK2
     try dsimp only[lNA,lCA,lSZ,lSS] at H22
     obtain ⟨fp8,H23⟩:=Drive.fill H22 6 8 Z Z Z eK1
     try dsimp only[lNA,lCA,lSZ,lSS] at H23
     obtain ⟨fp9,H24⟩:=H23.fill 3 6 Z Z Z
     try dsimp only[lNA,lCA,lSZ,lSS] at H24
     obtain ⟨fp10,H25⟩:=H24.closeW 0 3 4 5 (lB g.toNat i r.Row.toNat (fw zi g.toNat i r.Row.toNat) zi) Z Z Z Z Z Z Z Z Z Z (mu wok2)
     try dsimp only[lNA,lCA,lSZ,lSS] at H25
     rw [oc hq1 hq2 hq3] at H25;have hxk:(⟨r.Seq,((fc z r).getD i [])⟩:Block).Ok:=by show I64ok r.Seq; unfold I64ok; omega
     have hxl:(⟨r.Seq,((fc z r).getD i [])⟩:Block).Bytes.length≤1000000:=by show ((fc z r).getD i []).length≤1000000; omega
     refine an (sR 3 Z (sF aF Z ts2 (sLd tu2 (H25.box 1 Z) Z (sF aF Z ts2 (sLd tu2 (H25.box 1 Z) Z (sM Z Z (sV Z (aM iW Z Z) (sC func134 t4 Z (fR (H25.wldAt 0 Z) (H25.nodup1 (i:=0) Z) η (aC (H25.seen 4 Z)) (fun b hb=>H25.off 4 Z 0 Z hb) ξ ξ ξ ξ ξ (x:=(⟨r.Seq,((fc z r).getD i [])⟩:Block))) (fun v5 w13 r5=>?_)))))))));obtain ⟨rfl,mm1⟩:=r5;obtain ⟨fp11,H26⟩:=H25.mutW 0 Z mm1
     try dsimp only[lNA,lCA,lSZ,lSS] at H26
     refine sV Z (bg Z) (aa (cK Z (fun c5=>?_) (fun c5=>?_)))
     ·refine ab (rA hQ results83 Z ?_);have hnb:gc zi g i r ((fc z r).getD i [])=((fc z r).getD i []):=by
       rw [gc,hsh,if_pos c1]
      have hsk:jQ zi g.toNat i r=false:=by unfold jQ fw bX; simpa using c3
      obtain ⟨hf1,hf2,hf3⟩:=je (b:=⟨r.Seq,gc zi g i r ((fc z r).getD i [])⟩) (row:=r.Row.toNat) hq1 hq2;have hf4:=(jp (g:=g.toNat) (i:=i) (row:=r.Row.toNat) (b:=⟨r.Seq,gc zi g i r ((fc z r).getD i [])⟩) (z:=zi)).2;have hnp:cj zi=true:=by simpa using c5
      have hz:=H26.doneW;rw [← hnb] at hz;rw [hdl,tq ω hsk hnp];exact ⟨Z,hz⟩
     ·refine ax (an (sV Z (aE Z Z iO) (sM Z Z (aa ?_))));have hnb:gc zi g i r ((fc z r).getD i [])=((fc z r).getD i []):=by
       rw [gc,hsh,if_pos c1]
      have hsk:jQ zi g.toNat i r=false:=by unfold jQ fw bX; simpa using c3
      obtain ⟨hf1,hf2,hf3⟩:=je (b:=⟨r.Seq,gc zi g i r ((fc z r).getD i [])⟩) (row:=r.Row.toNat) hq1 hq2;have hf4:=(jp (g:=g.toNat) (i:=i) (row:=r.Row.toNat) (b:=⟨r.Seq,gc zi g i r ((fc z r).getD i [])⟩) (z:=zi)).2;have hnp:cj zi=false:=by simpa using c5
      have hz:=((H26.ftake 4).dtake 2);rw [← hnb] at hz;exact ⟨(i+1,jX g.toNat i r.Row.toNat ⟨r.Seq,gc zi g i r ((fc z r).getD i [])⟩ zi,_),⟨Z,Z,Z,Z,Z,Z,Z,trivial⟩,⟨hz,by (try dsimp only); omega,by (try dsimp only); rw [hdl,yC ω hsk hnp],by (try dsimp only); rw [pc]; exact hsh,by (try dsimp only); omega,by (try dsimp only); omega,fun j hj=>(hf3 j (by (try dsimp only at hj); omega)).trans (hdv j (by (try dsimp only at hj); omega)),by (try dsimp only); omega⟩,θ⟩
  ·refine aP (ab (rA hQ results83 Z ?_));have hz:=H11.doneW;rw [hdl,vN ω];exact ⟨Z,hz⟩
 ·have hgc:z.Shape.Groups≤g:=by
   have hx:¬ (0≤g∧g≤z.Shape.Groups-1):=fun q=>by have:=aN.2 q; rw [c1] at this; cases this
   omega
  refine an (sR 2 Z (sV Z (ak aF Z aO Z Z (At.whole (H4.box 1 Z))) (sC func145 Ax Z (mP (H4.box 0 Z) η (H4.msees 3 Z) (H4.msees 4 Z) (H4.msees 5 Z) η (H4.sees 0 Z) (H4.sees 1 Z) (H4.sees 2 Z) ξ ξ ξ) (fun v6 w14 r6=>?_))));obtain ⟨e13,r6⟩:=r6;obtain ⟨fp12,H27⟩:=H4.res e13 r6;obtain ⟨a2,k2,q3⟩:=ao (H27.mine 7 Z);cases q3;refine sA Z Z (aa (ac (ab (sR 2 Z (sF ba Z br (sV Z (ak be Z br Z Z (At.sub (H27.box 0 Z) 9)) (sE func37 kc Z (cN η) H27 (fun w15 e14 H28=>sM Z Z (aa (ay ?_))))))))));have H29:=H28.share 7 Z
  try dsimp only[lNA,lCA,lSZ,lSS] at H29
  obtain ⟨fp13,H30⟩:=H29.closeW 0 3 4 5 z Z Z Z Z Z Z Z Z Z Z wok1
  try dsimp only[lNA,lCA,lSZ,lSS] at H30
  have hRl:(dv z g r).length=lS z:=by unfold dv; exact tA
  have hRe:oN z g r=(dv z g r):=if_neg (by rw [c1]; simp);refine bJ (γ:=Nat × Wld × List Nat) (fun (i,zi,f)=>[(0,.pointer (some ⟨zb,0,none⟩)),(1,.int .i64 g),(5,.pointer (some ⟨b1,0,none⟩)),(7,.bool (ins g 0 (z.Shape.Groups-1))),(8,.slice a2 (dv z g r).length k2),(37,.int .i64 (z.Shape.Data+z.Shape.Spare)),(38,.int .i64 i)]) (fun (i,zi,f) w'=>Sep (· ∈ fp) w [wldR zb 31 zi f,box b1 (.cells [.int .i64 r.Kind,.int .i64 r.Seq,.string r.Name,.int .i64 r.Length,.int .i64 r.Group,.int .i64 r.Row,.slice rA6 r.Rows.length rC6,.slice rA7 r.Data.length rC7,.slice rA8 r.Delta.length rC8].toArray 59)] [seen false [.slice rA6 r.Rows.length rC6] r.Rows rF6,seen false [.slice rA7 r.Data.length rC7] r.Data rF7,seen false [.slice rA8 r.Delta.length rC8] r.Delta rF8,seen true [.slice a2 (dv z g r).length k2] (dv z g r) fp12] w'∧i≤lS z∧fL z g r=redoI (dv z g r) g r (lS z-i) i zi∧zi.Shape=z.Shape∧zi.Groups.length=z.Groups.length∧(zi.Groups.getD g.toNat []).length=(z.Groups.getD g.toNat []).length∧(∀ j,i≤j→bX zi g.toNat j=bX z g.toNat j)∧zi.Writes≤z.Writes+i) (fun (i,zi,f)=>lS z-i) (0,z,_) ⟨Z,Z,Z,Z,Z,Z,Z,trivial⟩ ⟨(H30.dtake 2),by (try dsimp only); omega,(by rw [← hRe]; rfl),Z,Z,Z,fun _ _=>Z,by (try dsimp only); omega⟩ (fun (i,zi,f) w16 H31=>?_);obtain ⟨H31,hi,hdl,hsh,hgl,hgn,hdv,hw2⟩:=H31;refine ab (sV Z (aY Z Z) (aa (ac (aD Z (fun c6=>?_) (fun c6=>?_)))))
  ·refine ax (ac (ay (ab (sR 2 Z (aa (ac ?_))))));have hdr:=hdv i (Nat.le_refl i);have hq1:g.toNat<zi.Groups.length:=by omega
   have hq2:i<(zi.Groups.getD g.toNat []).length:=by omega
   have hq3:r.Row.toNat<((zi.Groups.getD g.toNat []).getD i default).Blocks.length:=by
    have e:(zi.Groups.getD g.toNat []).getD i default=(z.Groups.getD g.toNat []).getD i default:=hdr;rw [e]; exact (hro i ω).1
   have hq4:(fw zi g.toNat i r.Row.toNat).Bytes.length=4:=by
    unfold fw; rw [hdr]; exact (hro i ω).2
   obtain ⟨wA7,wC7,wA8,wC8,wA9,wC9,wf7,wf8,wf9,wok3,H32⟩:=H31.openW 0 Z
   try dsimp only[lNA,lCA,lSZ,lSS] at H32
   have wok3U:=wok3;unfold Wld.Ok Shape.Ok I64ok at wok3U;have wL7:=oL (H32.mine 3 Z);have wL8:=oL (H32.mine 4 Z);have wL9:=oL (H32.mine 5 Z);obtain ⟨eb5,eo5,eT4,eF4,eG4,ea5,ek5,eg4,ee5,eH5⟩:=H32.focusL 3 Z g.toNat ω
   try dsimp only[lNA,lCA,lSZ,lSS] at eH5
   obtain ⟨eb6,eo6,eT5,eF5,eG5,ea6,ek6,eg5,ee6,eK3,eH6⟩:=Drive.focus eH5 6 Z i ω;have eK3U:=eK3;unfold Drive.Ok at eK3U
   try unfold I64ok at eK3U
   try unfold maxLen at eK3U
   try dsimp only[lNA,lCA,lSZ,lSS] at eH6
   refine an (sR 2 Z (sF ba Z lz (sLd iH (eH6.box 0 Z) Z (sM Z Z (sV Z (aB iH yy Z Z ee5 g.toNat ω ω) (sV Z (aj gI Z Z (fg (eH6.holAt 3 Z) 0 Z)) (sM Z Z (sV Z (aB gI i9 Z Z ee6 i ω ω) (sV Z (ak jZ Z i9 Z Z (eH6.holAt 6 Z)) (bH ah Z zeroValue72 eH6 (fun b5 w17 e15 g5 H33=>aG ah i9 Z Z Z Z H33 9 Z Z (fun w18 e16 H34=>?_))))))))))));dsimp only[lNA,lCA,lSZ,lSS,aI] at H34;refine aa (ac ?_);obtain ⟨eb7,eo7,eT6,eF6,eG6,ea7,ek7,eg6,ee7,eK4,eH7⟩:=Block.focus H34 8 Z r.Row.toNat ω;have eK4U:=eK4;unfold Block.Ok at eK4U
   try unfold I64ok at eK4U
   try unfold maxLen at eK4U
   try dsimp only[lNA,lCA,lSZ,lSS] at eH7
   refine an (sF jZ Z ta (sLd js (eH7.box 9 Z) Z (sF aF Z ts2 (sLd tu2 (eH7.box 1 Z) Z (sV Z (aB js gY Z Z ee7 r.Row.toNat ω ω) (sV Z (ak jM Z gY Z Z (eH7.holAt 8 Z)) (bH ah Z zeroValue116 eH7 (fun b6 w19 e17 g6 H35=>aG ah gY Z Z Z Z H35 12 Z Z (fun w20 e18 H36=>?_)))))))));dsimp only[lNA,lCA,lSZ,lSS,aI] at H36;refine aa (ac (ab (sF jZ Z ts4 (sLd tu4 (H36.box 9 Z) Z (sM Z Z (bU 5 (j:=2) (want:=false) (t:=64) Z Z Z Z (fun hg2 kk2=>au (wgE Z Z Z hg2) Z Z (ag jM Z ts2 Z Z) (au (wgE Z Z Z hg2) Z Z (aj tu2 Z Z (am (H36.box 12 Z) Z)) (au (wgE Z Z Z hg2) Z Z (ag aF Z ts2 Z Z) (au (wgE Z Z Z hg2) Z Z (aj tu2 Z Z (am (H36.box 1 Z) Z)) (au (wgE Z Z Z hg2) Z Z (qP Z Z) (kk2 _ _ (kx Z (kx Z (kx Z (kx Z (kx Z k0))))) Z Ext.refl)))))) (fun w21 e19=>?_)))))));have H37:=H36.to e19;refine sV Z (dO Z Z) (aa (cK Z (fun c7=>?_) (fun c7=>?_)))
   ·refine aP (an (sV Z (aE Z Z iO) (sM Z Z (aa ?_))));obtain ⟨fp14,H38⟩:=Block.fill H37 8 11 Z Z Z eK4
    try dsimp only[lNA,lCA,lSZ,lSS] at H38
    obtain ⟨fp15,H39⟩:=Drive.fill H38 6 8 Z Z Z eK3
    try dsimp only[lNA,lCA,lSZ,lSS] at H39
    obtain ⟨fp16,H40⟩:=H39.fill 3 6 Z Z Z
    try dsimp only[lNA,lCA,lSZ,lSS] at H40
    obtain ⟨fp17,H41⟩:=H40.closeW 0 3 4 5 (lB g.toNat i r.Row.toNat (fw zi g.toNat i r.Row.toNat) zi) Z Z Z Z Z Z Z Z Z Z (mu wok3)
    try dsimp only[lNA,lCA,lSZ,lSS] at H41
    rw [oc hq1 hq2 hq3] at H41;exact ⟨(i+1,zi,_),⟨Z,Z,Z,Z,Z,Z,Z,trivial⟩,⟨(H41.dtake 2),by (try dsimp only); omega,by (try dsimp only); rw [hdl,tb ω (by unfold jQ fw bX; simpa using c7)],hsh,hgl,hgn,fun j hj=>hdv j (by (try dsimp only at hj); omega),by (try dsimp only); omega⟩,θ⟩
   ·refine ax (ac ?_);obtain ⟨eb8,eo8,ea8,ek8,ef2,ee8,ec8,eO2,eH8⟩:=fJ (H37.seen 3 Z) i ω;have eP2:=H37.look1 3 Z eO2 eH8;refine an (sR 2 Z (sV Z (aB cE aZ Z Z ee8 i ω ω) (sV Z (aj aU Z Z ec8) (sA Z Z (aa (ac (ac ?_)))))));have hrw:((dv z g r).getD i []).length=4:=by unfold dv; exact nP (by rw [cY]; omega) i ω
    have hq5:((((zi.Groups.getD g.toNat []).getD i default).Blocks.getD r.Row.toNat default).Bytes).length=4:=hq4;have hbl:(cP ((dv z g r).getD i []) (bD ((((zi.Groups.getD g.toNat []).getD i default).Blocks.getD r.Row.toNat default).Bytes) 1)).length=4:=by rw [eM (by rw [cY]; omega)]; exact hrw
    refine an (sM Z Z (sV Z (bg Z) (aa (cK Z (fun c8=>?_) (fun c8=>?_)))))
    ·refine an (sM Z Z (sF jM Z aZ (sLd aU (eP2.box 12 Z) Z (sC func146 pL Z (kU (eP2.sees 4 Z) (eP2.msees 11 Z) ξ (c:=1)) (fun v8 w22 r8=>?_)))));obtain ⟨e20,r8⟩:=r8;obtain ⟨fp18,H42⟩:=eP2.res e20 r8;obtain ⟨a3,k3,q4⟩:=ao (H42.mine 13 Z);cases q4;refine sA Z Z (aa (ac ?_));obtain ⟨fp19,H43⟩:=Block.fill H42 8 11 Z Z Z eK4
     try dsimp only[lNA,lCA,lSZ,lSS] at H43
     obtain ⟨fp20,H44⟩:=Drive.fill H43 6 8 Z Z Z eK3
     try dsimp only[lNA,lCA,lSZ,lSS] at H44
     obtain ⟨fp21,H45⟩:=H44.fill 3 6 Z Z Z
     try dsimp only[lNA,lCA,lSZ,lSS] at H45
     obtain ⟨fp22,H46⟩:=H45.closeW 0 3 4 5 (lB g.toNat i r.Row.toNat (fw zi g.toNat i r.Row.toNat) zi) Z Z Z Z Z Z Z Z Z Z (mu wok3)
     try dsimp only[lNA,lCA,lSZ,lSS] at H46
     rw [oc hq1 hq2 hq3] at H46;have hxk:(⟨r.Seq,(cP ((dv z g r).getD i []) (bD ((((zi.Groups.getD g.toNat []).getD i default).Blocks.getD r.Row.toNat default).Bytes) 1))⟩:Block).Ok:=by show I64ok r.Seq; unfold I64ok; omega
     have hxl:(⟨r.Seq,(cP ((dv z g r).getD i []) (bD ((((zi.Groups.getD g.toNat []).getD i default).Blocks.getD r.Row.toNat default).Bytes) 1))⟩:Block).Bytes.length≤1000000:=by show (cP ((dv z g r).getD i []) (bD ((((zi.Groups.getD g.toNat []).getD i default).Blocks.getD r.Row.toNat default).Bytes) 1)).length≤1000000; omega
     refine an (sR 3 Z (sF aF Z ts2 (sLd tu2 (H46.box 1 Z) Z (sF aF Z ts2 (sLd tu2 (H46.box 1 Z) Z (sM Z Z (sV Z (aM iW Z Z) (sC func134 t4 Z (fR (H46.wldAt 0 Z) (H46.nodup1 (i:=0) Z) η (aC (H46.mine 13 Z)) (fun b hb=>H46.apart (i:=0) (j:=13) Z Z Z b hb) ξ ξ ξ ξ ξ (x:=(⟨r.Seq,(cP ((dv z g r).getD i []) (bD ((((zi.Groups.getD g.toNat []).getD i default).Blocks.getD r.Row.toNat default).Bytes) 1))⟩:Block))) (fun v9 w23 r9=>?_)))))))));obtain ⟨rfl,mm2⟩:=r9;obtain ⟨fp23,H47⟩:=H46.mutW 0 Z mm2
     try dsimp only[lNA,lCA,lSZ,lSS] at H47
     refine sV Z (bg Z) (aa (cK Z (fun c9=>?_) (fun c9=>?_)))
     ·refine ab (rA hQ results83 Z ?_);have hnb:gc zi g i r ((dv z g r).getD i [])=(cP ((dv z g r).getD i []) (bD ((((zi.Groups.getD g.toNat []).getD i default).Blocks.getD r.Row.toNat default).Bytes) 1)):=by
       rw [gc,hsh,if_neg (by rw [c1]; simp),oT]
       rfl
      have hsk:jQ zi g.toNat i r=false:=by unfold jQ fw bX; simpa using c7
      obtain ⟨hf1,hf2,hf3⟩:=je (b:=⟨r.Seq,gc zi g i r ((dv z g r).getD i [])⟩) (row:=r.Row.toNat) hq1 hq2;have hf4:=(jp (g:=g.toNat) (i:=i) (row:=r.Row.toNat) (b:=⟨r.Seq,gc zi g i r ((dv z g r).getD i [])⟩) (z:=zi)).2;have hnp:cj zi=true:=by simpa using c9
      have hz:=H47.doneW;rw [← hnb] at hz;rw [hdl,tq ω hsk hnp];exact ⟨Z,hz⟩
     ·refine ax (an (sV Z (aE Z Z iO) (sM Z Z (aa ?_))));have hnb:gc zi g i r ((dv z g r).getD i [])=(cP ((dv z g r).getD i []) (bD ((((zi.Groups.getD g.toNat []).getD i default).Blocks.getD r.Row.toNat default).Bytes) 1)):=by
       rw [gc,hsh,if_neg (by rw [c1]; simp),oT]
       rfl
      have hsk:jQ zi g.toNat i r=false:=by unfold jQ fw bX; simpa using c7
      obtain ⟨hf1,hf2,hf3⟩:=je (b:=⟨r.Seq,gc zi g i r ((dv z g r).getD i [])⟩) (row:=r.Row.toNat) hq1 hq2;have hf4:=(jp (g:=g.toNat) (i:=i) (row:=r.Row.toNat) (b:=⟨r.Seq,gc zi g i r ((dv z g r).getD i [])⟩) (z:=zi)).2;have hnp:cj zi=false:=by simpa using c9
      have hz:=((H47.ftake 4).dtake 2);rw [← hnb] at hz;exact ⟨(i+1,jX g.toNat i r.Row.toNat ⟨r.Seq,gc zi g i r ((dv z g r).getD i [])⟩ zi,_),⟨Z,Z,Z,Z,Z,Z,Z,trivial⟩,⟨hz,by (try dsimp only); omega,by (try dsimp only); rw [hdl,yC ω hsk hnp],by (try dsimp only); rw [pc]; exact hsh,by (try dsimp only); omega,by (try dsimp only); omega,fun j hj=>(hf3 j (by (try dsimp only at hj); omega)).trans (hdv j (by (try dsimp only at hj); omega)),by (try dsimp only); omega⟩,θ⟩
    ·exact absurd c8 (by rw [c1]; simp)
  ·refine aP (ab (rA hQ results83 Z ?_));have hz:=H31.doneW;rw [hdl,vN ω];exact ⟨Z,hz⟩
end Go.Wk
namespace Go.Wk
open Go.Proofs Rp Go.Proofs.Tryz
set_option maxRecDepth 10000
theorem pa {w:World}{z:Wld}{zA9 zA10 zA11 rA6 rA7 rA8:Option Addr}{zC9 zC10 zC11 rC6 rC7 rC8:Nat}{g:Int}{r:Rec}(zK:z.Ok) (zS9:Sees w [.slice zA9 z.Groups.length zC9] z.Groups) (zS10:Sees w [.slice zA10 z.On.length zC10] z.On) (zS11:Sees w [.slice zA11 z.Tapes.length zC11] z.Tapes) (rK:r.Ok) (rS6:Sees w [.slice rA6 r.Rows.length rC6] r.Rows) (rS7:Sees w [.slice rA7 r.Data.length rC7] r.Data) (rS8:Sees w [.slice rA8 r.Delta.length rC8] r.Delta) (hb:ez z≤1048576):Ret Tryz.prog 27 #[z.val zA9 zC9 zA10 zC10 zA11 zC11,.int .i64 g,r.val rA6 rC6 rA7 rC7 rA8 rC8] w fun v w'=>Ext No w w'∧(∃ A10 C10 A11 C11 A12 C12,v=(d9 z g r).val A10 C10 A11 C11 A12 C12∧Res w w' [.int .i64 (d9 z g r).Code,.int .i64 (d9 z g r).Wd.Shape.Groups,.int .i64 (d9 z g r).Wd.Shape.Column,.int .i64 (d9 z g r).Wd.Shape.Data,.int .i64 (d9 z g r).Wd.Shape.Spare,.int .i64 (d9 z g r).Wd.Shape.Rows,.int .i64 (d9 z g r).Wd.Shape.Cap,.int .i64 (d9 z g r).Wd.Shape.Batch,.int .i64 (d9 z g r).Wd.Shape.Queue,.int .i64 (d9 z g r).Wd.Shape.Stage,.slice A10 (d9 z g r).Wd.Groups.length C10,.slice A11 (d9 z g r).Wd.On.length C11,.slice A12 (d9 z g r).Wd.Tapes.length C12,.int .i64 (d9 z g r).Wd.Writes,.int .i64 (d9 z g r).Wd.Stop,.bool (d9 z g r).Wd.Down] (d9 z g r)):=by
 have zK2:=zK;unfold Wld.Ok Shape.Ok at zK2
 try unfold I64ok at zK2
 try unfold maxLen at zK2
 have zL9:=sL zS9;obtain ⟨zF9,zO9⟩:=zS9;have zL10:=sL zS10;obtain ⟨zF10,zO10⟩:=zS10;have zL11:=sL zS11;obtain ⟨zF11,zO11⟩:=zS11;have rK2:=rK;unfold Rec.Ok at rK2
 try unfold I64ok at rK2
 try unfold maxLen at rK2
 have rN2:r.Name.size≤maxLen:=by unfold maxLen; omega
 have rL6:=sL rS6;obtain ⟨rF6,rO6⟩:=rS6;have rL7:=sL rS7;obtain ⟨rF7,rO7⟩:=rS7;have rL8:=sL rS8;obtain ⟨rF8,rO8⟩:=rS8;refine aH func27 Z ntmps27 Z (fun Q hQ hN=>?_);have H0:=Sep.start (ae zO9 (ae zO10 (ae zO11 (ae rO6 (ae rO7 (ae rO8 aA))))));refine ab (bm ah Z Z H0 (fun b1 w1 e1 g1 H1=>bm ah Z Z H1 (fun b2 w2 e2 g2 H2=>bH ah Z zeroValue33 H2 (fun b3 w3 e3 g3 H3=>aa (ab (sV Z (ak ba Z bZ Z Z (At.whole (H3.box 0 Z))) (sE func57 iS Z (df η (H3.sees 0 Z) (H3.sees 1 Z) (H3.sees 2 Z)) H3 (fun w4 e4 H4=>sA Z Z (aa (ac (ab (sR 2 Z (aa (aD Z (fun c1=>?_) (fun c1=>?_)))))))))))))))
 ·have hs:=(bx (fl (w:=z) ω).1).1;refine an (sM Z Z (sE func66 nS Z (dg (H4.box 0 Z) η (H4.sees 0 Z) (H4.sees 1 Z) (H4.sees 2 Z) η) H4 (fun w5 e5 H5=>sA Z Z (aa (ac (ay (ab (sR 3 Z (aa (aD Z (fun c2=>?_) (fun c2=>?_)))))))))))
  ·refine ab (sM Z Z (sV Z (aM bE Z Z) (aG ah cq Z Z Z Z H5 2 Z Z (fun w6 e6 H6=>?_))));dsimp only[lNA,lCA,lSZ,lSS,aI] at H6;refine aa (bc (hQ _ _ (cr results27 Z (az dz Z cq Z (At.whole (H6.box 2 Z))) ?_)));rw [vh (by rw [eN ω]; omega),eN ω];exact ⟨H6.ext,none,0,none,0,none,0,Z,cZ (by unfold I64ok; have h9:=eN (z:=z) (g:=g) ω; have:=qy (z:=z) (g:=g) (row:=0); (try dsimp only); omega)⟩
  ·refine ac ?_;have hwr:dD z g 0=0:=by rw [eN ω]; omega
   obtain ⟨hs0,hG,hg,_,hon⟩:=ke hwr;refine an (sF ba Z br (sV Z (ak be Z br Z Z (At.sub (H5.box 0 Z) 9)) (sV Z (ak aF Z aO Z Z (At.whole (H5.box 1 Z))) (sE func82 qK Z (gO η (H5.sees 3 Z) (H5.sees 4 Z) (H5.sees 5 Z) η) H5 (fun w7 e7 H7=>sR 2 Z (bU 3 (j:=5) (want:=false) (t:=29) Z Z Z Z (fun hg1 kk1=>au (wgE Z Z Z hg1) Z Z (ag aF Z ts2 Z Z) (au (wgE Z Z Z hg1) Z Z (aj tu2 Z Z (am (H7.box 1 Z) Z)) (au (wgE Z Z Z hg1) Z Z (es Z Z) (kk1 _ _ (kx Z (kx Z (kx Z k0))) Z Ext.refl)))) (fun w8 e8=>?_)))))));have H8:=H7.to e8;refine sV Z (dO Z Z) (sM Z Z (bU 10 (j:=10) (want:=false) (t:=41) Z Z Z Z (fun hg2 kk2=>au (wgE Z Z Z hg2) Z Z (ag ba Z br Z Z) (au (wgE Z Z Z hg2) Z Z (ak be Z br Z Z (At.sub (H8.box 0 Z) 9)) (au (wgE Z Z Z hg2) Z Z (aJ Z) (cw (wgE Z Z Z hg2) Z Z (aV func65 Z nW Z) (dN η) (fun w10 e10=>au (wgE Z Z Z hg2) Z Z (aJ Z) (bU 4 (j:=15) (want:=true) (t:=40) Z Z Z Z (fun hg3 kk3=>au (wgE Z Z Z hg3) Z Z (ag aF Z ts2 Z Z) (au (wgE Z Z Z hg3) Z Z (aj tu2 Z Z (am ((H8.to e10).box 1 Z) Z)) (au (wgE Z Z Z hg3) Z Z (aJ Z) (au (wgE Z Z Z hg3) Z Z (es Z Z) (kk3 _ _ (kx Z (kx Z (kx Z (kx Z k0)))) Z Ext.refl))))) (fun w11 e11=>au (wgE Z Z Z hg2) Z Z (bR Z Z) (kk2 _ _ (kx Z (kx Z (kx Z (kx Z (kx Z (kx Z (kx Z k0))))))) Z ((Ext.refl.trans e10).trans e11))))))))) (fun w9 e9=>?_)));have H10:=H8.to e9;refine sV Z (dO Z Z) (sA Z Z (aa (cK Z (fun c3=>?_) (fun c3=>?_))))
   ·refine ab (sV Z (aM bE Z Z) (aG ah cq Z Z Z Z H10 2 Z Z (fun w12 e12 H11=>?_)));dsimp only[lNA,lCA,lSZ,lSS,aI] at H11;refine aa (bc (hQ _ _ (cr results27 Z (az dz Z cq Z (At.whole (H11.box 2 Z))) ?_)));rw [zk hwr (by unfold ga; simpa [Bool.or_assoc] using c3)];exact ⟨H11.ext,none,0,none,0,none,0,Z,cZ (by unfold I64ok; (try dsimp only); omega)⟩
   ·refine ax (ac ?_);have hbad:ga z g r=false:=by unfold ga; simpa [Bool.or_assoc] using c3
    obtain ⟨hm,hk⟩:=ur hbad;have hu:=vO hwr;obtain ⟨hwf,hdn⟩:=fl hu;obtain ⟨hw0,hw1,_,_⟩:=fz hwf;refine an (sV Z (ak ba Z bZ Z Z (At.whole (H10.box 0 Z))) (sC func48 dP Z (bu η (H10.sees 0 Z) (H10.sees 1 Z) (H10.sees 2 Z) ξ) (fun v4 w13 r4=>?_)));obtain ⟨e13,sa1,sk1,sa2,sk2,sa3,sk3,rfl,r4⟩:=r4;obtain ⟨fp1,H12⟩:=H10.res e13 r4;obtain ⟨sf1,sf2,sf3,sq1,sok1,so1,so2,so3⟩:=eQ (H12.mine 3 Z);have H13:=H12.part 3 Z [mine [.slice _ z.Groups.length _] z.Groups sf1,mine [.slice _ z.On.length _] z.On sf2,mine [.slice _ z.Tapes.length _] z.Tapes sf3] (all_cons so1 (all_cons so2 (all_cons so3 σ))) (by simp [blocks,mine,sq1])
    try dsimp only[lNA,lCA,lSZ,lSS] at H13
    refine bH ah Z zeroValue31 H13 (fun b4 w14 e14 g4 H14=>aG ah bZ Z Z Z Z H14 7 Z Z (fun w15 e15 H15=>?_));dsimp only[lNA,lCA,lSZ,lSS,aI] at H15;refine aa (ab (sM Z Z (sV Z (ak aF Z aO Z Z (At.whole (H15.box 1 Z))) ?_)));obtain ⟨fp2,H16⟩:=H15.closeW 7 4 5 6 z Z Z Z Z Z Z Z Z Z Z zK
    try dsimp only[lNA,lCA,lSZ,lSS] at H16
    refine sC func83 vD Z (gJ (H16.wldAt 7 Z) (H16.nodup1 (i:=7) Z) η (aC (H16.seen 3 Z)) (fun b hb=>H16.off 3 Z 7 Z hb) (aC (H16.seen 4 Z)) (fun b hb=>H16.off 4 Z 7 Z hb) (aC (H16.seen 5 Z)) (fun b hb=>H16.off 5 Z 7 Z hb) ξ ξ ξ ξ ξ ξ) (fun v5 w16 r5=>?_);obtain ⟨rfl,mm1⟩:=r5;obtain ⟨fp3,H17⟩:=H16.mutW 7 Z mm1
    try dsimp only[lNA,lCA,lSZ,lSS] at H17
    refine sA Z Z (aa (ac ?_));obtain ⟨wA1,wC1,wA2,wC2,wA3,wC3,wf1,wf2,wf3,wok1,H18⟩:=H17.openW 7 Z
    try dsimp only[lNA,lCA,lSZ,lSS] at H18
    have wok1U:=wok1;unfold Wld.Ok Shape.Ok I64ok at wok1U;have wL1:=oL (H18.mine 9 Z);have wL2:=oL (H18.mine 10 Z);have wL3:=oL (H18.mine 11 Z);refine an (sV Z (ak ba Z bZ Z Z (At.whole (H18.box 7 Z))) (sM Z Z (sE func50 hP Z (du η (H18.msees 9 Z) (H18.msees 10 Z) (H18.msees 11 Z) (by first | assumption | (split<;>simp))) H18 (fun w17 e17 H19=>aG ah cq Z Z Z Z H19 2 Z Z (fun w18 e18 H20=>?_)))));dsimp only[lNA,lCA,lSZ,lSS,aI] at H20;refine aa (bc (hQ _ _ (cr results27 Z (az dz Z cq Z (At.whole (H20.box 2 Z))) ?_)));rw [uD hwr hbad];exact ⟨H20.ext,_,_,_,_,_,_,Z,WldResult.out (x:=⟨if (fL z g r).1=true then 0 else 9,(fL z g r).2⟩) (H20.sub (.cons _ (.cons _ (.cons _ (.cons _ (.cons _ (.cons _ (.cons _ (.cons _ (.cons _ (.cons_cons _ (.cons_cons _ (.cons_cons _ List.Sublist.slnil))))))))))))) ⟨(by show I64ok (if (fL z g r).1=true then 0 else 9); unfold I64ok; split<;>omega),η⟩⟩
 ·refine ax (ac (ay (ab (sR 3 Z (aa (aD Z (fun c4=>?_) (fun c4=>?_)))))))
  ·refine ab (sM Z Z (sV Z (aM bE Z Z) (aG ah cq Z Z Z Z H4 2 Z Z (fun w19 e19 H21=>?_))));dsimp only[lNA,lCA,lSZ,lSS,aI] at H21;refine aa (bc (hQ _ _ (cr results27 Z (az dz Z cq Z (At.whole (H21.box 2 Z))) ?_)));rw [vh (by rw [CL ω]; omega),CL ω];exact ⟨H21.ext,none,0,none,0,none,0,Z,cZ (by unfold I64ok; have:=m0 (z:=z); (try dsimp only); omega)⟩
  ·refine ac ?_;have hwr:dD z g 0=0:=by rw [eN ω]; omega
   obtain ⟨hs0,hG,hg,_,hon⟩:=ke hwr;refine an (sF ba Z br (sV Z (ak be Z br Z Z (At.sub (H4.box 0 Z) 9)) (sV Z (ak aF Z aO Z Z (At.whole (H4.box 1 Z))) (sE func82 qK Z (gO η (H4.sees 3 Z) (H4.sees 4 Z) (H4.sees 5 Z) η) H4 (fun w20 e20 H22=>sR 2 Z (bU 3 (j:=5) (want:=false) (t:=29) Z Z Z Z (fun hg4 kk4=>au (wgE Z Z Z hg4) Z Z (ag aF Z ts2 Z Z) (au (wgE Z Z Z hg4) Z Z (aj tu2 Z Z (am (H22.box 1 Z) Z)) (au (wgE Z Z Z hg4) Z Z (es Z Z) (kk4 _ _ (kx Z (kx Z (kx Z k0))) Z Ext.refl)))) (fun w21 e21=>?_)))))));have H23:=H22.to e21;refine sV Z (dO Z Z) (sM Z Z (bU 10 (j:=10) (want:=false) (t:=41) Z Z Z Z (fun hg5 kk5=>au (wgE Z Z Z hg5) Z Z (ag ba Z br Z Z) (au (wgE Z Z Z hg5) Z Z (ak be Z br Z Z (At.sub (H23.box 0 Z) 9)) (au (wgE Z Z Z hg5) Z Z (aJ Z) (cw (wgE Z Z Z hg5) Z Z (aV func65 Z nW Z) (dN η) (fun w23 e23=>au (wgE Z Z Z hg5) Z Z (aJ Z) (bU 4 (j:=15) (want:=true) (t:=40) Z Z Z Z (fun hg6 kk6=>au (wgE Z Z Z hg6) Z Z (ag aF Z ts2 Z Z) (au (wgE Z Z Z hg6) Z Z (aj tu2 Z Z (am ((H23.to e23).box 1 Z) Z)) (au (wgE Z Z Z hg6) Z Z (aJ Z) (au (wgE Z Z Z hg6) Z Z (es Z Z) (kk6 _ _ (kx Z (kx Z (kx Z (kx Z k0)))) Z Ext.refl))))) (fun w24 e24=>au (wgE Z Z Z hg5) Z Z (bR Z Z) (kk5 _ _ (kx Z (kx Z (kx Z (kx Z (kx Z (kx Z (kx Z k0))))))) Z ((Ext.refl.trans e23).trans e24))))))))) (fun w22 e22=>?_)));have H25:=H23.to e22;refine sV Z (dO Z Z) (sA Z Z (aa (cK Z (fun c5=>?_) (fun c5=>?_))))
   ·refine ab (sV Z (aM bE Z Z) (aG ah cq Z Z Z Z H25 2 Z Z (fun w25 e25 H26=>?_)));dsimp only[lNA,lCA,lSZ,lSS,aI] at H26;refine aa (bc (hQ _ _ (cr results27 Z (az dz Z cq Z (At.whole (H26.box 2 Z))) ?_)));rw [zk hwr (by unfold ga; simpa [Bool.or_assoc] using c5)];exact ⟨H26.ext,none,0,none,0,none,0,Z,cZ (by unfold I64ok; (try dsimp only); omega)⟩
   ·refine ax (ac ?_);have hbad:ga z g r=false:=by unfold ga; simpa [Bool.or_assoc] using c5
    obtain ⟨hm,hk⟩:=ur hbad;have hu:=vO hwr;obtain ⟨hwf,hdn⟩:=fl hu;obtain ⟨hw0,hw1,_,_⟩:=fz hwf;refine an (sV Z (ak ba Z bZ Z Z (At.whole (H25.box 0 Z))) (sC func48 dP Z (bu η (H25.sees 0 Z) (H25.sees 1 Z) (H25.sees 2 Z) ξ) (fun v8 w26 r8=>?_)));obtain ⟨e26,sa4,sk4,sa5,sk5,sa6,sk6,rfl,r8⟩:=r8;obtain ⟨fp4,H27⟩:=H25.res e26 r8;obtain ⟨sf4,sf5,sf6,sq2,sok2,so4,so5,so6⟩:=eQ (H27.mine 3 Z);have H28:=H27.part 3 Z [mine [.slice _ z.Groups.length _] z.Groups sf4,mine [.slice _ z.On.length _] z.On sf5,mine [.slice _ z.Tapes.length _] z.Tapes sf6] (all_cons so4 (all_cons so5 (all_cons so6 σ))) (by simp [blocks,mine,sq2])
    try dsimp only[lNA,lCA,lSZ,lSS] at H28
    refine bH ah Z zeroValue31 H28 (fun b5 w27 e27 g5 H29=>aG ah bZ Z Z Z Z H29 7 Z Z (fun w28 e28 H30=>?_));dsimp only[lNA,lCA,lSZ,lSS,aI] at H30;refine aa (ab (sM Z Z (sV Z (ak aF Z aO Z Z (At.whole (H30.box 1 Z))) ?_)));obtain ⟨fp5,H31⟩:=H30.closeW 7 4 5 6 z Z Z Z Z Z Z Z Z Z Z zK
    try dsimp only[lNA,lCA,lSZ,lSS] at H31
    refine sC func83 vD Z (gJ (H31.wldAt 7 Z) (H31.nodup1 (i:=7) Z) η (aC (H31.seen 3 Z)) (fun b hb=>H31.off 3 Z 7 Z hb) (aC (H31.seen 4 Z)) (fun b hb=>H31.off 4 Z 7 Z hb) (aC (H31.seen 5 Z)) (fun b hb=>H31.off 5 Z 7 Z hb) ξ ξ ξ ξ ξ ξ) (fun v9 w29 r9=>?_);obtain ⟨rfl,mm2⟩:=r9;obtain ⟨fp6,H32⟩:=H31.mutW 7 Z mm2
    try dsimp only[lNA,lCA,lSZ,lSS] at H32
    refine sA Z Z (aa (ac ?_));obtain ⟨wA4,wC4,wA5,wC5,wA6,wC6,wf4,wf5,wf6,wok2,H33⟩:=H32.openW 7 Z
    try dsimp only[lNA,lCA,lSZ,lSS] at H33
    have wok2U:=wok2;unfold Wld.Ok Shape.Ok I64ok at wok2U;have wL4:=oL (H33.mine 9 Z);have wL5:=oL (H33.mine 10 Z);have wL6:=oL (H33.mine 11 Z);refine an (sV Z (ak ba Z bZ Z Z (At.whole (H33.box 7 Z))) (sM Z Z (sE func50 hP Z (du η (H33.msees 9 Z) (H33.msees 10 Z) (H33.msees 11 Z) (by first | assumption | (split<;>simp))) H33 (fun w30 e30 H34=>aG ah cq Z Z Z Z H34 2 Z Z (fun w31 e31 H35=>?_)))));dsimp only[lNA,lCA,lSZ,lSS,aI] at H35;refine aa (bc (hQ _ _ (cr results27 Z (az dz Z cq Z (At.whole (H35.box 2 Z))) ?_)));rw [uD hwr hbad];exact ⟨H35.ext,_,_,_,_,_,_,Z,WldResult.out (x:=⟨if (fL z g r).1=true then 0 else 9,(fL z g r).2⟩) (H35.sub (.cons _ (.cons _ (.cons _ (.cons _ (.cons _ (.cons _ (.cons _ (.cons _ (.cons _ (.cons_cons _ (.cons_cons _ (.cons_cons _ List.Sublist.slnil))))))))))))) ⟨(by show I64ok (if (fL z g r).1=true then 0 else 9); unfold I64ok; split<;>omega),η⟩⟩
end Go.Wk
namespace Go.Wk
open Rp (sz own)
section
variable {β:Type}[Rp β] {w:World}
def rowsT (vs:List View) (xss:List (List β)) (g:List Nat):Rsc:=⟨g,fun w=>bV true w (vs.map View.val) xss g,fun h k=>h.st k,fun h=>h.lt⟩
theorem x7:∀ {xss:List (List β)}{cs fp},bV true w cs xss fp→∃ vs:List View,vs.length=xss.length∧bV true w cs vs []∧bV true w (vs.map View.val) xss fp
  | [],_,_,h=>⟨[],rfl,rfl,h⟩
  | x::xss,cs,fp,⟨f1,f2,e,h1,h2⟩=>by
    obtain ⟨ad,cap,h3⟩:=ao h1
    obtain ⟨vs,e2,h4,h5⟩:=x7 h2
    rw [h3] at h1
    exact ⟨⟨ad,x.length,cap⟩::vs,by simp [e2],⟨[],[],rfl,⟨h3,rfl⟩,h4⟩,⟨f1,f2,e,h1,h5⟩⟩
theorem Je {ad n cap} {xss:List (List β)}{fp} (h:own true w [.slice ad n cap] xss fp):∃ (vs:List View) (f0 f1:List Nat),vs.length=xss.length∧fp=f0++f1∧own true w [.slice ad n cap] vs f0∧bV true w (vs.map View.val) xss f1:=by
  rcases h with ⟨hf,_⟩ | ⟨e,rfl,rfl⟩ | ⟨b,o,cap',cur,T,fr,fs,h1,h2,h3,h4,h5,h6,h7,h8⟩
  · cases hf
  · exact ⟨[],[],[],rfl,rfl,.inr (.inl ⟨e,rfl,rfl⟩),rfl⟩
  · obtain ⟨vs,el,h9,h10⟩:=x7 h8
    exact ⟨vs,[b],fs,el,by rw [h2]; rfl,.inr (.inr ⟨b,o,cap',cur,T,fr,[],by rw [el]; exact h1,rfl,h3,h4,by rw [el]; exact h5,h6,h7,h9⟩),h10⟩
end
section
variable {β:Type}[Rp β] {M:Nat→Prop}{w0 w:World}{Δ F:List Rsc}
theorem Sep.toRows (h:Sep M w0 Δ F w) (i:Nat) {ad n cap} {xss:List (List β)}{fp} (hi:Δ[i]? = some (Wk.mine [.slice ad n cap] xss fp)) :
    ∃ (vs:List View) (f0 f1:List Nat),vs.length=xss.length∧Sep M w0 (Δ.set i (Wk.mine [.slice ad n cap] vs f0)++[gone,rowsT vs xss f1]) F w:=by
  obtain ⟨vs,f0,f1,e1,ef,h1,h2⟩:=Je (h.mine i hi)
  have hil:i<Δ.length:=(List.getElem?_eq_some_iff.1 hi).1
  have p2:(rowsT vs xss f1).φ w:=h2
  have H2:=h.part i hi [Wk.mine [.slice ad n cap] vs f0,rowsT vs xss f1] (all_cons h1 (all_cons p2 σ)) (by simp [blocks,Wk.mine,rowsT,ef])
  exact ⟨vs,f0,f1,e1,H2.perm (lP hil)⟩
end
end Go.Wk
namespace Go.Wk
section
variable {z:Wld}{g i row:Nat}{b:Block}{s:Shape}
theorem su {α:Type}{xs:List α}{p:α→Bool}{d:α}(h:∀ k,k<xs.length→p (xs.getD k d)=true):((List.range xs.length).all fun k=>p (xs.getD k d))=true:=by
  rw [List.all_eq_true]
  intro k hk
  exact h k (by simpa using hk)
theorem zl {x:Drive}(h:dp s x=true) (hb:eJ b=true):dp s ⟨x.Wiped,x.Blocks.set row b⟩=true:=by
  simp only [dp,Bool.and_eq_true,decide_eq_true_eq] at h
  have h2:=jU h.2
  unfold dp
  dsimp only
  rw [decide_eq_true (by rw [List.length_set]; exact h.1),Bool.true_and]
  refine su (p:=eJ) fun k hk=>?_
  rw [List.length_set] at hk
  rw [cm]
  split
  · exact hb
  · exact h2 k hk
theorem rU {xs:List Drive}{x:Drive}(h:dK s xs=true) (hx:dp s x=true):dK s (xs.set i x)=true:=by
  simp only [dK,Bool.and_eq_true,decide_eq_true_eq] at h
  have h2:=jU h.2
  unfold dK
  rw [decide_eq_true (by rw [List.length_set]; exact h.1),Bool.true_and]
  refine su (p:=dp s) fun k hk=>?_
  rw [List.length_set] at hk
  rw [cm]
  split
  · exact hx
  · exact h2 k hk
theorem yP (h:aR z=true) (hb:eJ b=true) (hg:g<z.Groups.length) (hi:i<(z.Groups.getD g []).length):aR (lB g i row b z)=true:=by
  have h0:=h
  simp only [aR,Bool.and_eq_true,decide_eq_true_eq] at h
  have h2:=jU h.2
  have h3:=h2 g hg
  have h4:dp z.Shape (bX z g i)=true:=by
    have h5:=h3
    simp only [dK,Bool.and_eq_true,decide_eq_true_eq] at h5
    exact jU h5.2 i hi
  have h6:=rU (i:=i) h3 (zl (row:=row) h4 hb)
  unfold aR lB
  dsimp only
  rw [decide_eq_true (by rw [List.length_set]; exact h.1),Bool.true_and]
  refine su (p:=dK z.Shape) fun k hk=>?_
  rw [List.length_set] at hk
  rw [cm]
  split
  · exact h6
  · exact h2 k hk
theorem xU (h:aR z=true) (hb:eJ b=true) (hg:g<z.Groups.length) (hi:i<(z.Groups.getD g []).length):aR (jX g i row b z)=true:=by
  unfold jX mn; split
  · exact h
  · exact yP h hb hg hi
end
end Go.Wk
namespace Go.Wk
section
variable {z:Wld}{g:Int}{r:Rec}{rows:List (List UInt8)}
theorem Dn {i:Nat}{row:List UInt8}(h:row.length=4) (hb:(fw z g.toNat i r.Row.toNat).Bytes.length=4):(gc z g i r row).length=4:=by
  unfold gc; split
  · exact h
  · rw [eM ω]; exact h
theorem sT {gn i row:Nat}{b:Block}:(jX gn i row b z).Tapes=z.Tapes:=by unfold jX mn; split<;>rfl
theorem nD (hq:1≤r.Seq∧r.Seq≤1000000000) (hr0:0≤r.Row∧r.Row<z.Shape.Rows):∀ {n i:Nat}{z':Wld},z'.Shape=z.Shape→(∀ k,k<i+n→(rows.getD k []).length=4)→aR z'=true→g.toNat<z'.Groups.length→i+n≤(z'.Groups.getD g.toNat []).length →
    (redoI rows g r n i z').2.Shape=z.Shape∧aR (redoI rows g r n i z').2=true∧(redoI rows g r n i z').2.Tapes=z'.Tapes∧(redoI rows g r n i z').2.Writes≤z'.Writes+n
  | 0,_,z',hs,_,hG,_,_=>⟨hs,hG,rfl,by show z'.Writes≤z'.Writes+((0:Nat):Int); omega⟩
  | n+1,i,z',hs,hR,hG,hg,hi=>by
    obtain ⟨h1,h2⟩:=dQ hG
    obtain ⟨h3,h4⟩:=h2 g.toNat hg
    obtain ⟨h5,h6⟩:=h4 i ω
    have hrow:r.Row.toNat<((z'.Groups.getD g.toNat []).getD i default).Blocks.length:=by rw [hs] at h5; omega
    have h7:=kH (h6 r.Row.toNat hrow)
    have hb:eJ ⟨r.Seq,gc z' g i r (rows.getD i [])⟩=true:=by
      unfold eJ
      dsimp only
      rw [aN.2 ω,decide_eq_true (Dn (hR i ω) h7.2.2)]; rfl
    have hG2:=xU (g:=g.toNat) (i:=i) (row:=r.Row.toNat) hG hb hg ω
    obtain ⟨f1,f2,_⟩:=je (b:=⟨r.Seq,gc z' g i r (rows.getD i [])⟩) (row:=r.Row.toNat) hg (show i<(z'.Groups.getD g.toNat []).length by omega)
    have f4:=(jp (g:=g.toNat) (i:=i) (row:=r.Row.toNat) (b:=⟨r.Seq,gc z' g i r (rows.getD i [])⟩) (z:=z')).2
    have f5:(jX g.toNat i r.Row.toNat ⟨r.Seq,gc z' g i r (rows.getD i [])⟩ z').Shape=z.Shape:=by rw [pc]; exact hs
    rw [redoI]
    split
    · obtain ⟨a,b,c,d⟩:=nD hq hr0 (n:=n) (i:=i+1) hs (fun k hk=>hR k ω) hG hg ω
      exact ⟨a,b,c,ω⟩
    · split
      · exact ⟨f5,hG2,sT,θ⟩
      · obtain ⟨a,b,c,d⟩:=nD hq hr0 (n:=n) (i:=i+1) f5 (fun k hk=>hR k ω) hG2 ω ω
        exact ⟨a,b,by rw [c,sT],ω⟩
end
section
variable {z:Wld}{g:Int}{r:Rec}
theorem zA (hs:z.Shape.ok=true) (hG:aR z=true) (hg:ins g 0 (z.Shape.Groups+z.Shape.Column-1)=true) (hm:recF z.Shape r=0) (hk:r.Kind=2):∀ k,k<lS z→((oN z g r).getD k []).length=4:=fun k hk2=>by
  have sbd:=aL hs
  have hd:lS z=z.Shape.Data.toNat+z.Shape.Spare.toNat:=rfl
  obtain ⟨_,_,_,h4,h5,_⟩:=mB hs hG hg hm hk
  unfold oN; split
  · unfold fc; exact nP h4 k ω
  · unfold dv; exact nP (by rw [cY]; omega) k ω
theorem xG (hs:z.Shape.ok=true) (hG:aR z=true) (hg:ins g 0 (z.Shape.Groups+z.Shape.Column-1)=true) (hm:recF z.Shape r=0) (hk:r.Kind=2) :
    (fL z g r).2.Shape=z.Shape∧aR (fL z g r).2=true∧(fL z g r).2.Tapes=z.Tapes∧(fL z g r).2.Writes≤z.Writes+5:=by
  have sbd:=aL hs
  have hd:lS z=z.Shape.Data.toNat+z.Shape.Spare.toNat:=rfl
  obtain ⟨h1,h2,h3,h4,h5,h6⟩:=mB hs hG hg hm hk
  have hrow:r.Row<z.Shape.Rows:=by
    have h7:=(h3 0 ω).1
    obtain ⟨_,h8⟩:=dQ hG
    obtain ⟨h9,h10⟩:=h8 g.toNat h1
    have h11:=(h10 0 ω).1
    unfold bX at h7; omega
  obtain ⟨a,b,c,d⟩:=nD (z:=z) (rows:=oN z g r) (g:=g) ⟨h6.1,h6.2.1⟩ ⟨h6.2.2.1,hrow⟩ (n:=lS z) (i:=0) (z':=z) rfl (fun k hk2=>zA hs hG hg hm hk k ω) hG h1 ω
  unfold fL
  exact ⟨a,b,c,ω⟩
end
section
variable {z:Wld}{g:Int}{r:Rec}{rs:List Rec}{i:Nat}
theorem uT {a b:Wld}(h1:a.Shape=b.Shape) (h2:a.Groups=b.Groups) (h:aR b=true):aR a=true:=by unfold aR at *; rw [h1,h2]; exact h
end
end Go.Wk
namespace Go.Wk
open Rp (sz own)
def AllR (P:Rec→Prop) (z:Wld):Prop:=∀ t∈z.Tapes,∀ r∈t.Recs,P r
section
variable {z:Wld}{r:Rec}{P:Rec→Prop}{t:Nat}
theorem AllR.cnt (h:AllR P z) (hr:r∈fB z):P r:=by
  obtain ⟨k,j,hk,hj,e⟩:=C4 hr
  refine h (z.Tapes.getD k default) (by rw [bh hk]; exact List.getElem_mem _) r ?_
  rw [← e,bh hj]; exact List.getElem_mem _
theorem AllR.imp {Q:Rec→Prop}(h:AllR P z) (k:∀ r,P r→Q r):AllR Q z:=fun t ht r hr=>k r (h t ht r hr)
theorem AllR.layT (h:AllR P z) (hr:P r):AllR P (layT t r z):=fun u hu q hq=>by
  rcases List.mem_or_eq_of_mem_set hu with h1 | h1
  · exact h u h1 q hq
  · subst h1
    rcases List.mem_append.1 hq with h2 | h2
    · by_cases c:t<z.Tapes.length
      · exact h (z.Tapes.getD t default) (by rw [bh c]; exact List.getElem_mem _) q h2
      · rw [show z.Tapes.getD t default=default from by simp [List.getD,List.getElem?_eq_none (Nat.le_of_not_lt c)]] at h2
        cases h2
    · rw [List.mem_singleton] at h2; rw [h2]; exact hr
theorem AllR.app (h:AllR P z) (hr:P r):AllR P (eY t r z):=by
  unfold eY mn; split
  · exact h
  · exact h.layT hr
theorem AllR.layZ (h:AllR P z) (hr:P r):AllR P (layZ z r):=by
  unfold Wk.layZ lN
  repeat' split
  · exact h
  · exact h
  · exact (h.app hr).app hr
theorem mv (h:cz z=0):AllR (fun r=>recF z.Shape r=0) z:=fun t ht q hq=>by
  obtain ⟨k,hk,e1⟩:=List.getElem_of_mem ht
  obtain ⟨j,hj,e2⟩:=List.getElem_of_mem hq
  have e3:z.Tapes.getD k default=t:=by rw [bh hk]; exact e1
  have e:(z.Tapes.getD k default).Recs.getD j default=q:=by rw [e3,bh hj]; exact e2
  have hj':j<(z.Tapes.getD k default).Recs.length:=by rw [e3]; exact hj
  have hT:=(bx h).2.2.2.2
  have h0:eV z.Shape z.Tapes z.Tapes.length=0:=by
    unfold eF at hT
    split at hT
    · cases hT
    · split at hT
      · next c2=>exact absurd hT c2
      · omega
  have hk0:eV z.Shape z.Tapes (k+1)=0:=by
    rcases Decidable.em (eV z.Shape z.Tapes (k+1)=0) with c2 | c2
    · exact c2
    · rw [pm c2 _ hk] at h0; exact absurd h0 c2
  have hk1:eV z.Shape z.Tapes k=0:=by
    rcases Decidable.em (eV z.Shape z.Tapes k=0) with c2 | c2
    · exact c2
    · rw [pm c2 _ (Nat.le_succ k)] at hk0; exact absurd hk0 c2
  rw [pk hk1] at hk0
  have hj0:eW z.Shape (z.Tapes.getD k default).Recs (j+1)=0:=by
    rcases Decidable.em (eW z.Shape (z.Tapes.getD k default).Recs (j+1)=0) with c2 | c2
    · exact c2
    · rw [pM c2 _ hj'] at hk0; exact absurd hk0 c2
  have hj1:eW z.Shape (z.Tapes.getD k default).Recs j=0:=by
    rcases Decidable.em (eW z.Shape (z.Tapes.getD k default).Recs j=0) with c2 | c2
    · exact c2
    · rw [pM c2 _ (Nat.le_succ j)] at hj0; exact absurd hj0 c2
  rw [lW hj1,e] at hj0
  exact hj0
def SeqOK (z:Wld):Prop:=AllR (fun r=>0≤r.Seq∧r.Seq≤1000000000) z
theorem EB {s:Shape}(h:recF s r=0):1≤r.Seq∧r.Seq≤1000000000:=by
  by_cases hk:ins r.Kind 1 4=true
  · by_cases hq:ins r.Seq 1 1000000000=true
    · exact aN.1 hq
    · rw [tQ hk (by simpa using hq)] at h; exact absurd h ω
  · rw [qN (by simpa using hk)] at h; exact absurd h ω
theorem fT (h:cz z=0):SeqOK z:=(mv h).imp fun r hr=>by have:=EB hr; omega
noncomputable def nxQ (z:Wld):Int:=DH (fB z)+1
theorem xp (h:SeqOK z):1≤nxQ z∧nxQ z≤1000000001:=by
  unfold nxQ DH
  by_cases c:(fB z).length=0
  · rw [List.eq_nil_of_length_eq_zero c]
    show 1≤(0:Int)+1∧(0:Int)+1≤1000000001
    omega
  · have hm:(fB z).getD ((fB z).length-1) default∈fB z:=by rw [bh ω]; exact List.getElem_mem _
    have:=AllR.cnt h hm
    omega
def oy (r:Rec) (q:Int):Rec:=⟨r.Kind,q,r.Name,r.Length,r.Group,r.Row,r.Rows,r.Data,r.Delta⟩
noncomputable def nxC (z:Wld) (r:Rec):Int:=if 1000000000<nxQ z then 2 else oz z (oy r (nxQ z))
noncomputable def nxZ (z:Wld) (r:Rec):Wld:=if 1000000000<nxQ z then z else layZ z (oy r (nxQ z))
theorem wB (h:1000000000<nxQ z):nxC z r=2∧nxZ z r=z:=⟨if_pos h,if_pos h⟩
theorem vr (h:¬ 1000000000<nxQ z):nxC z r=oz z (oy r (nxQ z))∧nxZ z r=layZ z (oy r (nxQ z)):=⟨if_neg h,if_neg h⟩
theorem F6:nxC z r=0∨nxC z r=2∨nxC z r=9:=by
  unfold nxC; split
  · exact .inr (.inl rfl)
  · exact HG
theorem zIO {q:Int}:oJ (oy r q)=oJ r:=rfl
theorem IQ {q:Int}(h:r.Ok) (hq:I64ok q):(oy r q).Ok:=⟨h.1,hq,h.2.2⟩
theorem uv:(layZ z r).Shape=z.Shape∧(layZ z r).Groups=z.Groups∧(layZ z r).Stop=z.Stop:=by
  unfold layZ lN eY mn
  repeat' split
  all_goals exact ⟨rfl,rfl,rfl⟩
theorem Dy (h:oz z r=0):(layZ z r).Down=z.Down:=by
  obtain ⟨h1,h2⟩:=u9 h
  rw [(mT h1).2,EI h2]
theorem uo:(nxZ z r).Shape=z.Shape∧(nxZ z r).Groups=z.Groups:=by
  unfold nxZ; split
  · exact ⟨rfl,rfl⟩
  · exact ⟨uv.1,uv.2.1⟩
theorem E8 (h:nxC z r=0):(nxZ z r).Down=z.Down:=by
  unfold nxC at h; unfold nxZ
  split at h
  · cases h
  · next c=>rw [if_neg c]; exact Dy h
theorem D4 (hT:z.Tapes.length=2):(nxZ z r).Tapes.length=2∧(nxZ z r).Writes≤z.Writes+2∧z.Writes≤(nxZ z r).Writes∧kM (nxZ z r)≤kM z+2*oJ r:=by
  unfold nxZ; split
  · exact ⟨hT,ω,ω,ω⟩
  · have h:=zT (r:=oy r (nxQ z)) hT
    rw [zIO] at h
    exact h
theorem JO (h:z.Ok) (h2:z.Writes≤1500000000):(nxZ z r).Ok:=by
  unfold nxZ; split
  · exact h
  · exact I8 h h2
theorem CO (h:AllR P z) (hr:¬ 1000000000<nxQ z→P (oy r (nxQ z))):AllR P (nxZ z r):=by
  unfold nxZ; split
  · exact h
  · next c=>exact h.layZ (hr c)
theorem IT (h:SeqOK z):SeqOK (nxZ z r):=CO h fun c=>by
  have:=xp h
  show 0≤nxQ z∧nxQ z≤1000000000
  omega
end
noncomputable def bgR (z:Wld) (g row:Int):Rec:=⟨4,0,⟨#[]⟩,0,g,row,[],List.replicate (z.Shape.Data*4).toNat 0,uO z g⟩
noncomputable def bgC (z:Wld) (g row:Int):Int:=if ko z g=true then if gP z g row=true then 7 else nxC z (bgR z g row) else 10
noncomputable def bgZ (z:Wld) (g row:Int):Wld:=if ko z g=true then if gP z g row=true then z else nxZ z (bgR z g row) else z
section
variable {z:Wld}{g row:Int}
theorem wY (h:ko z g=false):bgC z g row=10∧bgZ z g row=z:=⟨if_neg (by simp [h]),if_neg (by simp [h])⟩
theorem xM (h:ko z g=true) (h2:gP z g row=true):bgC z g row=7∧bgZ z g row=z:=⟨by rw [bgC,if_pos h,if_pos h2],by rw [bgZ,if_pos h,if_pos h2]⟩
theorem Hm (h:ko z g=true) (h2:gP z g row=false):bgC z g row=nxC z (bgR z g row)∧bgZ z g row=nxZ z (bgR z g row):=
  ⟨by rw [bgC,if_pos h,if_neg (by simp [h2])],by rw [bgZ,if_pos h,if_neg (by simp [h2])]⟩
theorem GG:bgC z g row=0∨bgC z g row=2∨bgC z g row=9∨bgC z g row=7∨bgC z g row=10:=by
  unfold bgC
  repeat' split
  · omega
  · have:=F6 (z:=z) (r:=bgR z g row); omega
  · omega
theorem y0:(uO z g).length≤(z.Shape.Groups+z.Shape.Column).toNat:=by
  unfold uO; split
  · unfold vZ; rw [iT]; exact Nat.le_refl _
  · exact Nat.zero_le _
theorem JK (h1:I64ok g) (h2:I64ok row):(bgR z g row).Ok:=by
  have h0:I64ok 0:=by unfold I64ok; omega
  exact ⟨by show I64ok 4; unfold I64ok; omega,h0,by show (0:Nat)≤maxLen; exact Nat.zero_le _,h0,h1,h2⟩
theorem JD (hs:z.Shape.ok=true):fX (bgR z g row)≤30:=by
  have sbd:=aL hs
  have:=y0 (z:=z) (g:=g)
  show 0+0+(List.replicate (z.Shape.Data*4).toNat (0:UInt8)).length+(uO z g).length≤30
  rw [List.length_replicate]
  omega
end
def codeF (c:Int) (y:Wld):WldResult:=if c=0∨c=9 then ⟨c,y⟩ else ⟨c,noWld⟩
section
variable {c:Int}{y:Wld}{n:Nat}
theorem FE (h:c=0∨c=9):codeF c y=⟨c,y⟩:=if_pos h
theorem Iu (h:c≠0∧c≠9):codeF c y=⟨c,noWld⟩:=if_neg (fun q=>by omega)
end
def pU (z:Wld) (a c:Int) (y:Wld):WldResult:=if upF z=0 then if a=0 then codeF c y else ⟨a,noWld⟩ else ⟨upF z,noWld⟩
section
variable {z y:Wld}{a c:Int}{n:Nat}
theorem sB (h:upF z≠0):pU z a c y=⟨upF z,noWld⟩:=if_neg h
theorem pX (h:upF z=0) (h2:a≠0):pU z a c y=⟨a,noWld⟩:=by rw [pU,if_pos h,if_neg h2]
theorem sy (h:upF z=0) (h2:a=0) (h3:c≠0∧c≠9):pU z a c y=⟨c,noWld⟩:=by rw [pU,if_pos h,if_pos h2,Iu h3]
theorem pT (h:upF z=0) (h2:a=0) (h3:c=0∨c=9):pU z a c y=⟨c,y⟩:=by rw [pU,if_pos h,if_pos h2,FE h3]
end
noncomputable def cI (z:Wld) (g row:Int):WldResult:=pU z (jW z g row) (bgC z g row) (bgZ z g row)
end Go.Wk
namespace Go.Wk
noncomputable def nsV (z:Wld):Int:=if 1000000000<nxQ z then 0 else nxQ z
noncomputable def nsC (z:Wld):Int:=if 1000000000<nxQ z then 2 else 0
section
variable {z:Wld}{vs:List RecV}
theorem Es (h:vs.length=0):DH (vs.map RecV.r)=0:=by
  rw [List.eq_nil_of_length_eq_zero h]; rfl
theorem Ih:DH (vs.map RecV.r)=(vs.getD (vs.length-1) default).r.Seq:=by
  unfold DH
  rw [List.length_map]
  by_cases h:vs.length=0
  · rw [List.eq_nil_of_length_eq_zero h]; rfl
  · rw [km rfl ω]
theorem JM (hM:vs.map RecV.r=fB z) (_:0<vs.length):nxQ z=(vs.getD (vs.length-1) default).r.Seq+1:=by
  unfold nxQ; rw [← hM,Ih]
theorem xJ (hM:vs.map RecV.r=fB z) (h:vs.length=0):nxQ z=1:=by
  unfold nxQ; rw [← hM,Es h]; rfl
end
end Go.Wk
namespace Go.Wk
section
variable {z:Wld}{g:Int}{r:Rec}{n:Nat}
theorem Gw (hT:z.Tapes.length=2) (h:(z.Tapes.getD 0 default).Recs.length≤1000∧(z.Tapes.getD 1 default).Recs.length≤1000):∀ k,(z.Tapes.getD k default).Recs.length≤200000:=fun k=>by
  rcases k with _ | _ | k
  · omega
  · show (z.Tapes.getD 1 default).Recs.length≤_; omega
  · rw [show z.Tapes.getD (k+1+1) default=default from by simp [List.getD,List.getElem?_eq_none (show z.Tapes.length≤k+1+1 by omega)]]
    exact Nat.zero_le _
end
end Go.Wk
namespace Go.Wk
open Rp (sz own)
section
variable {P:Program}{n:Nat}{ops:Array Oper}{Q:Post}{L:Env}{w w0:World}{M:Nat→Prop}{Δ F:List Rsc}{rest:List Oper}{d:Nat}{ty:TypeId}{p:String}{af:Array Edge}{g:Option (Nat × Bool)}{α:Type}[Rp α]
theorem wC {t e:TypeId}{x:Operand}{z:Value}{bytes m:Nat}{y:α}(hw:Wn ops n L ⟨some d,.makeSlice t x x,ty,p,af,g⟩) (hn:Nat.blt d n=true) (ht:P.underlying t=some (.slice e)) (hT:Ty P e z (sz α) bytes) (hz:∀ w,own true w z.cells.toList y [])
    (hx:evL L x=some (.int .i64 m)) (h48:bytes*m≤281474976710656) (h63:m≤maxLen) (H:Sep M w0 Δ F w)
    (k:∀ b w',Ext No w w'→w.heap.size≤b→Sep M w0 (Δ++[mine [.slice (some ⟨b,0,none⟩) (List.replicate m y).length m] (List.replicate m y) [b]]) F w'→RL P n ops Q rest ((d,.slice (some ⟨b,0,none⟩) (List.replicate m y).length m)::L) w') :
    RL P n ops Q (⟨some d,.makeSlice t x x,ty,p,af,g⟩::rest) L w:=by
  have e:(List.replicate m y).length=m:=List.length_replicate
  rw [e] at k
  exact mz hw hn ht hT hz hx h48 h63 H k
end
end Go.Wk
namespace Go.Wk
open Rp (sz own)
def iLt (a b:Int):Prop:=a<b
theorem JJ:LinO iLt where
  irr a:=by unfold iLt; omega
  tr a b c:=by unfold iLt; omega
  tot a b:=by unfold iLt; omega
def kV (xs:List Int) (x:Int):Nat→Bool
  | 0=>false
  | k+1=>kV xs x k || decide (x<xs.getD k 0)
def jK (xs:List Int) (x:Int):Nat→List Int
  | 0=>[]
  | k+1=>if x<xs.getD k 0∧kV xs x k=false then jK xs x k++[x]++[xs.getD k 0] else jK xs x k++[xs.getD k 0]
def kB (xs:List Int) (x:Int):List Int:=if kV xs x xs.length=true then jK xs x xs.length else jK xs x xs.length++[x]
section
variable {xs ys:List Int}{x:Int}{k:Nat}
theorem Cp (h:x<xs.getD k 0) (h2:kV xs x k=false):jK xs x (k+1)=jK xs x k++[x]++[xs.getD k 0]∧kV xs x (k+1)=true:=⟨if_pos ⟨h,h2⟩,by rw [kV,decide_eq_true h,Bool.or_true]⟩
theorem A5 (h:¬ x<xs.getD k 0∨kV xs x k=true):jK xs x (k+1)=jK xs x k++[xs.getD k 0]∧kV xs x (k+1)=kV xs x k:=by
  constructor
  · refine if_neg (fun q=>?_)
    rcases h with h | h
    · exact h q.1
    · rw [q.2] at h; cases h
  · show (kV xs x k || decide (x<xs.getD k 0))=kV xs x k
    rcases h with h | h
    · rw [decide_eq_false h,Bool.or_false]
    · rw [h,Bool.true_or]
theorem wH (h:kV xs x xs.length=true):kB xs x=jK xs x xs.length:=if_pos h
theorem z4 (h:kV xs x xs.length=false):kB xs x=jK xs x xs.length++[x]:=if_neg (by simp [h])
theorem wX:∀ {k},(jK xs x k).length=k+(if kV xs x k=true then 1 else 0)
  | 0=>rfl
  | k+1=>by
    have ih:=wX (k:=k)
    by_cases h:x<xs.getD k 0∧kV xs x k=false
    · obtain ⟨e1,e2⟩:=Cp h.1 h.2
      rw [e1,e2,List.length_append,List.length_append,ih,h.2]; rfl
    · obtain ⟨e1,e2⟩:=A5 (xs:=xs) (x:=x) (k:=k) (by
        by_cases q:x<xs.getD k 0
        · exact .inr (by cases c:kV xs x k with | true=>rfl | false=>exact absurd ⟨q,c⟩ h)
        · exact .inl q)
      rw [e1,e2,List.length_append,ih]
      simp only [List.length_singleton]; omega
theorem Iz:(kB xs x).length=xs.length+1:=by
  cases h:kV xs x xs.length with
  | true=>rw [wH h,wX,h]; rfl
  | false=>rw [z4 h,List.length_append,wX,h]; rfl
theorem rq (ho:Ord iLt id xs):∀ {k},k≤xs.length→(kV xs x k=false∧jK xs x k=xs.take k∧∀ y∈xs.take k,¬ x<y) ∨
    (kV xs x k=true∧∃ A B,xs.take k=A++B∧jK xs x k=A++x::B∧(∀ y∈A,¬ x<y)∧(∀ y∈B,x<y)∧B≠[])
  | 0,_ => .inl ⟨rfl,rfl,σ⟩
  | k+1,hk=>by
    have et:xs.take (k+1)=xs.take k++[xs.getD k 0]:=by rw [List.take_add_one,List.getElem?_eq_getElem ω,bh ω]; rfl
    rcases rq ho (k:=k) ω with ⟨h1,h2,h3⟩ | ⟨h1,A,B,h2,h3,h4,h5,h6⟩
    · by_cases q:x<xs.getD k 0
      · obtain ⟨e1,e2⟩:=Cp q h1
        refine .inr ⟨e2,xs.take k,[xs.getD k 0],et,by rw [e1,h2]; simp,h3,by simpa using q,σ⟩
      · obtain ⟨e1,e2⟩:=A5 (xs:=xs) (x:=x) (k:=k) (.inl q)
        refine .inl ⟨e2.trans h1,by rw [e1,h2,et],fun y hy=>?_⟩
        rw [et,List.mem_append,List.mem_singleton] at hy
        rcases hy with hy | rfl
        · exact h3 y hy
        · exact q
    · obtain ⟨e1,e2⟩:=A5 (xs:=xs) (x:=x) (k:=k) (.inr h1)
      refine .inr ⟨e2.trans h1,A,B++[xs.getD k 0],by rw [et,h2]; simp,by rw [e1,h3]; simp,h4,fun y hy=>?_,σ⟩
      rw [List.mem_append,List.mem_singleton] at hy
      rcases hy with hy | rfl
      · exact h5 y hy
      · cases B with
        | nil=>exact absurd rfl h6
        | cons b B=>
          have hb:b∈xs.take k:=by rw [h2]; simp
          have hm:xs.getD k 0∈xs.drop k:=by
            rw [List.drop_eq_getElem_cons ω,bh ω]; exact List.mem_cons_self ..
          have h7:=Ord.le (xs:=xs.take k) (ys:=xs.drop k) (lt:=iLt) (key:=id) (by rw [List.take_append_drop]; exact ho) b hb _ hm
          have h8:=h5 b (List.mem_cons_self ..)
          unfold iLt at h7
          simp only [id] at h7
          omega
theorem Br (ho:Ord iLt id xs):Stable iLt id (xs++[x]) (kB xs x):=by
  have hs:Stable iLt id xs xs:=⟨ho,.refl⟩
  rcases rq (x:=x) ho (k:=xs.length) (Nat.le_refl _) with ⟨h1,h2,h3⟩ | ⟨h1,A,B,h2,h3,h4,h5,_⟩
  · rw [List.take_length] at h2 h3
    rw [z4 h1,h2]
    have:=jj JJ (xs:=xs) (A:=xs) (B:=[]) (x:=x) (by rw [List.append_nil]; exact hs) σ (fun y hy=>h3 y hy)
    exact this
  · rw [List.take_length] at h2
    rw [wH h1,h3]
    exact jj JJ (by rw [← h2]; exact hs) (fun y hy=>h5 y hy) (fun y hy=>h4 y hy)
theorem DJ {l l':List Int}(hp:l'.Perm l):cJ id l l':=fun c=>by
  have key:∀ {m:List Int},(m.filter fun x=>decide (id x=c))=List.replicate (m.filter fun x=>decide (id x=c)).length c:=fun {m}=>by
    rw [List.eq_replicate_iff]
    exact ⟨rfl,fun b hb=>by simpa using (List.mem_filter.1 hb).2⟩
  rw [key (m:=l'),key (m:=l),(hp.filter _).length_eq]
theorem JF (ho:Ord iLt id xs) (hy:Ord iLt id ys) (hp:ys.Perm (xs++[x])):ys=kB xs x:=
  oK JJ ⟨hy,DJ hp⟩ (Br ho)
end
end Go.Wk
namespace Go.Wk
open Rp (sz own)
section
variable {xs:List Int}{x m:Int}
theorem vS (h:∀ i,i+1<xs.length→xs.getD i 0<xs.getD (i+1) 0):∀ {i j},i<j→j<xs.length→xs.getD i 0<xs.getD j 0:=by
  intro i j hij hj
  induction j with
  | zero=>omega
  | succ j ih=>
    by_cases e:i=j
    · subst e; exact h i hj
    · exact Int.lt_trans (ih ω ω) (h j hj)
theorem pB (h:rises xs m=true) (i:Nat) (hi:i+1<xs.length):xs.getD i 0<xs.getD (i+1) 0:=by
  rw [rises,List.all_eq_true] at h
  have:=h (i+1) (by simpa using hi)
  unfold jG at this
  simp only [Bool.and_eq_true,Bool.or_eq_true,decide_eq_true_eq,Nat.add_sub_cancel] at this
  rcases this.2 with q | q
  · omega
  · exact q
theorem Ek (h:∀ i j,i<j→j<xs.length→xs.getD i 0<xs.getD j 0):Ord iLt id xs:=by
  induction xs with
  | nil=>exact .nil
  | cons a l ih=>
    refine .cons (fun y hy=>?_) (ih fun i j h1 h2=>?_)
    · obtain ⟨k,hk,e⟩:=List.getElem_of_mem hy
      have:=h 0 (k+1) ω (by simpa using hk)
      have e2:(a::l).getD (k+1) 0=y:=by rw [List.getD_cons_succ,bh hk,e]
      rw [e2] at this
      unfold iLt
      simp only [id,List.getD_cons_zero] at this ⊢
      omega
    · have:=h (i+1) (j+1) ω (by simpa using h2)
      simpa using this
theorem qY (h:rises xs m=true):Ord iLt id xs:=Ek fun _ _=>vS (pB h)
theorem Ab (h:rises xs m=true):xs.Pairwise (· < ·):=by
  rw [List.pairwise_iff_getElem]
  intro i j hi hj hij
  have:=vS (pB h) hij hj
  rwa [bh hi,bh hj] at this
theorem Bp (h:xs.Pairwise (· < ·)) (hb:∀ y∈xs,0≤y∧y≤m):rises xs m=true:=by
  refine qB fun i hi=>?_
  have h1:=hb (xs.getD i 0) (by rw [bh hi]; exact List.getElem_mem _)
  unfold jG
  rw [decide_eq_true h1.1,decide_eq_true h1.2,Bool.true_and,Bool.true_and,Bool.or_eq_true,decide_eq_true_eq,decide_eq_true_eq]
  by_cases e:i=0
  · exact .inl e
  · refine .inr ?_
    have:=List.pairwise_iff_getElem.1 h (i-1) i ω hi ω
    rw [bh ω,bh hi]; exact this
theorem wt (ho:Ord iLt id xs):∃ A B,xs=A++B∧kB xs x=A++x::B∧(∀ y∈A,¬ x<y)∧∀ y∈B,x<y:=by
  rcases rq (x:=x) ho (k:=xs.length) (Nat.le_refl _) with ⟨h1,h2,h3⟩ | ⟨h1,A,B,h2,h3,h4,h5,_⟩
  · rw [List.take_length] at h2 h3
    exact ⟨xs,[],σ,by rw [z4 h1,h2],h3,σ⟩
  · rw [List.take_length] at h2
    exact ⟨A,B,h2,by rw [wH h1,h3],h4,h5⟩
theorem Cd (ho:Ord iLt id xs) {y:Int}:y∈kB xs x↔y∈xs∨y=x:=by
  obtain ⟨A,B,h1,h2,_,_⟩:=wt (x:=x) ho
  rw [h2,h1]
  simp only [List.mem_append,List.mem_cons]
  constructor
  · rintro (h | h | h)
    · exact .inl (.inl h)
    · exact .inr h
    · exact .inl (.inr h)
  · rintro ((h | h) | h)
    · exact .inl h
    · exact .inr (.inr h)
    · exact .inr (.inl h)
theorem EP (h:rises xs m=true) (hx:0≤x∧x≤m) (hn:x ∉ xs):rises (kB xs x) m=true:=by
  have ho:=qY h
  refine Bp ?_ fun y hy=>?_
  · obtain ⟨A,B,h1,h2,h3,h4⟩:=wt (x:=x) ho
    have hp:=Ab h
    rw [h1,List.pairwise_append] at hp
    rw [h2,List.pairwise_append]
    refine ⟨hp.1,List.pairwise_cons.2 ⟨h4,hp.2.1⟩,fun a ha b hb=>?_⟩
    have h5:a<x:=by
      have h6:=h3 a ha
      have h7:a≠x:=fun e=>hn (by rw [h1,← e]; exact List.mem_append_left _ ha)
      omega
    rcases List.mem_cons.1 hb with rfl | hb
    · exact h5
    · exact hp.2.2 a ha b hb
  · rcases (Cd ho).1 hy with hy | rfl
    · obtain ⟨i,hi,e⟩:=List.getElem_of_mem hy
      have:=lw h i hi
      rwa [bh hi,e] at this
    · exact hx
end
noncomputable def gvD (z:Wld) (f g row:Int):UInt8:=(opR z g row).Delta.getD f.toNat 0
noncomputable def gt (z:Wld) (f g row:Int):Bool:=gP z g row && (!decide ((gvD z f g row).toNat=0) && !decide (f∈(opR z g row).Rows))
noncomputable def gvR (z:Wld) (f g row:Int):Rec:=⟨(opR z g row).Kind,(opR z g row).Seq,(opR z g row).Name,(opR z g row).Length,(opR z g row).Group,(opR z g row).Row,kB (opR z g row).Rows f,cP (opR z g row).Data (bD (l4 z f row) (gvD z f g row)),(opR z g row).Delta⟩
noncomputable def gvC (z:Wld) (f g row:Int):Int:=if gt z f g row=true then nxC z (gvR z f g row) else 0
noncomputable def gvZ (z:Wld) (f g row:Int):Wld:=if gt z f g row=true then nxZ z (gvR z f g row) else z
section
variable {z:Wld}{f g row:Int}
theorem Ju (h:gt z f g row=false):gvC z f g row=0∧gvZ z f g row=z:=⟨if_neg (by simp [h]),if_neg (by simp [h])⟩
theorem Ks (h:gt z f g row=true):gvC z f g row=nxC z (gvR z f g row)∧gvZ z f g row=nxZ z (gvR z f g row):=⟨if_pos h,if_pos h⟩
theorem Kh:0≤gvC z f g row∧gvC z f g row≤9:=by
  unfold gvC
  have:=F6 (z:=z) (r:=gvR z f g row)
  split<;>omega
def RecsOK (z:Wld):Prop:=AllR (fun r=>recF z.Shape r=0) z
theorem De (h:gt z f g row=true):gP z g row=true∧(gvD z f g row).toNat≠0∧f ∉ (opR z g row).Rows:=by
  unfold gt at h
  simp only [Bool.and_eq_true,Bool.not_eq_true',decide_eq_false_iff_not] at h
  exact ⟨h.1,h.2.1,h.2.2⟩
theorem nK (hA:RecsOK z) (h:gP z g row=true):recF z.Shape (opR z g row)=0:=AllR.cnt hA (CU (CM h))
theorem pf (h:recF z.Shape (opR z g row)=0) (hk:(opR z g row).Kind=4):ins (opR z g row).Group 0 (z.Shape.Groups+z.Shape.Column-1)=true∧ins (opR z g row).Row 0 (z.Shape.Rows-1)=true∧rises (opR z g row).Rows (z.Shape.Groups+z.Shape.Column-1)=true∧((opR z g row).Data.length:Int)=z.Shape.Data*4∧weightsOK z.Shape (opR z g row)=true:=by
  have h1:=uh h hk
  unfold dX at h1
  simp only [Bool.and_eq_true,decide_eq_true_eq] at h1
  exact ⟨h1.1.1.1.1,h1.1.1.1.2,h1.1.1.2,h1.1.2,h1.2⟩
theorem CT (hs:z.Shape.ok=true) (hG:aR z=true) (hf:ins f 0 (z.Shape.Groups+z.Shape.Column-1)=true) (hd:dI z f=false) (hA:RecsOK z) (h:gt z f g row=true):((gvR z f g row).Data.length:Int)=z.Shape.Data*4∧(opR z g row).Data.length=(bD (l4 z f row) (gvD z f g row)).length:=by
  obtain ⟨h1,_,_⟩:=De h
  obtain ⟨hk,_,hrw⟩:=mh h1
  obtain ⟨_,d2,_,d4,_⟩:=pf (nK hA h1) hk
  rw [hrw] at d2
  have hl:=yw hs hG hf d2 hd
  have e:(opR z g row).Data.length=(bD (l4 z f row) (gvD z f g row)).length:=by rw [cY]; omega
  refine ⟨?_,e⟩
  show ((cP (opR z g row).Data (bD (l4 z f row) (gvD z f g row))).length:Int)=_
  rw [eM ω]; exact d4
theorem yZ (hs:z.Shape.ok=true) (hG:aR z=true) (hf:ins f 0 (z.Shape.Groups+z.Shape.Column-1)=true) (hd:dI z f=false) (hA:RecsOK z) (h:gt z f g row=true):dX z.Shape (gvR z f g row)=true:=by
  obtain ⟨h1,h2,h3⟩:=De h
  obtain ⟨hk,_,hrw⟩:=mh h1
  obtain ⟨d1,d2,d3,d4,d5⟩:=pf (nK hA h1) hk
  have hfi:=aN.1 hf
  have h6:=(CT hs hG hf hd hA h).1
  have ho:=qY d3
  unfold dX
  simp only [Bool.and_eq_true,decide_eq_true_eq]
  refine ⟨⟨⟨⟨d1,d2⟩,EP d3 hfi h3⟩,h6⟩,?_⟩
  unfold weightsOK at d5 ⊢
  simp only [Bool.and_eq_true,decide_eq_true_eq] at d5 ⊢
  refine ⟨d5.1,?_⟩
  rw [List.all_eq_true]
  intro i hi
  have hi2:i<(kB (opR z g row).Rows f).length:=List.mem_range.1 hi
  rw [decide_eq_true_eq]
  show ¬ (((opR z g row).Delta.getD ((kB (opR z g row).Rows f).getD i 0).toNat 0).toNat:Int)=0
  have hm:(kB (opR z g row).Rows f).getD i 0∈kB (opR z g row).Rows f:=by rw [bh hi2]; exact List.getElem_mem _
  rcases (Cd ho).1 hm with hm | hm
  · obtain ⟨j,hj,e⟩:=List.getElem_of_mem hm
    have:=List.all_eq_true.1 d5.2 j (by simpa using hj)
    rw [decide_eq_true_eq,bh hj,e] at this
    exact this
  · rw [hm]
    intro q
    exact h2 (by unfold gvD; omega)
theorem l9 {s:Shape}{r:Rec}(h:recF s r=0):ins r.Kind 1 4=true∧bareOK r=true:=by
  cases hk:ins r.Kind 1 4 with
  | false=>rw [qN hk] at h; exact absurd h ω
  | true=>
    refine ⟨rfl,?_⟩
    cases hq:ins r.Seq 1 1000000000 with
    | false=>rw [tQ hk hq] at h; exact absurd h ω
    | true=>
      by_cases h3:eG s r=0
      · cases hb:bareOK r with
        | true=>rfl
        | false=>rw [vc hk hq h3 hb] at h; exact absurd h ω
      · rw [ze hk hq h3] at h; exact absurd h h3
theorem CS (hs:z.Shape.ok=true) (hG:aR z=true) (hf:ins f 0 (z.Shape.Groups+z.Shape.Column-1)=true) (hd:dI z f=false) (hA:RecsOK z) (h:gt z f g row=true) {q:Int}(hq:1≤q∧q≤1000000000):recF z.Shape (oy (gvR z f g row) q)=0:=by
  obtain ⟨h1,_,_⟩:=De h
  obtain ⟨hk,_,_⟩:=mh h1
  obtain ⟨p1,p2⟩:=l9 (nK hA h1)
  have hsh:=yZ hs hG hf hd hA h
  have hk2:(oy (gvR z f g row) q).Kind=4:=hk
  refine sI (by rw [hk2]; decide) (aN.2 hq) ?_ ?_
  · rw [kO hk2,if_pos]
    exact hsh
  · unfold bareOK at p2 ⊢
    rw [if_neg ω,if_neg ω,if_neg ω] at p2
    rw [if_neg ω,if_neg ω,if_neg ω]
    exact p2
end
end Go.Wk
namespace Go.Wk
section
variable {z:Wld}{r:Rec}{t u:Nat}
theorem mi (h:cj z=false) (ht:t<z.Tapes.length):((eY t r z).Tapes.getD u default).Recs.length=(z.Tapes.getD u default).Recs.length+(if u=t then 1 else 0):=by
  unfold eY; rw [iE h]
  show ((z.Tapes.set t _).getD u default).Recs.length=_
  rw [cm]; split
  · next h=>rw [if_pos h.1,h.1]; simp
  · next h=>rw [if_neg (fun e=>h ⟨e,ht⟩)]; rfl
theorem zS (hT:z.Tapes.length=2) (h:oz z r=0):(layZ z r).Writes=z.Writes+2∧((layZ z r).Tapes.getD 0 default).Recs.length=(z.Tapes.getD 0 default).Recs.length+1 ∧
    ((layZ z r).Tapes.getD 1 default).Recs.length=(z.Tapes.getD 1 default).Recs.length+1∧(z.Tapes.getD 0 default).Recs.length<200∧(z.Tapes.getD 1 default).Recs.length<200:=by
  obtain ⟨h1,h2⟩:=u9 h
  obtain ⟨f1,f2⟩:=yH h1
  unfold lk at h2
  simp only [Bool.and_eq_true,Bool.not_eq_true'] at h2
  rw [(mT h1).2,(qj h2.1).1]
  have e1:(eY 0 r z).Writes=z.Writes+1:=by unfold eY; rw [iE h2.1]; rfl
  have e2:(eY 1 r (eY 0 r z)).Writes=(eY 0 r z).Writes+1:=by
    show (mn (eY 0 r z) (layT 1 r (eY 0 r z))).Writes=_
    rw [iE h2.2]; rfl
  have a0:=mi (t:=0) (u:=0) (r:=r) h2.1 ω
  have a1:=mi (t:=0) (u:=1) (r:=r) h2.1 ω
  have b0:=mi (t:=1) (u:=0) (r:=r) h2.2 (by rw [iY]; omega)
  have b1:=mi (t:=1) (u:=1) (r:=r) h2.2 (by rw [iY]; omega)
  rw [if_pos rfl] at a0 b1
  rw [if_neg (by decide)] at a1 b0
  exact ⟨ω,ω,ω,f1,f2⟩
theorem HU (h:nxC z r=0):¬ 1000000000<nxQ z∧oz z (oy r (nxQ z))=0:=by
  by_cases c:1000000000<nxQ z
  · rw [(wB c).1] at h; exact absurd h (by decide)
  · exact ⟨c,by rw [(vr c).1] at h; exact h⟩
end
theorem yi {xs:List Int}{m:Int}(h:rises xs m=true):∀ {i:Nat},i<xs.length→(i:Int)≤xs.getD i 0
  | 0,hi=>(lw h 0 hi).1
  | i+1,hi=>by
    have h1:=yi h (i:=i) ω
    have h2:=pB h i hi
    omega
theorem vm {xs:List Int}{m:Int}(h:rises xs m=true) (hm:0≤m):(xs.length:Int)≤m+1:=by
  by_cases c:xs.length=0
  · omega
  · have h1:=yi h (i:=xs.length-1) ω
    have h2:=(lw h (xs.length-1) ω).2
    omega
noncomputable def gwC (z:Wld) (f g row:Int):Int:=if dI z f=true then 0 else gvC z f g row
noncomputable def gwZ (z:Wld) (f g row:Int):Wld:=if dI z f=true then z else gvZ z f g row
structure GvI (z0 z:Wld):Prop where
  sh:z.Shape=z0.Shape
  gr:z.Groups=z0.Groups
  tp:z.Tapes.length=2
  sq:SeqOK z
  rc:RecsOK z
  dn:z.Down=z0.Down
  r0:(z.Tapes.getD 0 default).Recs.length≤200
  r1:(z.Tapes.getD 1 default).Recs.length≤200
  wr:z.Writes≤z0.Writes+((z.Tapes.getD 0 default).Recs.length:Int)+((z.Tapes.getD 1 default).Recs.length:Int)
  mw:kM z≤kM z0+200*(z.Tapes.getD 0 default).Recs.length
  ok:z.Ok
section
variable {z z0:Wld}{f g row:Int}
theorem GvI.start (h:cz z=0) (ho:z.Ok):GvI z z:=by
  obtain ⟨h1,h2⟩:=kK h
  exact ⟨rfl,rfl,(bx h).2.2.2.1,fT h,mv h,rfl,h1,h2,ω,ω,ho⟩
theorem Aq {y:Wld}(h1:y.Shape=z.Shape) (h2:y.Groups=z.Groups):dI y f=dI z f:=by
  unfold dI kT; rw [h1,h2]
theorem tX (hs:z.Shape.ok=true) (hG:aR z=true) (hf:ins f 0 (z.Shape.Groups+z.Shape.Column-1)=true) (hd:dI z f=false) (hA:RecsOK z) (h:gt z f g row=true):fX (gvR z f g row)≤40∧oJ (gvR z f g row)≤50:=by
  have sbd:=aL hs
  obtain ⟨h1,_,_⟩:=De h
  obtain ⟨hk,_,_⟩:=mh h1
  have hsh:=yZ hs hG hf hd hA h
  obtain ⟨_,p2⟩:=l9 (nK hA h1)
  unfold bareOK at p2
  rw [if_neg ω,if_neg ω,if_neg ω] at p2
  simp only [Bool.and_eq_true,decide_eq_true_eq,noName] at p2
  unfold dX weightsOK at hsh
  simp only [Bool.and_eq_true,decide_eq_true_eq] at hsh
  obtain ⟨⟨⟨⟨d1,d2⟩,d3⟩,d4⟩,⟨d5,_⟩,_⟩:=hsh
  have hl:=vm d3 ω
  have hn:(gvR z f g row).Name.size=0:=by
    show (opR z g row).Name.size=0
    rw [p2.1]; rfl
  unfold fX oJ
  omega
theorem J9:0≤gwC z f g row∧gwC z f g row≤9:=by
  have:=Kh (z:=z) (f:=f) (g:=g) (row:=row)
  unfold gwC; split<;>omega
theorem wV (h:dI z f=true):gwC z f g row=0∧gwZ z f g row=z:=⟨if_pos h,if_pos h⟩
theorem ru (h:gt z f g row=false):gwC z f g row=0∧gwZ z f g row=z:=by
  unfold gwC gwZ; rw [(Ju h).1,(Ju h).2]
  constructor<;>split<;>rfl
theorem Dd (hd:dI z f=false) (h:gt z f g row=true):gwC z f g row=nxC z (gvR z f g row)∧gwZ z f g row=nxZ z (gvR z f g row):=by
  unfold gwC gwZ; rw [if_neg (by simp [hd]),if_neg (by simp [hd])]; exact Ks h
theorem Ey {r:Rec}(h:RecsOK z) (hr:¬ 1000000000<nxQ z→recF z.Shape (oy r (nxQ z))=0):RecsOK (nxZ z r):=by
  have h1:=CO (P:=fun r=>recF z.Shape r=0) h hr
  unfold RecsOK; rw [uo.1]; exact h1
theorem GvI.hyp (I:GvI z0 z) (hs:z0.Shape.ok=true) (hG:aR z0=true) (hf:ins f 0 (z0.Shape.Groups+z0.Shape.Column-1)=true):z.Shape.ok=true∧aR z=true∧ins f 0 (z.Shape.Groups+z.Shape.Column-1)=true:=
  ⟨by rw [I.sh]; exact hs,uT I.sh I.gr hG,by rw [I.sh]; exact hf⟩
theorem GvI.step (I:GvI z0 z) (hs:z0.Shape.ok=true) (hG:aR z0=true) (hw:z0.Writes≤1000000000) (hf:ins f 0 (z0.Shape.Groups+z0.Shape.Column-1)=true) (h:gwC z f g row=0):GvI z0 (gwZ z f g row):=by
  obtain ⟨hs',hG',hf'⟩:=I.hyp hs hG hf
  cases hd:dI z f with
  | true=>rw [(wV hd).2]; exact I
  | false=>
    cases hv:gt z f g row with
    | false=>rw [(ru hv).2]; exact I
    | true=>
      obtain ⟨e1,e2⟩:=Dd hd hv
      rw [e1] at h
      obtain ⟨q1,q2⟩:=HU h
      obtain ⟨x1,x2,x3,x4,x5⟩:=zS I.tp q2
      obtain ⟨s1,s2⟩:=tX hs' hG' hf' hd I.rc hv
      obtain ⟨n1,n2,n3,n4⟩:=D4 (r:=gvR z f g row) I.tp
      have hqb:=xp I.sq
      have hrc:=Ey (r:=gvR z f g row) I.rc fun c=>CS hs' hG' hf' hd I.rc hv ⟨ω,ω⟩
      have i1:=I.r0; have i2:=I.r1; have i3:=I.wr; have i4:=I.mw
      have hok:=JO (r:=gvR z f g row) I.ok ω
      have eZ:=(vr (z:=z) (r:=gvR z f g row) q1).2
      rw [e2]
      rw [← eZ] at x1 x2 x3
      exact ⟨uo.1.trans I.sh,uo.2.trans I.gr,n1,IT I.sq,hrc,(E8 h).trans I.dn,ω,ω,ω,ω,hok⟩
end
noncomputable def gaR (f g:Int):Nat→Nat→Wld→Int × Wld
  | 0,_,z=>(0,z)
  | n+1,j,z=>if gwC z f g j=0 then gaR f g n (j+1) (gwZ z f g j) else (gwC z f g j,gwZ z f g j)
noncomputable def gaG (f:Int) (m:Nat):Nat→Nat→Wld→Int × Wld
  | 0,_,z=>(0,z)
  | n+1,k,z=>if (gaR f k m 0 z).1=0 then gaG f m n (k+1) (gaR f k m 0 z).2 else gaR f k m 0 z
noncomputable def gaP (z:Wld) (f:Int):Int × Wld:=gaG f z.Shape.Rows.toNat (z.Shape.Groups+z.Shape.Column).toNat 0 z
section
variable {z z0:Wld}{f g row:Int}{n m j k:Nat}
theorem Jf (h:n=0):gaR f g n j z=(0,z):=by subst h; rfl
theorem Fb (hn:n=m+1) (h:gwC z f g j=0):gaR f g n j z=gaR f g m (j+1) (gwZ z f g j):=by subst hn; rw [gaR,if_pos h]
theorem Fp (hn:n=m+1) (h:gwC z f g j≠0):gaR f g n j z=(gwC z f g j,gwZ z f g j):=by subst hn; rw [gaR,if_neg h]
theorem Ip (h:n=0):gaG f m n k z=(0,z):=by subst h; rfl
theorem J8 {q:Nat}(hn:n=q+1) (h:(gaR f k m 0 z).1=0):gaG f m n k z=gaG f m q (k+1) (gaR f k m 0 z).2:=by subst hn; rw [gaG,if_pos h]
theorem FG {q:Nat}(hn:n=q+1) (h:(gaR f k m 0 z).1≠0):gaG f m n k z=gaR f k m 0 z:=by subst hn; rw [gaG,if_neg h]
theorem yQ (h:dI z f=true):∀ {n j},gaR f g n j z=(0,z)
  | 0,_=>rfl
  | n+1,j=>by rw [gaR,(wV h).1,(wV h).2,if_pos rfl]; exact yQ h
theorem zr (h:dI z f=true):∀ {n k},gaG f m n k z=(0,z)
  | 0,_=>rfl
  | n+1,k=>by rw [gaG,yQ h,if_pos rfl]; exact zr h
theorem Hf (h:dI z f=true):gaP z f=(0,z):=zr h
end
noncomputable def gaF (z:Wld) (f:Int):WldResult:=pU z (dD z f 0) (gaP z f).1 (gaP z f).2
section
variable {z:Wld}{f:Int}
theorem Fr {g:Int}:∀ {n j:Nat}{z:Wld},0≤(gaR f g n j z).1∧(gaR f g n j z).1≤9
  | 0,_,_=>⟨Int.le_refl _,show (0:Int)≤9 by decide⟩
  | n+1,j,z=>by
    rw [gaR]; split
    · exact Fr
    · exact J9
theorem G6 {m:Nat}:∀ {n k:Nat}{z:Wld},0≤(gaG f m n k z).1∧(gaG f m n k z).1≤9
  | 0,_,_=>⟨Int.le_refl _,show (0:Int)≤9 by decide⟩
  | n+1,k,z=>by
    rw [gaG]; split
    · exact G6
    · exact Fr
theorem xe:0≤(gaP z f).1∧(gaP z f).1≤9:=G6
end
end Go.Wk
namespace Go.Wk
section
theorem CN {acc:List Rec}:∀ {n:Nat}{b:List Rec},b.length=n→b.foldl ddR acc=acc++(dds b).filter (fun r => !decide (r∈acc))
  | 0,b,h=>by rw [List.eq_nil_of_length_eq_zero h]; simp [dds]
  | n+1,b,h=>by
    obtain ⟨c,x,rfl⟩:∃ c x,b=c++[x]:=⟨b.dropLast,b.getLast (by intro e; rw [e] at h; simp at h),(List.dropLast_concat_getLast _).symm⟩
    have hc:c.length=n:=by simpa using h
    have ih:=CN (acc:=acc) hc
    have e1:(c++[x]).foldl ddR acc=ddR (c.foldl ddR acc) x:=by rw [List.foldl_append]; rfl
    have e2:dds (c++[x])=ddR (dds c) x:=by unfold dds; rw [List.foldl_append]; rfl
    rw [e1,ih,e2]
    by_cases ha:x∈acc
    · rw [wR (List.mem_append_left _ ha)]
      unfold ddR; split
      · rfl
      · rw [List.filter_append,List.filter_cons_of_neg (by simp [ha]),List.filter_nil,List.append_nil]
    · by_cases hd:x∈dds c
      · rw [wR (out:=dds c) hd,wR (List.mem_append_right _ (List.mem_filter.2 ⟨hd,by simp [ha]⟩))]
      · rw [CY (out:=dds c) hd,CY (fun q=>(List.mem_append.1 q).elim ha fun q=>hd (List.mem_filter.1 q).1),List.filter_append,List.filter_cons_of_pos (by simp [ha]),List.filter_nil,List.append_assoc]
theorem IK {a b:List Rec}:dds (a++b)=dds a++(dds b).filter (fun r => !decide (r∈dds a)):=by
  have e:dds (a++b)=b.foldl ddR (dds a):=by unfold dds; rw [List.foldl_append]
  rw [e,CN rfl]
theorem zf:∀ {n:Nat}{b:List Rec},b.length=n→b.Nodup→dds b=b
  | 0,b,h,_=>by rw [List.eq_nil_of_length_eq_zero h]; rfl
  | n+1,b,h,hn=>by
    obtain ⟨c,x,rfl⟩:∃ c x,b=c++[x]:=⟨b.dropLast,b.getLast (by intro e; rw [e] at h; simp at h),(List.dropLast_concat_getLast _).symm⟩
    obtain ⟨n1,_,n3⟩:=List.nodup_append.1 hn
    have ih:=zf (show c.length=n by simpa using h) n1
    have e2:dds (c++[x])=ddR (dds c) x:=by unfold dds; rw [List.foldl_append]; rfl
    rw [e2,ih]
    exact CY fun q=>n3 x q x (List.mem_singleton.2 rfl) rfl
end
section
variable {z y:Wld}{r:Rec}{t:Nat}
theorem DU (hT:z.Tapes.length=2):z.Tapes=[z.Tapes.getD 0 default,z.Tapes.getD 1 default]:=by
  match h:z.Tapes,hT with
  | [a,b],_=>rfl
theorem Hi (hT:z.Tapes.length=2):allR z z.Tapes.length=(z.Tapes.getD 0 default).Recs++(z.Tapes.getD 1 default).Recs:=by
  unfold allR
  rw [List.take_length,DU hT]
  simp
end
end Go.Wk
namespace Go.Wk
open Rp (sz own)
structure TapeV where
  Wiped:Bool
  Recs:List RecV
instance:Rp TapeV:=Rp.via fun x=>(x.Wiped,x.Recs)
structure WldV where
  Shape:Shape
  Groups:List (List Drive)
  On:List Int
  Tapes:List TapeV
  Writes:Int
  Stop:Int
  Down:Bool
def WldV.Ok (x:WldV):Prop:=x.Shape.Ok∧I64ok x.Writes∧I64ok x.Stop
end Go.Wk
namespace Go.Wk
open Rp (sz own)
def OwnWV (w:World) (b:Nat) (T:TypeId) (z:WldV) (fp:List Nat):Prop:=
  ∃ A9 C9 A10 C10 A11 C11 f9 f10 f11,w.heap[b]? = some (.cells [.int .i64 z.Shape.Groups,.int .i64 z.Shape.Column,.int .i64 z.Shape.Data,.int .i64 z.Shape.Spare,.int .i64 z.Shape.Rows,.int .i64 z.Shape.Cap,.int .i64 z.Shape.Batch,.int .i64 z.Shape.Queue,.int .i64 z.Shape.Stage,.slice A9 z.Groups.length C9,.slice A10 z.On.length C10,.slice A11 z.Tapes.length C11,.int .i64 z.Writes,.int .i64 z.Stop,.bool z.Down].toArray T)∧own true w [.slice A9 z.Groups.length C9] z.Groups f9∧own true w [.slice A10 z.On.length C10] z.On f10∧own true w [.slice A11 z.Tapes.length C11] z.Tapes f11∧z.Ok∧fp=b::(f9++(f10++f11))
def MutWV (w w':World) (fp:List Nat) (b:Nat) (T:TypeId) (z:WldV):Prop:=
  Ext (· ∈ fp) w w'∧∃ fp',OwnWV w' b T z fp'∧fp'.Nodup∧∀ x∈fp',x∈fp∨w.heap.size≤x
end Go.Wk
namespace Go.Wk
open Rp (sz own)
def TapeV.t (x:TapeV):Tape:=⟨x.Wiped,x.Recs.map RecV.r⟩
def WldV.w (z:WldV):Wld:=⟨z.Shape,z.Groups,z.On,z.Tapes.map TapeV.t,z.Writes,z.Stop,z.Down⟩
section
variable {M:Nat→Prop}{w0 w w':World}{Δ F:List Rsc}{b:Nat}{T:TypeId}{z:Wld}{zv zv':WldV}{fp fv fq:List Nat}
def MutPV (w w':World) (fp:List Nat) (b:Nat) (T:TypeId) (z:WldV) (us:List RecV):Prop:=
  Ext (· ∈ fp) w w'∧∃ fp' fq,OwnWV w' b T z fp'∧Kx w' us fq∧(fp'++fq).Nodup∧∀ x∈fp'++fq,x∈fp∨w.heap.size≤x
end
end Go.Wk
namespace Go.Wk
open Rp (sz own)
def mkV (z:Wld) (ts:List TapeV):WldV:=⟨z.Shape,z.Groups,z.On,ts,z.Writes,z.Stop,z.Down⟩
def MutWT (ts:List TapeV) (w w':World) (fp:List Nat) (b:Nat) (T:TypeId) (z:Wld):Prop:=MutWV w w' fp b T (mkV z ts)
def MutPT (ts:List TapeV) (w w':World) (fp:List Nat) (b:Nat) (T:TypeId) (z:Wld) (us:List RecV):Prop:=MutPV w w' fp b T (mkV z ts) us
section
variable {M:Nat→Prop}{w0 w w' w1 w2:World}{Δ F:List Rsc}{b:Nat}{T:TypeId}{z z':Wld}{zv:WldV}{ts ts':List TapeV}{fp fp1 fq:List Nat}
theorem GN (h1:zv.w=z) (h2:zv.Tapes=ts):zv=mkV z ts:=by subst h1; subst h2; rfl
theorem MutWV.t (h:MutWV w w' fp b T zv) (h1:zv.w=z) (h2:zv.Tapes=ts):MutWT ts w w' fp b T z:=by
  rw [GN h1 h2] at h; exact h
theorem MutPV.t {us:List RecV}(h:MutPV w w' fp b T zv us) (h1:zv.w=z) (h2:zv.Tapes=ts):MutPT ts w w' fp b T z us:=by
  rw [GN h1 h2] at h; exact h
end
end Go.Wk
namespace Go.Wk
open Rp (sz own)
section
variable {M:Nat→Prop}{w0 w:World}{Δ F:List Rsc}{α:Type}[Rp α]
theorem rL {β:Type}(L:List β) (i j:Nat) (h:i≠j) (a b c:β):((L.set i a).set j b).set i c=(L.set j b).set i c:=by
  rw [List.set_comm _ _ h,List.set_set]
end
end Go.Wk
namespace Go.Wk
open Rp (sz own)
section
variable {M:Nat→Prop}{w0 w w1 w2 w':World}{Δ F:List Rsc}
theorem Sep.s2Hol {α:Type}[Rp α] (h:Sep M w0 Δ F w) {i j:Nat}(hx:h.S2 i j w1) (k:Nat) {ad:Option Addr}{n cap kk b off:Nat}{xs:List α}{T:TypeId}{ck:List Value}{f1 f2:List Nat}(hk:Δ[k]? = some (hol ad n cap xs kk b off T ck f1 f2)) {ri rj:Rsc}(hi:Δ[i]? = some ri) (hj:Δ[j]? = some rj) (d1:Nat.beq k i=false) (d2:Nat.beq k j=false):At w1 b off ck:=
  Ext.atM hx (fun hm=>by
    rcases hm with hm | hm
    · rw [ig hi] at hm; exact h.apart (i:=i) (j:=k) hi hk d1 b (by simp [hol]) hm
    · rw [ig hj] at hm; exact h.apart (i:=j) (j:=k) hj hk d2 b (by simp [hol]) hm) (h.holAt k hk)
end
end Go.Wk
namespace Go.Wk
open Rp (sz own)
def qf {α:Type}[Rp α] (b:Nat) (T:TypeId) (x:α) (fp:List Nat):Rsc:=
  ⟨fp,fun w=>∃ cs f,w.heap[b]? = some (.cells (List.toArray cs) T)∧own true w cs x f∧fp=b::f,
   fun h k=>by
    obtain ⟨cs,f,h1,h2,h3⟩:=h
    subst h3
    exact ⟨cs,f,(k b σ).trans h1,Rp.st h2 fun c hc=>k c (by simp [hc]),rfl⟩,
   fun h c hc=>by
    obtain ⟨cs,f,h1,h2,h3⟩:=h
    subst h3
    rcases List.mem_cons.1 hc with rfl | hc
    · exact (Array.getElem?_eq_some_iff.1 h1).1
    · exact Rp.lt h2 c hc⟩
section
variable {M:Nat→Prop}{w0 w w':World}{Δ F:List Rsc}{α:Type}[Rp α]
theorem Jn {b:Nat}{f1 f2 f3:List Nat}:(b::(f1++(f2++f3))).Perm ((([b]++f3)++f2)++f1):=by
  have h1:(f1++(f2++f3)).Perm ((f3++f2)++f1):=List.perm_append_comm.trans (List.perm_append_comm.append_right f1)
  have h2:=h1.cons b
  simpa using h2
theorem Sep.close3 {β γ δ:Type}[Rp β] [Rp γ] [Rp δ] {x:α}(h:Sep M w0 Δ F w) (i j1 j2 j3:Nat) {b:Nat}{cs c1 c2 c3:List Value}{T:TypeId}{x1:β}{x2:γ}{x3:δ}{f1 f2 f3:List Nat}(hi:Δ[i]? = some (Wk.box b (.cells cs.toArray T)))
    (h1:Δ[j1]? = some (Wk.mine c1 x1 f1)) (h2:Δ[j2]? = some (Wk.mine c2 x2 f2)) (h3:Δ[j3]? = some (Wk.mine c3 x3 f3))
    (d1:Nat.beq j1 i=false) (d2:Nat.beq j2 i=false) (d3:Nat.beq j3 i=false) (d4:Nat.beq j2 j1=false) (d5:Nat.beq j3 j1=false) (d6:Nat.beq j3 j2=false)
    (ho:∀ w,own true w c1 x1 f1→own true w c2 x2 f2→own true w c3 x3 f3→own true w cs x (f1++(f2++f3))) :
    ∃ fp,Sep M w0 ((((Δ.set j3 gone).set j2 gone).set j1 gone).set i (qf b T x fp)) F w:=by
  have ne1:i≠j1:=fun e=>by subst e; simp at d1
  have ne2:i≠j2:=fun e=>by subst e; simp at d2
  have ne3:i≠j3:=fun e=>by subst e; simp at d3
  have ne4:j2≠j1:=fun e=>by subst e; simp at d4
  have ne5:j3≠j1:=fun e=>by subst e; simp at d5
  have ne6:j3≠j2:=fun e=>by subst e; simp at d6
  have hil:i<Δ.length:=(List.getElem?_eq_some_iff.1 hi).1
  have H1:=h.join2 i j3 hi h3 d3
  have g2:((Δ.set j3 gone).set i (cat (Wk.box b (.cells cs.toArray T)) (Wk.mine c3 x3 f3)))[j2]? = some (Wk.mine c2 x2 f2):=by
    rw [List.getElem?_set_ne ne2,List.getElem?_set_ne ne6]; exact h2
  have gi:((Δ.set j3 gone).set i (cat (Wk.box b (.cells cs.toArray T)) (Wk.mine c3 x3 f3)))[i]? = some (cat (Wk.box b (.cells cs.toArray T)) (Wk.mine c3 x3 f3)):=List.getElem?_set_self (by simpa using hil)
  have H2:=H1.join2 i j2 gi g2 d2
  rw [rL _ i j2 ne2] at H2
  have g3:(((Δ.set j3 gone).set j2 gone).set i (cat (cat (Wk.box b (.cells cs.toArray T)) (Wk.mine c3 x3 f3)) (Wk.mine c2 x2 f2)))[j1]? = some (Wk.mine c1 x1 f1):=by
    rw [List.getElem?_set_ne ne1,List.getElem?_set_ne ne4,List.getElem?_set_ne ne5]; exact h1
  have gi2:(((Δ.set j3 gone).set j2 gone).set i (cat (cat (Wk.box b (.cells cs.toArray T)) (Wk.mine c3 x3 f3)) (Wk.mine c2 x2 f2)))[i]? = some (cat (cat (Wk.box b (.cells cs.toArray T)) (Wk.mine c3 x3 f3)) (Wk.mine c2 x2 f2)):=List.getElem?_set_self (by simpa using hil)
  have H3:=H2.join2 i j1 gi2 g3 d1
  rw [rL _ i j1 ne1] at H3
  have gi3:((((Δ.set j3 gone).set j2 gone).set j1 gone).set i (cat (cat (cat (Wk.box b (.cells cs.toArray T)) (Wk.mine c3 x3 f3)) (Wk.mine c2 x2 f2)) (Wk.mine c1 x1 f1)))[i]? = some (cat (cat (cat (Wk.box b (.cells cs.toArray T)) (Wk.mine c3 x3 f3)) (Wk.mine c2 x2 f2)) (Wk.mine c1 x1 f1)):=List.getElem?_set_self (by simpa using hil)
  have hφ:(cat (cat (cat (Wk.box b (.cells cs.toArray T)) (Wk.mine c3 x3 f3)) (Wk.mine c2 x2 f2)) (Wk.mine c1 x1 f1)).φ w:=H3.r i gi3
  have hn:=H3.nodup1 gi3
  obtain ⟨⟨⟨q0,q3⟩,q2⟩,q1⟩:=hφ
  have H4:=H3.conv i (qf b T x (b::(f1++(f2++f3)))) gi3 ⟨cs,_,q0,ho w q1 q2 q3,rfl⟩ (fun c hc=>Jn.mem_iff.1 hc) (Jn.nodup_iff.2 hn)
  rw [List.set_set] at H4
  exact ⟨_,H4⟩
theorem Sep.open3 {x:α}{fp:List Nat}{b:Nat}{T:TypeId}(h:Sep M w0 Δ F w) (i:Nat) (hi:Δ[i]? = some (qf b T x fp)) :
    ∃ cs f,own true w cs x f∧Sep M w0 (Δ.set i (Wk.box b (.cells (List.toArray cs) T))++[gone,Wk.mine cs x f]) F w:=by
  have hφ:(qf b T x fp).φ w:=h.r i hi
  obtain ⟨cs,f,h1,h2,h3⟩:=hφ
  have hn:fp.Nodup:=h.nodup1 hi
  have hil:i<Δ.length:=(List.getElem?_eq_some_iff.1 hi).1
  subst h3
  have o':(Wk.box b (.cells cs.toArray T)).φ w:=h1
  have p':(Wk.mine cs x f).φ w:=h2
  have H1:=h.conv i (cat (Wk.box b (.cells cs.toArray T)) (Wk.mine cs x f)) hi ⟨o',p'⟩ (fun c hc=>hc) hn
  have H2:=H1.part i (r:=cat (Wk.box b (.cells cs.toArray T)) (Wk.mine cs x f)) (List.getElem?_set_self hil) [Wk.box b (.cells cs.toArray T),Wk.mine cs x f] (all_cons o' (all_cons p' σ)) (by simp [blocks,cat])
  have H3:=H2.perm (lP (by simpa using hil))
  rw [List.set_set] at H3
  exact ⟨cs,f,h2,H3⟩
end
def Shape.few (x:Shape):Prop := -5≤x.Groups∧x.Groups≤500 ∧ -5≤x.Column∧x.Column≤500 ∧ -5≤x.Data∧x.Data≤500 ∧ -5≤x.Spare∧x.Spare≤500 ∧ -5≤x.Rows∧x.Rows≤500 ∧ -5≤x.Cap∧x.Cap≤500 ∧ -5≤x.Batch∧x.Batch≤500 ∧ -5≤x.Queue∧x.Queue≤500 ∧ -5≤x.Stage∧x.Stage≤500
theorem Du {x:Shape}(h1:1≤x.Groups∧x.Groups≤4) (h2:0≤x.Column∧x.Column≤2) (h3:1≤x.Data∧x.Data≤3) (h4:0≤x.Spare∧x.Spare≤2) (h5:1≤x.Rows∧x.Rows≤6) (h6:1≤x.Cap∧x.Cap≤6) (h7:1≤x.Batch∧x.Batch≤4) (h8:1≤x.Queue∧x.Queue≤6) (h9:0≤x.Stage∧x.Stage≤400):x.ok=true:=by
  unfold Shape.ok cOK rOK ins
  simp [h1.1,h1.2,h2.1,h2.2,h3.1,h3.2,h4.1,h4.2,h5.1,h5.2,h6.1,h6.2,h7.1,h7.2,h8.1,h8.2,h9.1,h9.2]
theorem fb {x:Shape}(h:x.ok=true):x.few:=by
  have:=aL h
  unfold Shape.few; omega
theorem G9 {x:Shape}(h:x.few):x.Ok:=by
  unfold Shape.few at h
  unfold Shape.Ok I64ok; omega
def Rec.few (r:Rec):Prop:=r.Name.size≤9∧r.Rows.length≤20∧r.Data.length≤40∧r.Delta.length≤40 ∧ -100≤r.Kind∧r.Kind≤100 ∧ -100≤r.Seq∧r.Seq≤2000000000 ∧ -100≤r.Length∧r.Length≤2000 ∧ -100≤r.Group∧r.Group≤2000 ∧ -100≤r.Row∧r.Row≤2000
end Go.Wk
namespace Go.Wk
open Go.Proofs Rp Go.Proofs.Tryz
set_option maxRecDepth 10000
theorem qb {w:World}{code:List UInt8}{cA:Option Addr}{cC b:Nat}{cF:List Nat}{ct:Int}(hb:w.heap[b]? = some (.cells [.slice cA code.length cC,.int .i64 ct].toArray 114)) (cO:own false w [.slice cA code.length cC] code cF) (hd:∀ x∈cF,x≠b) (hct:0≤ct∧ct≤700000) (hcl:code.length≤1048576):Ret Tryz.prog 92 #[.pointer (some ⟨b,0,none⟩)] w fun v w'=>(∃ ct':Int,(ct≤ct'∧ct'≤ct+9)∧BoxTo w w' b (.cells [.slice cA code.length cC,.int .i64 ct'].toArray 114)∧∃ x:Shape,v=x.v∧x.ok=true):=by
 refine aH func92 Z ntmps92 Z (fun Q hQ hN=>?_);have H0:=(Sep.beginBox hb).look (r:=seen false [.slice cA code.length cC] code cF) cO (fun x hx hm=>hd x hx (by simpa [blocks,Wk.box] using hm));refine ab (bH ah Z zeroValue25 H0 (fun b1 w1 e1 g1 H1=>aa (ab (sM Z Z (fI ([2,3,1,4]) ah Z bv bG Z Z (by intro x hx; unfold I64ok; simp only [List.mem_cons,List.not_mem_nil,or_false] at hx; omega) σ σ H1 (fun b2 w2 e2 g2 H2=>sC func45 cR Z (bp (H2.box 0 Z) (aC (H2.seen 0 Z)) (H2.offb 0 Z 0 Z) ω ω (aC (H2.mine 2 Z)) (fun x hx e=>H2.apart (i:=0) (j:=2) Z Z Z x hx (by simp [Wk.box,e])) σ) (fun v1 w3 r1=>?_)))))));obtain ⟨⟨e3,hb1⟩,nx1,rfl,ny1⟩:=r1;have H3:=H2.putBox 0 Z e3 hb1
 try dsimp only[lNA,lCA,lSZ,lSS] at H3
 try simp only [List.mem_cons,List.not_mem_nil,or_false] at ny1
 have H3g:=H3.conv 2 gone Z trivial (by simp [gone]) (by simp [gone])
 try dsimp only[lNA,lCA,lSZ,lSS] at H3g
 have ny1B:1≤nx1∧nx1≤4:=by omega
 clear ny1
 refine sM Z Z (fI ([1,2,1,0]) ah Z bv bG Z Z (by intro x hx; unfold I64ok; simp only [List.mem_cons,List.not_mem_nil,or_false] at hx; omega) σ σ H3g (fun b3 w4 e4 g3 H4=>sC func45 cR Z (bp (H4.box 0 Z) (aC (H4.seen 0 Z)) (H4.offb 0 Z 0 Z) ω ω (aC (H4.mine 3 Z)) (fun x hx e=>H4.apart (i:=0) (j:=3) Z Z Z x hx (by simp [Wk.box,e])) σ) (fun v2 w5 r2=>?_)));obtain ⟨⟨e5,hb2⟩,nx2,rfl,ny2⟩:=r2;have H5:=H4.putBox 0 Z e5 hb2
 try dsimp only[lNA,lCA,lSZ,lSS] at H5
 try simp only [List.mem_cons,List.not_mem_nil,or_false] at ny2
 have H5g:=H5.conv 3 gone Z trivial (by simp [gone]) (by simp [gone])
 try dsimp only[lNA,lCA,lSZ,lSS] at H5g
 have ny2B:0≤nx2∧nx2≤2:=by omega
 clear ny2
 refine sM Z Z (fI ([2,1,3]) ah Z bv bG Z Z (by intro x hx; unfold I64ok; simp only [List.mem_cons,List.not_mem_nil,or_false] at hx; omega) σ σ H5g (fun b4 w6 e6 g4 H6=>sC func45 cR Z (bp (H6.box 0 Z) (aC (H6.seen 0 Z)) (H6.offb 0 Z 0 Z) ω ω (aC (H6.mine 4 Z)) (fun x hx e=>H6.apart (i:=0) (j:=4) Z Z Z x hx (by simp [Wk.box,e])) σ) (fun v3 w7 r3=>?_)));obtain ⟨⟨e7,hb3⟩,nx3,rfl,ny3⟩:=r3;have H7:=H6.putBox 0 Z e7 hb3
 try dsimp only[lNA,lCA,lSZ,lSS] at H7
 try simp only [List.mem_cons,List.not_mem_nil,or_false] at ny3
 have H7g:=H7.conv 4 gone Z trivial (by simp [gone]) (by simp [gone])
 try dsimp only[lNA,lCA,lSZ,lSS] at H7g
 have ny3B:1≤nx3∧nx3≤3:=by omega
 clear ny3
 refine sM Z Z (fI ([1,0,2]) ah Z bv bG Z Z (by intro x hx; unfold I64ok; simp only [List.mem_cons,List.not_mem_nil,or_false] at hx; omega) σ σ H7g (fun b5 w8 e8 g5 H8=>sC func45 cR Z (bp (H8.box 0 Z) (aC (H8.seen 0 Z)) (H8.offb 0 Z 0 Z) ω ω (aC (H8.mine 5 Z)) (fun x hx e=>H8.apart (i:=0) (j:=5) Z Z Z x hx (by simp [Wk.box,e])) σ) (fun v4 w9 r4=>?_)));obtain ⟨⟨e9,hb4⟩,nx4,rfl,ny4⟩:=r4;have H9:=H8.putBox 0 Z e9 hb4
 try dsimp only[lNA,lCA,lSZ,lSS] at H9
 try simp only [List.mem_cons,List.not_mem_nil,or_false] at ny4
 have H9g:=H9.conv 5 gone Z trivial (by simp [gone]) (by simp [gone])
 try dsimp only[lNA,lCA,lSZ,lSS] at H9g
 have ny4B:0≤nx4∧nx4≤2:=by omega
 clear ny4
 refine sM Z Z (fI ([2,3,4]) ah Z bv bG Z Z (by intro x hx; unfold I64ok; simp only [List.mem_cons,List.not_mem_nil,or_false] at hx; omega) σ σ H9g (fun b6 w10 e10 g6 H10=>sC func45 cR Z (bp (H10.box 0 Z) (aC (H10.seen 0 Z)) (H10.offb 0 Z 0 Z) ω ω (aC (H10.mine 6 Z)) (fun x hx e=>H10.apart (i:=0) (j:=6) Z Z Z x hx (by simp [Wk.box,e])) σ) (fun v5 w11 r5=>?_)));obtain ⟨⟨e11,hb5⟩,nx5,rfl,ny5⟩:=r5;have H11:=H10.putBox 0 Z e11 hb5
 try dsimp only[lNA,lCA,lSZ,lSS] at H11
 try simp only [List.mem_cons,List.not_mem_nil,or_false] at ny5
 have H11g:=H11.conv 6 gone Z trivial (by simp [gone]) (by simp [gone])
 try dsimp only[lNA,lCA,lSZ,lSS] at H11g
 have ny5B:2≤nx5∧nx5≤4:=by omega
 clear ny5
 refine sM Z Z (fI ([1,2,3]) ah Z bv bG Z Z (by intro x hx; unfold I64ok; simp only [List.mem_cons,List.not_mem_nil,or_false] at hx; omega) σ σ H11g (fun b7 w12 e12 g7 H12=>sC func45 cR Z (bp (H12.box 0 Z) (aC (H12.seen 0 Z)) (H12.offb 0 Z 0 Z) ω ω (aC (H12.mine 7 Z)) (fun x hx e=>H12.apart (i:=0) (j:=7) Z Z Z x hx (by simp [Wk.box,e])) σ) (fun v6 w13 r6=>?_)));obtain ⟨⟨e13,hb6⟩,nx6,rfl,ny6⟩:=r6;have H13:=H12.putBox 0 Z e13 hb6
 try dsimp only[lNA,lCA,lSZ,lSS] at H13
 try simp only [List.mem_cons,List.not_mem_nil,or_false] at ny6
 have H13g:=H13.conv 7 gone Z trivial (by simp [gone]) (by simp [gone])
 try dsimp only[lNA,lCA,lSZ,lSS] at H13g
 have ny6B:1≤nx6∧nx6≤3:=by omega
 clear ny6
 refine sM Z Z (fI ([1,2]) ah Z bv bG Z Z (by intro x hx; unfold I64ok; simp only [List.mem_cons,List.not_mem_nil,or_false] at hx; omega) σ σ H13g (fun b8 w14 e14 g8 H14=>sC func45 cR Z (bp (H14.box 0 Z) (aC (H14.seen 0 Z)) (H14.offb 0 Z 0 Z) ω ω (aC (H14.mine 8 Z)) (fun x hx e=>H14.apart (i:=0) (j:=8) Z Z Z x hx (by simp [Wk.box,e])) σ) (fun v7 w15 r7=>?_)));obtain ⟨⟨e15,hb7⟩,nx7,rfl,ny7⟩:=r7;have H15:=H14.putBox 0 Z e15 hb7
 try dsimp only[lNA,lCA,lSZ,lSS] at H15
 try simp only [List.mem_cons,List.not_mem_nil,or_false] at ny7
 have H15g:=H15.conv 8 gone Z trivial (by simp [gone]) (by simp [gone])
 try dsimp only[lNA,lCA,lSZ,lSS] at H15g
 have ny7B:1≤nx7∧nx7≤2:=by omega
 clear ny7
 refine sM Z Z (fI ([1,2,3]) ah Z bv bG Z Z (by intro x hx; unfold I64ok; simp only [List.mem_cons,List.not_mem_nil,or_false] at hx; omega) σ σ H15g (fun b9 w16 e16 g9 H16=>sC func45 cR Z (bp (H16.box 0 Z) (aC (H16.seen 0 Z)) (H16.offb 0 Z 0 Z) ω ω (aC (H16.mine 9 Z)) (fun x hx e=>H16.apart (i:=0) (j:=9) Z Z Z x hx (by simp [Wk.box,e])) σ) (fun v8 w17 r8=>?_)));obtain ⟨⟨e17,hb8⟩,nx8,rfl,ny8⟩:=r8;have H17:=H16.putBox 0 Z e17 hb8
 try dsimp only[lNA,lCA,lSZ,lSS] at H17
 try simp only [List.mem_cons,List.not_mem_nil,or_false] at ny8
 have H17g:=H17.conv 9 gone Z trivial (by simp [gone]) (by simp [gone])
 try dsimp only[lNA,lCA,lSZ,lSS] at H17g
 have ny8B:1≤nx8∧nx8≤3:=by omega
 clear ny8
 refine sM Z Z (fI ([60,20,100,400]) ah Z bv bG Z Z (by intro x hx; unfold I64ok; simp only [List.mem_cons,List.not_mem_nil,or_false] at hx; omega) σ σ H17g (fun b10 w18 e18 g10 H18=>sC func45 cR Z (bp (H18.box 0 Z) (aC (H18.seen 0 Z)) (H18.offb 0 Z 0 Z) ω ω (aC (H18.mine 10 Z)) (fun x hx e=>H18.apart (i:=0) (j:=10) Z Z Z x hx (by simp [Wk.box,e])) σ) (fun v9 w19 r9=>?_)));obtain ⟨⟨e19,hb9⟩,nx9,rfl,ny9⟩:=r9;have H19:=H18.putBox 0 Z e19 hb9
 try dsimp only[lNA,lCA,lSZ,lSS] at H19
 try simp only [List.mem_cons,List.not_mem_nil,or_false] at ny9
 have H19g:=H19.conv 10 gone Z trivial (by simp [gone]) (by simp [gone])
 try dsimp only[lNA,lCA,lSZ,lSS] at H19g
 have ny9B:20≤nx9∧nx9≤400:=by omega
 clear ny9
 refine sV Z (aM (cs:=[.int .i64 nx1,.int .i64 nx2,.int .i64 nx3,.int .i64 nx4,.int .i64 nx5,.int .i64 nx6,.int .i64 nx7,.int .i64 nx8,.int .i64 nx9]) DP Z κ) (aG ah br Z Z Z Z H19g 1 Z Z (fun w20 e20 H20=>?_));dsimp only[lNA,lCA,lSZ,lSS,aI] at H20;refine aa (bc (hQ _ _ (cr results92 Z (az be Z br Z (At.whole (H20.box 1 Z))) ?_)));exact ⟨_,ω,⟨H20.ext,H20.box 0 Z⟩,⟨nx1,nx2,nx3,nx4,nx5,nx6,nx7,nx8,nx9⟩,Z,Du θ θ θ θ θ θ θ θ θ⟩
set_option maxHeartbeats 4000000 in
theorem qz {w:World}{code:List UInt8}{cA:Option Addr}{cC b:Nat}{cF:List Nat}{ct:Int}(hb:w.heap[b]? = some (.cells [.slice cA code.length cC,.int .i64 ct].toArray 114)) (cO:own false w [.slice cA code.length cC] code cF) (hd:∀ x∈cF,x≠b) (hct:0≤ct∧ct≤690000) (hcl:code.length≤1048576):Ret Tryz.prog 33 #[.pointer (some ⟨b,0,none⟩)] w fun v w'=>(∃ ct':Int,(ct≤ct'∧ct'≤ct+11)∧BoxTo w w' b (.cells [.slice cA code.length cC,.int .i64 ct'].toArray 114)∧∃ x:Shape,v=x.v∧x.few):=by
 refine aH func33 Z ntmps33 Z (fun Q hQ hN=>?_);have H0:=(Sep.beginBox hb).look (r:=seen false [.slice cA code.length cC] code cF) cO (fun x hx hm=>hd x hx (by simpa [blocks,Wk.box] using hm));refine ab (bH ah Z zeroValue25 H0 (fun b1 w1 e1 g1 H1=>aa (ab (sM Z Z (sC func92 Ea Z (qb (H1.box 0 Z) (aC (H1.seen 0 Z)) (H1.offb 0 Z 0 Z) ω ω) (fun v1 w2 r1=>?_))))));obtain ⟨ct1,cb1,⟨e3,hb1⟩,sh1,rfl,hsh1⟩:=r1;have H2:=H1.putBox 0 Z e3 hb1
 try dsimp only[lNA,lCA,lSZ,lSS] at H2
 refine bH ah Z zeroValue25 H2 (fun b2 w3 e4 g2 H3=>aG ah br Z Z Z Z H3 2 Z Z (fun w4 e5 H4=>?_));dsimp only[lNA,lCA,lSZ,lSS,aI] at H4;refine aa (ac (ab (sM Z Z (sC func46 vt Z (lD (H4.box 0 Z) (aC (H4.seen 0 Z)) (H4.offb 0 Z 0 Z) ω ω ω) (fun v2 w5 r2=>?_)))));obtain ⟨⟨e6,hb2⟩,nx1,rfl,ny1⟩:=r2;have H5:=H4.putBox 0 Z e6 hb2
 try dsimp only[lNA,lCA,lSZ,lSS] at H5
 try simp only [List.mem_cons,List.not_mem_nil,or_false] at ny1
 refine aa (ay (ab (sR 2 Z (aa (aD Z (fun c1=>?_) (fun c1=>?_))))))
 ·refine an (sM Z Z (fI ([0,5]) ah Z bv bG Z Z (by intro x hx; unfold I64ok; simp only [List.mem_cons,List.not_mem_nil,or_false] at hx; omega) σ σ H5 (fun b3 w6 e7 g3 H6=>sC func45 cR Z (bp (H6.box 0 Z) (aC (H6.seen 0 Z)) (H6.offb 0 Z 0 Z) ω ω (aC (H6.mine 3 Z)) (fun x hx e=>H6.apart (i:=0) (j:=3) Z Z Z x hx (by simp [Wk.box,e])) σ) (fun v3 w7 r3=>?_))));obtain ⟨⟨e8,hb3⟩,nx2,rfl,ny2⟩:=r3;have H7:=H6.putBox 0 Z e8 hb3
  try dsimp only[lNA,lCA,lSZ,lSS] at H7
  try simp only [List.mem_cons,List.not_mem_nil,or_false] at ny2
  have H7g:=H7.conv 3 gone Z trivial (by simp [gone]) (by simp [gone])
  try dsimp only[lNA,lCA,lSZ,lSS] at H7g
  have ny2B:0≤nx2∧nx2≤5:=by omega
  clear ny2
  refine sF be Z ts2 (eH ah ts2 Z Z Z H7g 2 Z Z (fun w8 e9 H8=>?_));dsimp only[lNA,lCA,lSZ,lSS,aI] at H8;refine aa (ab (sV Z (ak be Z br Z Z (At.whole (H8.box 2 Z))) (aG ah br Z Z Z Z H8 1 Z Z (fun w9 e10 H9=>?_))));dsimp only[lNA,lCA,lSZ,lSS,aI] at H9;refine aa (bc (hQ _ _ (cr results33 Z (az be Z br Z (At.whole (H9.box 1 Z))) ?_)));have sfw:=fb hsh1;unfold Shape.few at sfw;exact ⟨_,ω,⟨H9.ext,H9.box 0 Z⟩,⟨nx2,sh1.Column,sh1.Data,sh1.Spare,sh1.Rows,sh1.Cap,sh1.Batch,sh1.Queue,sh1.Stage⟩,Z,by unfold Shape.few; dsimp only; omega⟩
 ·refine ab (sR 2 Z (aa (aD Z (fun c2=>?_) (fun c2=>?_))))
  ·refine an (sM Z Z (fI ([-1,3]) ah Z bv bG Z Z (by intro x hx; unfold I64ok; simp only [List.mem_cons,List.not_mem_nil,or_false] at hx; omega) σ σ H5 (fun b4 w10 e11 g4 H10=>sC func45 cR Z (bp (H10.box 0 Z) (aC (H10.seen 0 Z)) (H10.offb 0 Z 0 Z) ω ω (aC (H10.mine 3 Z)) (fun x hx e=>H10.apart (i:=0) (j:=3) Z Z Z x hx (by simp [Wk.box,e])) σ) (fun v4 w11 r4=>?_))));obtain ⟨⟨e12,hb4⟩,nx3,rfl,ny3⟩:=r4;have H11:=H10.putBox 0 Z e12 hb4
   try dsimp only[lNA,lCA,lSZ,lSS] at H11
   try simp only [List.mem_cons,List.not_mem_nil,or_false] at ny3
   have H11g:=H11.conv 3 gone Z trivial (by simp [gone]) (by simp [gone])
   try dsimp only[lNA,lCA,lSZ,lSS] at H11g
   have ny3B : -1≤nx3∧nx3≤3:=by omega
   clear ny3
   refine sF be Z ts2 (eH ah ts2 Z Z Z H11g 2 Z Z (fun w12 e13 H12=>?_));dsimp only[lNA,lCA,lSZ,lSS,aI] at H12;refine aa (ab (sV Z (ak be Z br Z Z (At.whole (H12.box 2 Z))) (aG ah br Z Z Z Z H12 1 Z Z (fun w13 e14 H13=>?_))));dsimp only[lNA,lCA,lSZ,lSS,aI] at H13;refine aa (bc (hQ _ _ (cr results33 Z (az be Z br Z (At.whole (H13.box 1 Z))) ?_)));have sfw:=fb hsh1;unfold Shape.few at sfw;exact ⟨_,ω,⟨H13.ext,H13.box 0 Z⟩,⟨sh1.Groups,nx3,sh1.Data,sh1.Spare,sh1.Rows,sh1.Cap,sh1.Batch,sh1.Queue,sh1.Stage⟩,Z,by unfold Shape.few; dsimp only; omega⟩
  ·refine ab (sR 2 Z (aa (aD Z (fun c3=>?_) (fun c3=>?_))))
   ·refine an (sM Z Z (fI ([0,4]) ah Z bv bG Z Z (by intro x hx; unfold I64ok; simp only [List.mem_cons,List.not_mem_nil,or_false] at hx; omega) σ σ H5 (fun b5 w14 e15 g5 H14=>sC func45 cR Z (bp (H14.box 0 Z) (aC (H14.seen 0 Z)) (H14.offb 0 Z 0 Z) ω ω (aC (H14.mine 3 Z)) (fun x hx e=>H14.apart (i:=0) (j:=3) Z Z Z x hx (by simp [Wk.box,e])) σ) (fun v5 w15 r5=>?_))));obtain ⟨⟨e16,hb5⟩,nx4,rfl,ny4⟩:=r5;have H15:=H14.putBox 0 Z e16 hb5
    try dsimp only[lNA,lCA,lSZ,lSS] at H15
    try simp only [List.mem_cons,List.not_mem_nil,or_false] at ny4
    have H15g:=H15.conv 3 gone Z trivial (by simp [gone]) (by simp [gone])
    try dsimp only[lNA,lCA,lSZ,lSS] at H15g
    have ny4B:0≤nx4∧nx4≤4:=by omega
    clear ny4
    refine sF be Z ts2 (eH ah ts2 Z Z Z H15g 2 Z Z (fun w16 e17 H16=>?_));dsimp only[lNA,lCA,lSZ,lSS,aI] at H16;refine aa (ab (sV Z (ak be Z br Z Z (At.whole (H16.box 2 Z))) (aG ah br Z Z Z Z H16 1 Z Z (fun w17 e18 H17=>?_))));dsimp only[lNA,lCA,lSZ,lSS,aI] at H17;refine aa (bc (hQ _ _ (cr results33 Z (az be Z br Z (At.whole (H17.box 1 Z))) ?_)));have sfw:=fb hsh1;unfold Shape.few at sfw;exact ⟨_,ω,⟨H17.ext,H17.box 0 Z⟩,⟨sh1.Groups,sh1.Column,nx4,sh1.Spare,sh1.Rows,sh1.Cap,sh1.Batch,sh1.Queue,sh1.Stage⟩,Z,by unfold Shape.few; dsimp only; omega⟩
   ·refine ab (sR 2 Z (aa (aD Z (fun c4=>?_) (fun c4=>?_))))
    ·refine an (sM Z Z (fI ([-1,3]) ah Z bv bG Z Z (by intro x hx; unfold I64ok; simp only [List.mem_cons,List.not_mem_nil,or_false] at hx; omega) σ σ H5 (fun b6 w18 e19 g6 H18=>sC func45 cR Z (bp (H18.box 0 Z) (aC (H18.seen 0 Z)) (H18.offb 0 Z 0 Z) ω ω (aC (H18.mine 3 Z)) (fun x hx e=>H18.apart (i:=0) (j:=3) Z Z Z x hx (by simp [Wk.box,e])) σ) (fun v6 w19 r6=>?_))));obtain ⟨⟨e20,hb6⟩,nx5,rfl,ny5⟩:=r6;have H19:=H18.putBox 0 Z e20 hb6
     try dsimp only[lNA,lCA,lSZ,lSS] at H19
     try simp only [List.mem_cons,List.not_mem_nil,or_false] at ny5
     have H19g:=H19.conv 3 gone Z trivial (by simp [gone]) (by simp [gone])
     try dsimp only[lNA,lCA,lSZ,lSS] at H19g
     have ny5B : -1≤nx5∧nx5≤3:=by omega
     clear ny5
     refine sF be Z ts2 (eH ah ts2 Z Z Z H19g 2 Z Z (fun w20 e21 H20=>?_));dsimp only[lNA,lCA,lSZ,lSS,aI] at H20;refine aa (ab (sV Z (ak be Z br Z Z (At.whole (H20.box 2 Z))) (aG ah br Z Z Z Z H20 1 Z Z (fun w21 e22 H21=>?_))));dsimp only[lNA,lCA,lSZ,lSS,aI] at H21;refine aa (bc (hQ _ _ (cr results33 Z (az be Z br Z (At.whole (H21.box 1 Z))) ?_)));have sfw:=fb hsh1;unfold Shape.few at sfw;exact ⟨_,ω,⟨H21.ext,H21.box 0 Z⟩,⟨sh1.Groups,sh1.Column,sh1.Data,nx5,sh1.Rows,sh1.Cap,sh1.Batch,sh1.Queue,sh1.Stage⟩,Z,by unfold Shape.few; dsimp only; omega⟩
    ·refine ab (sR 2 Z (aa (aD Z (fun c5=>?_) (fun c5=>?_))))
     ·refine an (sM Z Z (fI ([0,7,6]) ah Z bv bG Z Z (by intro x hx; unfold I64ok; simp only [List.mem_cons,List.not_mem_nil,or_false] at hx; omega) σ σ H5 (fun b7 w22 e23 g7 H22=>sC func45 cR Z (bp (H22.box 0 Z) (aC (H22.seen 0 Z)) (H22.offb 0 Z 0 Z) ω ω (aC (H22.mine 3 Z)) (fun x hx e=>H22.apart (i:=0) (j:=3) Z Z Z x hx (by simp [Wk.box,e])) σ) (fun v7 w23 r7=>?_))));obtain ⟨⟨e24,hb7⟩,nx6,rfl,ny6⟩:=r7;have H23:=H22.putBox 0 Z e24 hb7
      try dsimp only[lNA,lCA,lSZ,lSS] at H23
      try simp only [List.mem_cons,List.not_mem_nil,or_false] at ny6
      have H23g:=H23.conv 3 gone Z trivial (by simp [gone]) (by simp [gone])
      try dsimp only[lNA,lCA,lSZ,lSS] at H23g
      have ny6B:0≤nx6∧nx6≤7:=by omega
      clear ny6
      refine sF be Z ts2 (eH ah ts2 Z Z Z H23g 2 Z Z (fun w24 e25 H24=>?_));dsimp only[lNA,lCA,lSZ,lSS,aI] at H24;refine aa (ab (sV Z (ak be Z br Z Z (At.whole (H24.box 2 Z))) (aG ah br Z Z Z Z H24 1 Z Z (fun w25 e26 H25=>?_))));dsimp only[lNA,lCA,lSZ,lSS,aI] at H25;refine aa (bc (hQ _ _ (cr results33 Z (az be Z br Z (At.whole (H25.box 1 Z))) ?_)));have sfw:=fb hsh1;unfold Shape.few at sfw;exact ⟨_,ω,⟨H25.ext,H25.box 0 Z⟩,⟨sh1.Groups,sh1.Column,sh1.Data,sh1.Spare,nx6,sh1.Cap,sh1.Batch,sh1.Queue,sh1.Stage⟩,Z,by unfold Shape.few; dsimp only; omega⟩
     ·refine ab (sR 2 Z (aa (aD Z (fun c6=>?_) (fun c6=>?_))))
      ·refine an (sM Z Z (fI ([0,7,6]) ah Z bv bG Z Z (by intro x hx; unfold I64ok; simp only [List.mem_cons,List.not_mem_nil,or_false] at hx; omega) σ σ H5 (fun b8 w26 e27 g8 H26=>sC func45 cR Z (bp (H26.box 0 Z) (aC (H26.seen 0 Z)) (H26.offb 0 Z 0 Z) ω ω (aC (H26.mine 3 Z)) (fun x hx e=>H26.apart (i:=0) (j:=3) Z Z Z x hx (by simp [Wk.box,e])) σ) (fun v8 w27 r8=>?_))));obtain ⟨⟨e28,hb8⟩,nx7,rfl,ny7⟩:=r8;have H27:=H26.putBox 0 Z e28 hb8
       try dsimp only[lNA,lCA,lSZ,lSS] at H27
       try simp only [List.mem_cons,List.not_mem_nil,or_false] at ny7
       have H27g:=H27.conv 3 gone Z trivial (by simp [gone]) (by simp [gone])
       try dsimp only[lNA,lCA,lSZ,lSS] at H27g
       have ny7B:0≤nx7∧nx7≤7:=by omega
       clear ny7
       refine sF be Z ts2 (eH ah ts2 Z Z Z H27g 2 Z Z (fun w28 e29 H28=>?_));dsimp only[lNA,lCA,lSZ,lSS,aI] at H28;refine aa (ab (sV Z (ak be Z br Z Z (At.whole (H28.box 2 Z))) (aG ah br Z Z Z Z H28 1 Z Z (fun w29 e30 H29=>?_))));dsimp only[lNA,lCA,lSZ,lSS,aI] at H29;refine aa (bc (hQ _ _ (cr results33 Z (az be Z br Z (At.whole (H29.box 1 Z))) ?_)));have sfw:=fb hsh1;unfold Shape.few at sfw;exact ⟨_,ω,⟨H29.ext,H29.box 0 Z⟩,⟨sh1.Groups,sh1.Column,sh1.Data,sh1.Spare,sh1.Rows,nx7,sh1.Batch,sh1.Queue,sh1.Stage⟩,Z,by unfold Shape.few; dsimp only; omega⟩
      ·refine ab (sR 2 Z (aa (aD Z (fun c7=>?_) (fun c7=>?_))))
       ·refine an (sM Z Z (fI ([0,5,4]) ah Z bv bG Z Z (by intro x hx; unfold I64ok; simp only [List.mem_cons,List.not_mem_nil,or_false] at hx; omega) σ σ H5 (fun b9 w30 e31 g9 H30=>sC func45 cR Z (bp (H30.box 0 Z) (aC (H30.seen 0 Z)) (H30.offb 0 Z 0 Z) ω ω (aC (H30.mine 3 Z)) (fun x hx e=>H30.apart (i:=0) (j:=3) Z Z Z x hx (by simp [Wk.box,e])) σ) (fun v9 w31 r9=>?_))));obtain ⟨⟨e32,hb9⟩,nx8,rfl,ny8⟩:=r9;have H31:=H30.putBox 0 Z e32 hb9
        try dsimp only[lNA,lCA,lSZ,lSS] at H31
        try simp only [List.mem_cons,List.not_mem_nil,or_false] at ny8
        have H31g:=H31.conv 3 gone Z trivial (by simp [gone]) (by simp [gone])
        try dsimp only[lNA,lCA,lSZ,lSS] at H31g
        have ny8B:0≤nx8∧nx8≤5:=by omega
        clear ny8
        refine sF be Z ts2 (eH ah ts2 Z Z Z H31g 2 Z Z (fun w32 e33 H32=>?_));dsimp only[lNA,lCA,lSZ,lSS,aI] at H32;refine aa (ab (sV Z (ak be Z br Z Z (At.whole (H32.box 2 Z))) (aG ah br Z Z Z Z H32 1 Z Z (fun w33 e34 H33=>?_))));dsimp only[lNA,lCA,lSZ,lSS,aI] at H33;refine aa (bc (hQ _ _ (cr results33 Z (az be Z br Z (At.whole (H33.box 1 Z))) ?_)));have sfw:=fb hsh1;unfold Shape.few at sfw;exact ⟨_,ω,⟨H33.ext,H33.box 0 Z⟩,⟨sh1.Groups,sh1.Column,sh1.Data,sh1.Spare,sh1.Rows,sh1.Cap,nx8,sh1.Queue,sh1.Stage⟩,Z,by unfold Shape.few; dsimp only; omega⟩
       ·refine ab (sR 2 Z (aa (aD Z (fun c8=>?_) (fun c8=>?_))))
        ·refine an (sM Z Z (fI ([0,7,6]) ah Z bv bG Z Z (by intro x hx; unfold I64ok; simp only [List.mem_cons,List.not_mem_nil,or_false] at hx; omega) σ σ H5 (fun b10 w34 e35 g10 H34=>sC func45 cR Z (bp (H34.box 0 Z) (aC (H34.seen 0 Z)) (H34.offb 0 Z 0 Z) ω ω (aC (H34.mine 3 Z)) (fun x hx e=>H34.apart (i:=0) (j:=3) Z Z Z x hx (by simp [Wk.box,e])) σ) (fun v10 w35 r10=>?_))));obtain ⟨⟨e36,hb10⟩,nx9,rfl,ny9⟩:=r10;have H35:=H34.putBox 0 Z e36 hb10
         try dsimp only[lNA,lCA,lSZ,lSS] at H35
         try simp only [List.mem_cons,List.not_mem_nil,or_false] at ny9
         have H35g:=H35.conv 3 gone Z trivial (by simp [gone]) (by simp [gone])
         try dsimp only[lNA,lCA,lSZ,lSS] at H35g
         have ny9B:0≤nx9∧nx9≤7:=by omega
         clear ny9
         refine sF be Z ts2 (eH ah ts2 Z Z Z H35g 2 Z Z (fun w36 e37 H36=>?_));dsimp only[lNA,lCA,lSZ,lSS,aI] at H36;refine aa (ab (sV Z (ak be Z br Z Z (At.whole (H36.box 2 Z))) (aG ah br Z Z Z Z H36 1 Z Z (fun w37 e38 H37=>?_))));dsimp only[lNA,lCA,lSZ,lSS,aI] at H37;refine aa (bc (hQ _ _ (cr results33 Z (az be Z br Z (At.whole (H37.box 1 Z))) ?_)));have sfw:=fb hsh1;unfold Shape.few at sfw;exact ⟨_,ω,⟨H37.ext,H37.box 0 Z⟩,⟨sh1.Groups,sh1.Column,sh1.Data,sh1.Spare,sh1.Rows,sh1.Cap,sh1.Batch,nx9,sh1.Stage⟩,Z,by unfold Shape.few; dsimp only; omega⟩
        ·refine ab (sR 2 Z (aa (aD Z (fun c9=>?_) (fun c9=>?_))))
         ·refine an (sM Z Z (fI ([-1,401,0]) ah Z bv bG Z Z (by intro x hx; unfold I64ok; simp only [List.mem_cons,List.not_mem_nil,or_false] at hx; omega) σ σ H5 (fun b11 w38 e39 g11 H38=>sC func45 cR Z (bp (H38.box 0 Z) (aC (H38.seen 0 Z)) (H38.offb 0 Z 0 Z) ω ω (aC (H38.mine 3 Z)) (fun x hx e=>H38.apart (i:=0) (j:=3) Z Z Z x hx (by simp [Wk.box,e])) σ) (fun v11 w39 r11=>?_))));obtain ⟨⟨e40,hb11⟩,nx10,rfl,ny10⟩:=r11;have H39:=H38.putBox 0 Z e40 hb11
          try dsimp only[lNA,lCA,lSZ,lSS] at H39
          try simp only [List.mem_cons,List.not_mem_nil,or_false] at ny10
          have H39g:=H39.conv 3 gone Z trivial (by simp [gone]) (by simp [gone])
          try dsimp only[lNA,lCA,lSZ,lSS] at H39g
          have ny10B : -1≤nx10∧nx10≤401:=by omega
          clear ny10
          refine sF be Z ts2 (eH ah ts2 Z Z Z H39g 2 Z Z (fun w40 e41 H40=>?_));dsimp only[lNA,lCA,lSZ,lSS,aI] at H40;refine aa (ab (sV Z (ak be Z br Z Z (At.whole (H40.box 2 Z))) (aG ah br Z Z Z Z H40 1 Z Z (fun w41 e42 H41=>?_))));dsimp only[lNA,lCA,lSZ,lSS,aI] at H41;refine aa (bc (hQ _ _ (cr results33 Z (az be Z br Z (At.whole (H41.box 1 Z))) ?_)));have sfw:=fb hsh1;unfold Shape.few at sfw;exact ⟨_,ω,⟨H41.ext,H41.box 0 Z⟩,⟨sh1.Groups,sh1.Column,sh1.Data,sh1.Spare,sh1.Rows,sh1.Cap,sh1.Batch,sh1.Queue,nx10⟩,Z,by unfold Shape.few; dsimp only; omega⟩
         ·refine ax (ab (sV Z (ak be Z br Z Z (At.whole (H5.box 2 Z))) (aG ah br Z Z Z Z H5 1 Z Z (fun w42 e43 H42=>?_))));dsimp only[lNA,lCA,lSZ,lSS,aI] at H42;refine aa (bc (hQ _ _ (cr results33 Z (az be Z br Z (At.whole (H42.box 1 Z))) ?_)));have sfw:=fb hsh1;unfold Shape.few at sfw;exact ⟨_,ω,⟨H42.ext,H42.box 0 Z⟩,⟨sh1.Groups,sh1.Column,sh1.Data,sh1.Spare,sh1.Rows,sh1.Cap,sh1.Batch,sh1.Queue,sh1.Stage⟩,Z,by unfold Shape.few; dsimp only; omega⟩
end Go.Wk
namespace Go.Wk
open Rp (sz own)
section
variable {w0 w:World}{Δ F:List Rsc}{α:Type}[Rp α]
theorem Sep.res3N {β γ δ:Type}[Rp β] [Rp γ] [Rp δ] {x:α}(h:Sep No w0 Δ F w) (j1 j2 j3:Nat) {cs c1 c2 c3:List Value}{x1:β}{x2:γ}{x3:δ}{f1 f2 f3:List Nat}
    (h1:Δ[j1]? = some (Wk.mine c1 x1 f1)) (h2:Δ[j2]? = some (Wk.mine c2 x2 f2)) (h3:Δ[j3]? = some (Wk.mine c3 x3 f3))
    (d4:Nat.beq j2 j1=false) (d5:Nat.beq j3 j1=false) (d6:Nat.beq j3 j2=false)
    (ho:∀ w,own true w c1 x1 f1→own true w c2 x2 f2→own true w c3 x3 f3→own true w cs x (f1++(f2++f3))):Res w0 w cs x:=by
  have n1:=h.nodup1 h1
  have n2:=h.nodup1 h2
  have n3:=h.nodup1 h3
  have fr:∀ {j:Nat}{β:Type}[Rp β] {c:List Value}{y:β}{f:List Nat},Δ[j]? = some (Wk.mine c y f)→∀ c∈f,w0.heap.size≤c:=fun {j β _ c y f} hj a ha=>
    (h.new a (bQ.2 ⟨_,List.mem_of_getElem? hj,ha⟩)).resolve_left id
  refine ⟨f1++(f2++f3),ho w (h.mine j1 h1) (h.mine j2 h2) (h.mine j3 h3),?_,fun a ha=>?_⟩
  · refine List.nodup_append.2 ⟨n1,List.nodup_append.2 ⟨n2,n3,fun a ha c hc e=>?_⟩,fun a ha c hc e=>?_⟩
    · subst e; exact h.apart (i:=j2) (j:=j3) h2 h3 d6 a hc ha
    · subst e
      rcases List.mem_append.1 hc with hc | hc
      · exact h.apart (i:=j1) (j:=j2) h1 h2 d4 a hc ha
      · exact h.apart (i:=j1) (j:=j3) h1 h3 d5 a hc ha
  · rcases List.mem_append.1 ha with ha | ha
    · exact fr h1 a ha
    · rcases List.mem_append.1 ha with ha | ha
      · exact fr h2 a ha
      · exact fr h3 a ha
end
section
variable {P:Program}{n:Nat}{ops:Array Oper}{Q:Post}{S:World→Prop}{L:Env}{w w0:World}{M:Nat→Prop}{Δ F:List Rsc}{rest:List (Nat × Bool)}{d i:Nat}{ty:TypeId}{p:String}{af:Array Edge}{g:Option (Nat × Bool)}{α:Type}[Rp α]
theorem Dj {t e:TypeId}{x:Operand}{z:Value}{bytes m:Nat}{y:α}(ho:ops.toList[i]? = some ⟨some d,.makeSlice t x x,ty,p,af,g⟩) (hw:Wn ops n L ⟨some d,.makeSlice t x x,ty,p,af,g⟩) (hn:Nat.blt d n=true) (ht:P.underlying t=some (.slice e)) (hT:Ty P e z (sz α) bytes) (hz:∀ w,own true w z.cells.toList y [])
    (hx:evL L x=some (.int .i64 m)) (h48:bytes*m≤281474976710656) (h63:m≤maxLen) (H:Sep M w0 Δ F w) (hS:∀ w',S w→Ext No w w'→S w')
    (k:∀ b w',Ext No w w'→w.heap.size≤b→Sep M w0 (Δ++[mine [.slice (some ⟨b,0,none⟩) (List.replicate m y).length m] (List.replicate m y) [b]]) F w'→DL P n ops Q S rest ((d,.slice (some ⟨b,0,none⟩) (List.replicate m y).length m)::L) w') :
    DL P n ops Q S ((i,false)::rest) L w:=by
  have e:(List.replicate m y).length=m:=List.length_replicate
  rw [e] at k
  exact JI ho hw hn ht hT hz hx h48 h63 H hS k
end
theorem cH {cs vs:List Value}(h:vs.length=cs.length):aI cs 0 vs=vs:=by
  unfold aI
  rw [List.take_zero,List.nil_append,Nat.zero_add,h,List.drop_length,List.append_nil]
def kW:Block:=⟨0,List.replicate 4 0⟩
def freshD (s:Shape):Drive:=⟨false,List.replicate s.Rows.toNat kW⟩
def qC (s:Shape):List Drive:=List.replicate (s.Data+s.Spare).toNat (freshD s)
def t6 (s:Shape):Wld:=⟨s,List.replicate (s.Groups+s.Column).toNat (qC s),[],List.replicate 2 default,0,-1,false⟩
def dZ (s:Shape):WldResult:=if s.fault≠0 then ⟨s.fault,noWld⟩ else ⟨0,t6 s⟩
theorem rr {s:Shape}(h:s.fault≠0):dZ s=⟨s.fault,noWld⟩:=if_pos h
theorem qx {s:Shape}(h:s.fault=0):dZ s=⟨0,t6 s⟩:=if_neg ω
theorem wS {s:Shape}(h:s.Ok):(t6 s).Ok:=by
  unfold t6 Wld.Ok I64ok; dsimp only
  exact ⟨h,ω,ω⟩
theorem t9 {s:Shape}(h:s.ok=true):s.fault=0:=by unfold Shape.fault; rw [if_pos h]
theorem rD {s:Shape}(h:s.ok=true):s.Ok:=G9 (fb h)
theorem nb {α:Type}{k:Nat}{x:α}:List.replicate k x++[x]=List.replicate (k+1) x:=List.replicate_succ'.symm
end Go.Wk
namespace Go.Wk
open Rp (sz own)
def KM (b:Block):Prop:=b.Bytes.length≤10
def KS (d:Drive):Prop:=d.Blocks.length≤10∧∀ b∈d.Blocks,KM b
def KL (g:List Drive):Prop:=g.length≤10∧∀ d∈g,KS d
def Kc (G:List (List Drive)):Prop:=G.length≤10∧∀ g∈G,KL g
def KP (n:Nat) (vs:List RecV):Prop:=vs.length≤n∧∀ v∈vs,v.r.few
def JR (n:Nat) (ts:List TapeV):Prop:=∀ t∈ts,KP n t.Recs
structure WldV.few (n:Nat) (z:WldV):Prop where
  sh:z.Shape.few
  gr:Kc z.Groups
  on:z.On.length≤20
  tl:z.Tapes.length≤2
  tp:JR n z.Tapes
  wr : -1≤z.Writes∧(z.Writes≤5∨z.Writes=1000000001)
  st : -2≤z.Stop∧z.Stop≤1000000100
theorem Dr {n m:Nat}{ts:List TapeV}(h:JR n ts) (hm:n≤m):JR m ts:=fun t ht=>⟨Nat.le_trans (h t ht).1 hm,(h t ht).2⟩
end Go.Wk
namespace Go.Wk
open Rp (sz own)
theorem WldV.few.mono {n m:Nat}{z:WldV}(h:z.few n) (hm:n≤m):z.few m:=⟨h.sh,h.gr,h.on,h.tl,Dr h.tp hm,h.wr,h.st⟩
end Go.Wk
namespace Go.Wk
open Rp (sz own)
theorem zh {f:Nat→Nat}{m:Nat}:∀ {n:Nat},(∀ i,i<n→f i≤m)→iy f n≤n*m
  | 0,_=>by simp [iy]
  | n+1,h=>by
    have h1:=zh (n:=n) fun i hi=>h i ω
    have h2:=h n ω
    rw [Nat.add_mul,Nat.one_mul]
    show iy f n+f n≤_
    omega
theorem qp {α:Type}[Inhabited α] {f:α→Nat}{xs:List α}{m k:Nat}(hl:xs.length≤k) (h:∀ x∈xs,f x≤m):szL f xs≤k+k*m:=by
  unfold szL
  have h1:=zh (f:=fun i=>f (xs.getD i default)) (m:=m) (n:=xs.length) fun i hi=>h _ (by rw [bh hi]; exact List.getElem_mem _)
  have h2:xs.length*m≤k*m:=Nat.mul_le_mul_right m hl
  omega
theorem FI {z:Wld}(gr:Kc z.Groups) (on:z.On.length≤20) (tl:z.Tapes.length≤2) (tp:∀ t∈z.Tapes,t.Recs.length≤500∧∀ r∈t.Recs,r.few):ez z≤200000:=by
  have h1:szL (szL kN) z.Groups≤10+10*1220:=qp gr.1 fun g hg=>by
    refine Nat.le_trans (qp (m:=110+11) (gr.2 g hg).1 fun d hd=>?_) ω
    exact Nat.le_trans (qp (m:=10) ((gr.2 g hg).2 d hd).1 fun b hb=>((gr.2 g hg).2 d hd).2 b hb) ω
  have h2:szL nr z.Tapes≤2+2*60500:=qp tl fun t ht=>by
    refine Nat.le_trans (qp (m:=120) (tp t ht).1 fun r hr=>?_) ω
    have h3:=(tp t ht).2 r hr
    unfold Rec.few at h3
    unfold fX; omega
  unfold ez; omega
end Go.Wk

namespace Go.Wk
section
variable {rows:List (List UInt8)}{g:Int}{r:Rec}
theorem jr {z:Wld}(h:z.Stop = -1):cj z=false:=by unfold cj; rw [h]; rfl
theorem Ix {z:Wld}{k i:Nat}{b:Block}{row:Nat}(hp:z.Stop = -1) (hg:k<z.Groups.length) (hi:i<(z.Groups.getD k []).length):bX (jX k i row b z) k i=⟨(bX z k i).Wiped,(bX z k i).Blocks.set row b⟩:=by
  rw [xI (jr hp)]
  have e:(kJ (lB k i row b z)).Groups=z.Groups.set k ((z.Groups.getD k []).set i ⟨(bX z k i).Wiped,(bX z k i).Blocks.set row b⟩):=rfl
  have e2:(z.Groups.set k ((z.Groups.getD k []).set i ⟨(bX z k i).Wiped,(bX z k i).Blocks.set row b⟩)).getD k []=(z.Groups.getD k []).set i ⟨(bX z k i).Wiped,(bX z k i).Blocks.set row b⟩:=by rw [cm,if_pos ⟨rfl,hg⟩]
  have e3:bX (kJ (lB k i row b z)) k i=((kJ (lB k i row b z)).Groups.getD k []).getD i default:=rfl
  rw [e3,e,e2,cm,if_pos ⟨rfl,hi⟩]
end
theorem Bt {z:Wld}(hs:z.Shape.ok=true) (hG:aR z=true):Kc z.Groups:=by
  have sbd:=aL hs
  obtain ⟨h1,h2⟩:=dQ hG
  refine ⟨ω,fun l hl=>?_⟩
  obtain ⟨k,hk,rfl⟩:=List.getElem_of_mem hl
  obtain ⟨h3,h4⟩:=h2 k ω
  rw [bh hk] at h3 h4
  refine ⟨ω,fun d hd=>?_⟩
  obtain ⟨i,hi,rfl⟩:=List.getElem_of_mem hd
  obtain ⟨h5,h6⟩:=h4 i ω
  rw [bh hi] at h5 h6
  refine ⟨ω,fun b hb=>?_⟩
  obtain ⟨j,hj,rfl⟩:=List.getElem_of_mem hb
  have h7:=(kH (h6 j ω)).2.2
  rw [bh hj] at h7
  show _≤10
  omega
end Go.Wk
namespace Go.Wk
def bI (z:Wld) (g:Int):WldResult:=
  if upF z≠0 then ⟨upF z,noWld⟩ else if ins g 0 (z.Shape.Groups+z.Shape.Column-1)=true then
    if g∈z.On then ⟨0,z⟩ else if (z.On.length:Int)=z.Shape.Cap then ⟨7,noWld⟩ else ⟨0,⟨z.Shape,z.Groups,z.On++[g],z.Tapes,z.Writes,z.Stop,z.Down⟩⟩
  else ⟨3,noWld⟩
section
variable {z:Wld}{st g:Int}
theorem B3 (h:upF z≠0):bI z g=⟨upF z,noWld⟩:=if_pos h
theorem AQ (h:upF z=0) (h2:ins g 0 (z.Shape.Groups+z.Shape.Column-1)=false):bI z g=⟨3,noWld⟩:=by rw [bI,if_neg ω,if_neg (by rw [h2]; simp)]
theorem t7 (h:upF z=0) (h2:ins g 0 (z.Shape.Groups+z.Shape.Column-1)=true) (h3:g∈z.On):bI z g=⟨0,z⟩:=by rw [bI,if_neg ω,if_pos h2,if_pos h3]
theorem xH (h:upF z=0) (h2:ins g 0 (z.Shape.Groups+z.Shape.Column-1)=true) (h3:¬ g∈z.On) (h4:(z.On.length:Int)=z.Shape.Cap):bI z g=⟨7,noWld⟩:=by rw [bI,if_neg ω,if_pos h2,if_neg h3,if_pos h4]
theorem rn (h:upF z=0) (h2:ins g 0 (z.Shape.Groups+z.Shape.Column-1)=true) (h3:¬ g∈z.On) (h4:¬ (z.On.length:Int)=z.Shape.Cap):bI z g=⟨0,⟨z.Shape,z.Groups,z.On++[g],z.Tapes,z.Writes,z.Stop,z.Down⟩⟩:=by rw [bI,if_neg ω,if_pos h2,if_neg h3,if_neg h4]
end
section
variable {g:Int}{r:Rec}{y z:Wld}
theorem vz (hs:z.Shape.ok=true) (hG:aR z=true) (hO:rX z=true) (hT:z.Tapes.length=2) (ht:eF z=0) (i1:0≤z.Writes∧z.Writes≤1000000000) (i2 : -1≤z.Stop∧z.Stop≤1000000000):cz z=0:=by
  unfold cz
  have f0:z.Shape.fault=0:=t9 hs
  rw [if_neg ω,if_pos (by rw [hG,hO,hT]; rfl),if_neg ω,if_pos (by rw [aN.2 i1,aN.2 i2]; rfl)]
theorem te (h1:y.Shape=z.Shape) (h2:y.Groups=z.Groups):aR y=aR z:=by
  unfold aR; rw [h1,h2]
end
section
variable {P:Program}{n:Nat}{Q:Post}{L:Env}{w w0:World}{M:Nat→Prop}{Δ F:List Rsc}{c:Code}
theorem xi {γ:Type}(H:Sep M w0 Δ F w) (i:Nat) (R:γ→List Nat→Rsc) (g0:γ) (fp0:List Nat) (hi:Δ[i]? = some (R g0 fp0)) (E2:Env) (h2:sub L E2) (E:γ→Env) (I:γ→Prop) (μ:γ→Nat) (hs:sub L (E g0)) (h0:I g0)
  (round:∀ g fp w,Sep M w0 (Δ.set i (R g fp)) F w→I g→W P n c (again (fun x:γ × List Nat=>E x.1++E2) (fun x w'=>Sep M w0 (Δ.set i (R x.1 x.2)) F w'∧I x.1) (fun x=>μ x.1) (g,fp) Q) (E g++E2) w):W P n (.loop c) Q L w:=
 bJ (fun x:γ × List Nat=>E x.1++E2) (fun x w'=>Sep M w0 (Δ.set i (R x.1 x.2)) F w'∧I x.1) (fun x=>μ x.1) (g0,fp0) (gQ hs h2) ⟨by rw [iz hi]; exact H,h0⟩ fun x w h=>round x.1 x.2 w h.1 h.2
end
end Go.Wk
namespace Go.Wk
open Go.Proofs Rp Go.Proofs.Tryz
set_option maxRecDepth 10000
theorem ky {w:World}{z:Wld}{zA9 zA10 zA11:Option Addr}{zC9 zC10 zC11:Nat}{g:Int}(zK:z.Ok) (zS9:Sees w [.slice zA9 z.Groups.length zC9] z.Groups) (zS10:Sees w [.slice zA10 z.On.length zC10] z.On) (zS11:Sees w [.slice zA11 z.Tapes.length zC11] z.Tapes) (hb:ez z≤1048576):Ret Tryz.prog 14 #[z.val zA9 zC9 zA10 zC10 zA11 zC11,.int .i64 g] w fun v w'=>Ext No w w'∧(∃ A10 C10 A11 C11 A12 C12,v=(bI z g).val A10 C10 A11 C11 A12 C12∧Res w w' [.int .i64 (bI z g).Code,.int .i64 (bI z g).Wd.Shape.Groups,.int .i64 (bI z g).Wd.Shape.Column,.int .i64 (bI z g).Wd.Shape.Data,.int .i64 (bI z g).Wd.Shape.Spare,.int .i64 (bI z g).Wd.Shape.Rows,.int .i64 (bI z g).Wd.Shape.Cap,.int .i64 (bI z g).Wd.Shape.Batch,.int .i64 (bI z g).Wd.Shape.Queue,.int .i64 (bI z g).Wd.Shape.Stage,.slice A10 (bI z g).Wd.Groups.length C10,.slice A11 (bI z g).Wd.On.length C11,.slice A12 (bI z g).Wd.Tapes.length C12,.int .i64 (bI z g).Wd.Writes,.int .i64 (bI z g).Wd.Stop,.bool (bI z g).Wd.Down] (bI z g)):=by
 have zK2:=zK;unfold Wld.Ok Shape.Ok at zK2
 try unfold I64ok at zK2
 try unfold maxLen at zK2
 have zL9:=sL zS9;obtain ⟨zF9,zO9⟩:=zS9;have zL10:=sL zS10;obtain ⟨zF10,zO10⟩:=zS10;have zL11:=sL zS11;obtain ⟨zF11,zO11⟩:=zS11;refine aH func14 Z ntmps14 Z (fun Q hQ hN=>?_);have H0:=Sep.start (ae zO9 (ae zO10 (ae zO11 aA)));refine ab (bm ah Z Z H0 (fun b1 w1 e1 g1 H1=>bH ah Z zeroValue33 H1 (fun b2 w2 e2 g2 H2=>aa (ab (sV Z (ak ba Z bZ Z Z (At.whole (H2.box 0 Z))) (sE func57 iS Z (df η (H2.sees 0 Z) (H2.sees 1 Z) (H2.sees 2 Z)) H2 (fun w3 e3 H3=>sA Z Z (aa (ac (ay (ab (sR 3 Z (aa (aD Z (fun c1=>?_) (fun c1=>?_)))))))))))))))
 ·refine ab (sM Z Z (sV Z (aM bE Z Z) (aG ah cq Z Z Z Z H3 1 Z Z (fun w4 e4 H4=>?_))));dsimp only[lNA,lCA,lSZ,lSS,aI] at H4;refine aa (bc (hQ _ _ (cr results14 Z (az dz Z cq Z (At.whole (H4.box 1 Z))) ?_)));rw [B3 ω];exact ⟨H4.ext,none,0,none,0,none,0,Z,cZ (by unfold I64ok; have:=m0 (z:=z); (try dsimp only); omega)⟩
 ·refine ac ?_;have hs:=(bx (fl (w:=z) ω).1).1;refine an (sF ba Z br (sV Z (ak be Z br Z Z (At.sub (H3.box 0 Z) 9)) (sM Z Z (sE func58 fZ Z (bM (by first | assumption | exact (hw (by simp_all)).1 | exact (hw (by simp_all)).2 | (have hws:=(hw (by simp_all)).1; rw [← place_grp hws]; simp_all; done) | (simp_all; done))) H3 (fun w5 e5 H5=>sV Z (bg Z) (sA Z Z (aa (cK Z (fun c2=>?_) (fun c2=>?_)))))))))
  ·refine ab (sV Z (aM bE Z Z) (aG ah cq Z Z Z Z H5 1 Z Z (fun w6 e6 H6=>?_)));dsimp only[lNA,lCA,lSZ,lSS,aI] at H6;refine aa (bc (hQ _ _ (cr results14 Z (az dz Z cq Z (At.whole (H6.box 1 Z))) ?_)));rw [AQ ω (not_true c2)];exact ⟨H6.ext,none,0,none,0,none,0,Z,cZ (by unfold I64ok; have:=trivial; (try dsimp only); omega)⟩
  ·refine ac (cd (S:=Ext No _) (oQ [1,2,5,7,9,11,15,17,19,12,21,23,24]) κ κ κ Z (fun _=>Ext.refl.drawn _) (fun q1=>?_));have H7:=H5.drawn q1;refine dM Z Z Z (dC func59 nV Z (eC (H7.box 0 Z) η (H7.sees 0 Z) (H7.sees 1 Z) (H7.sees 2 Z)) (fun v3 w7 r3=>?_));obtain ⟨e7,rfl⟩:=r3;have H8:=H7.to e7;refine dV Z Z (fun zw hx=>bg Z) (dM Z Z Z (eu (t:=25) Z (fun hg1=>?_) (fun hg1=>?_)))
   ·try simp only [decide_eq_true_eq,decide_eq_false_iff_not] at hg1
    refine aT Z (wg Z Z Z) Z Z (fun zw hx=>ag ba Z cB Z Z) (aT Z (wg Z Z Z) Z Z (fun zw hx=>aj bv Z Z (am (hx.heap (H7.box 0 Z)) Z)) (aT Z (wg Z Z Z) Z Z (fun zw hx=>ag ba Z br Z Z) (aT Z (wg Z Z Z) Z Z (fun zw hx=>ag be Z ts2 Z Z) (aT Z (wg Z Z Z) Z Z (fun zw hx=>aj tu2 Z Z (am (hx.heap (H7.box 0 Z)) Z)) (cS Z (wg Z Z Z) Z Z (aV func60 Z fE Z) (dk (H8.sees 1 Z)) (fun hS _ _ r _=>hS.trans r.1.no) (fun v4 w8 r4=>?_))))));obtain ⟨e8,rfl⟩:=r4;have H9:=H8.to e8;refine aT Z (wg Z Z Z) Z Z (fun zw hx=>cX Z Z) (dV Z Z (fun zw hx=>bd Z Z) (aW Z ah Z Z (bt Z) (bb (aD Z (fun c3=>?_) (fun c3=>?_)))))
    ·refine ab (sV Z (aM bE Z Z) (aG ah cq Z Z Z Z H9 1 Z Z (fun w9 e9 H10=>?_)));dsimp only[lNA,lCA,lSZ,lSS,aI] at H10;refine aa (bc (hQ _ _ (cr results14 Z (az dz Z cq Z (At.whole (H10.box 1 Z))) ?_)));rw [xH ω (not_false c2) (by simp_all) (by first | omega | simp_all)];exact ⟨H10.ext,none,0,none,0,none,0,Z,cZ (by unfold I64ok; have:=trivial; (try dsimp only); omega)⟩
    ·refine ax (ab (sV Z (ak ba Z bZ Z Z (At.whole (H9.box 0 Z))) (sC func48 dP Z (bu η (H9.sees 0 Z) (H9.sees 1 Z) (H9.sees 2 Z) ξ) (fun v5 w10 r5=>?_))));obtain ⟨e10,sa1,sk1,sa2,sk2,sa3,sk3,rfl,r5⟩:=r5;obtain ⟨fp1,H11⟩:=H9.res e10 r5;obtain ⟨sf1,sf2,sf3,sq1,sok1,so1,so2,so3⟩:=eQ (H11.mine 2 Z);have H12:=H11.part 2 Z [mine [.slice _ z.Groups.length _] z.Groups sf1,mine [.slice _ z.On.length _] z.On sf2,mine [.slice _ z.Tapes.length _] z.Tapes sf3] (all_cons so1 (all_cons so2 (all_cons so3 σ))) (by simp [blocks,mine,sq1])
     try dsimp only[lNA,lCA,lSZ,lSS] at H12
     refine bH ah Z zeroValue31 H12 (fun b3 w11 e11 g3 H13=>aG ah bZ Z Z Z Z H13 6 Z Z (fun w12 e12 H14=>?_));dsimp only[lNA,lCA,lSZ,lSS,aI] at H14;refine aa (ac (ab (sM Z Z (sE func59 nV Z (eC (H14.box 0 Z) η (H14.sees 0 Z) (H14.sees 1 Z) (H14.sees 2 Z)) H14 (fun w13 e13 H15=>sV Z (bg Z) (aa (cK Z (fun c4=>?_) (fun c4=>?_))))))))
     ·have hgi:=aN.1 (not_false c2);have sbd:=aL hs;have hol:z.On.length≤1048576:=by unfold ez at hb; omega
      refine an (sF ba Z cB (sLd bv (H15.box 6 Z) Z (sM Z Z (dU ah Z bv bG Z Z Z Z H15 (fun b4 w14 e14 g4 H16=>ir ah Z bv bG Z Z Z H16 4 7 Z Z (ld (by first | assumption | (unfold I64ok; omega))) (by unfold maxLen; omega) ω (fun v7 w15 fp2 H17=>sV Z (ag ba Z cB Z Z) ?_))))));obtain ⟨a1,k1,q2⟩:=ao (H17.mine 4 Z);cases q2;refine eH ah cB Z Z Z H17 6 Z Z (fun w16 e15 H18=>?_);dsimp only[lNA,lCA,lSZ,lSS,aI] at H18;refine aa (ab (sV Z (ak ba Z bZ Z Z (At.whole (H18.box 6 Z))) (sV Z (aM bE Z Z) (aG ah cq Z Z Z Z H18 1 Z Z (fun w17 e16 H19=>?_)))));dsimp only[lNA,lCA,lSZ,lSS,aI] at H19;refine aa (bc (hQ _ _ (cr results14 Z (az dz Z cq Z (At.whole (H19.box 1 Z))) ?_)));rw [rn ω (not_false c2) (by simp_all) (by first | omega | simp_all)];exact ⟨H19.ext,_,_,_,_,_,_,Z,WldResult.out (x:=⟨0,⟨z.Shape,z.Groups,z.On++[g],z.Tapes,z.Writes,z.Stop,z.Down⟩⟩) (H19.sub (.cons _ (.cons _ (.cons _ (.cons_cons _ (.cons_cons _ (.cons_cons _ (.cons _ (.cons _ List.Sublist.slnil))))))))) ⟨by show I64ok 0; unfold I64ok; omega,zK⟩⟩
     ·refine ax (ab (sV Z (ak ba Z bZ Z Z (At.whole (H15.box 6 Z))) (sV Z (aM bE Z Z) (aG ah cq Z Z Z Z H15 1 Z Z (fun w18 e17 H20=>?_)))));dsimp only[lNA,lCA,lSZ,lSS,aI] at H20;refine aa (bc (hQ _ _ (cr results14 Z (az dz Z cq Z (At.whole (H20.box 1 Z))) ?_)));rw [t7 ω (not_false c2) (by simp_all)];exact ⟨H20.ext,_,_,_,_,_,_,Z,WldResult.out (x:=⟨0,z⟩) (H20.sub (.cons _ (.cons _ (.cons _ (.cons_cons _ (.cons_cons _ (.cons_cons _ (.cons _ List.Sublist.slnil)))))))) ⟨by show I64ok 0; unfold I64ok; omega,zK⟩⟩
   ·try simp only [decide_eq_true_eq,decide_eq_false_iff_not] at hg1
    refine dR 7 Z (dV Z Z (fun zw hx=>bi Z Z) (aW Z ah Z Z (bt Z) (bb (kt Z (ax (ab (sV Z (ak ba Z bZ Z Z (At.whole (H8.box 0 Z))) (sC func48 dP Z (bu η (H8.sees 0 Z) (H8.sees 1 Z) (H8.sees 2 Z) ξ) (fun v8 w19 r7=>?_)))))))));obtain ⟨e18,sa4,sk4,sa5,sk5,sa6,sk6,rfl,r7⟩:=r7;obtain ⟨fp3,H21⟩:=H8.res e18 r7;obtain ⟨sf4,sf5,sf6,sq2,sok2,so4,so5,so6⟩:=eQ (H21.mine 2 Z);have H22:=H21.part 2 Z [mine [.slice _ z.Groups.length _] z.Groups sf4,mine [.slice _ z.On.length _] z.On sf5,mine [.slice _ z.Tapes.length _] z.Tapes sf6] (all_cons so4 (all_cons so5 (all_cons so6 σ))) (by simp [blocks,mine,sq2])
    try dsimp only[lNA,lCA,lSZ,lSS] at H22
    refine bH ah Z zeroValue31 H22 (fun b5 w20 e19 g5 H23=>aG ah bZ Z Z Z Z H23 6 Z Z (fun w21 e20 H24=>?_));dsimp only[lNA,lCA,lSZ,lSS,aI] at H24;refine aa (ac (ab (sM Z Z (sE func59 nV Z (eC (H24.box 0 Z) η (H24.sees 0 Z) (H24.sees 1 Z) (H24.sees 2 Z)) H24 (fun w22 e21 H25=>sV Z (bg Z) (aa (cK Z (fun c5=>?_) (fun c5=>?_))))))))
    ·have hgi:=aN.1 (not_false c2);have sbd:=aL hs;have hol:z.On.length≤1048576:=by unfold ez at hb; omega
     refine an (sF ba Z cB (sLd bv (H25.box 6 Z) Z (sM Z Z (dU ah Z bv bG Z Z Z Z H25 (fun b6 w23 e22 g6 H26=>ir ah Z bv bG Z Z Z H26 4 7 Z Z (ld (by first | assumption | (unfold I64ok; omega))) (by unfold maxLen; omega) ω (fun v10 w24 fp4 H27=>sV Z (ag ba Z cB Z Z) ?_))))));obtain ⟨a2,k2,q3⟩:=ao (H27.mine 4 Z);cases q3;refine eH ah cB Z Z Z H27 6 Z Z (fun w25 e23 H28=>?_);dsimp only[lNA,lCA,lSZ,lSS,aI] at H28;refine aa (ab (sV Z (ak ba Z bZ Z Z (At.whole (H28.box 6 Z))) (sV Z (aM bE Z Z) (aG ah cq Z Z Z Z H28 1 Z Z (fun w26 e24 H29=>?_)))));dsimp only[lNA,lCA,lSZ,lSS,aI] at H29;refine aa (bc (hQ _ _ (cr results14 Z (az dz Z cq Z (At.whole (H29.box 1 Z))) ?_)));rw [rn ω (not_false c2) (by simp_all) (by first | omega | simp_all)];exact ⟨H29.ext,_,_,_,_,_,_,Z,WldResult.out (x:=⟨0,⟨z.Shape,z.Groups,z.On++[g],z.Tapes,z.Writes,z.Stop,z.Down⟩⟩) (H29.sub (.cons _ (.cons _ (.cons _ (.cons_cons _ (.cons_cons _ (.cons_cons _ (.cons _ (.cons _ List.Sublist.slnil))))))))) ⟨by show I64ok 0; unfold I64ok; omega,zK⟩⟩
    ·refine ax (ab (sV Z (ak ba Z bZ Z Z (At.whole (H25.box 6 Z))) (sV Z (aM bE Z Z) (aG ah cq Z Z Z Z H25 1 Z Z (fun w27 e25 H30=>?_)))));dsimp only[lNA,lCA,lSZ,lSS,aI] at H30;refine aa (bc (hQ _ _ (cr results14 Z (az dz Z cq Z (At.whole (H30.box 1 Z))) ?_)));rw [t7 ω (not_false c2) (by simp_all)];exact ⟨H30.ext,_,_,_,_,_,_,Z,WldResult.out (x:=⟨0,z⟩) (H30.sub (.cons _ (.cons _ (.cons _ (.cons_cons _ (.cons_cons _ (.cons_cons _ (.cons _ List.Sublist.slnil)))))))) ⟨by show I64ok 0; unfold I64ok; omega,zK⟩⟩
end Go.Wk
namespace Go.Wk
open Rp (own)
section
variable {α:Type}[Rp α] {M:Nat→Prop}{w0 w:World}{Δ F:List Rsc}
theorem Sep.packDr (h:Sep M w0 Δ F w) (j:Nat) {a:Option Addr}{n c:Nat}{bs:List Block}{f:List Nat}(q:Bool) (hj:Δ[j]? = some (Wk.mine [.slice a n c] bs f)) :
    Sep M w0 (Δ.set j (Wk.mine [.bool q,.slice a n c] (⟨q,bs⟩:Drive) f)) F w:=by
  have ho:=h.mine j hj
  obtain rfl:=eS ho
  have hn:f.Nodup:=h.nodup1 hj
  exact h.set hj (q:=Wk.mine [.bool q,.slice a bs.length c] (⟨q,bs⟩:Drive) f) Ext.refl (Drive.own_mk (x:=⟨q,bs⟩) trivial ho) hn (fun b hb => .inl hb)
theorem Sep.relen (h:Sep M w0 Δ F w) (j:Nat) {a:Option Addr}{n c m:Nat}{xs:List α}{f:List Nat}(hj:Δ[j]? = some (Wk.mine [.slice a n c] xs f)) (e:n=m) :
    Sep M w0 (Δ.set j (Wk.mine [.slice a m c] xs f)) F w:=by
  subst e
  have e:Δ.set j (Wk.mine [.slice a n c] xs f)=Δ:=List.ext_getElem? fun k=>by
    rw [List.getElem?_set]
    by_cases q:j=k
    · subst q
      have hlt:j<Δ.length:=(List.getElem?_eq_some_iff.1 hj).1
      rw [if_pos rfl,if_pos hlt]; exact hj.symm
    · rw [if_neg q]
  rw [e]; exact h
end
def oI (n k:Nat):List Block:=List.replicate k kW++List.replicate (n-k) default
theorem EM {n k:Nat}(h:k≤n):(oI n k).length=n:=by unfold oI; rw [List.length_append,List.length_replicate,List.length_replicate]; omega
theorem Dp {n:Nat}:oI n n=List.replicate n kW:=by unfold oI; simp
theorem Hb {n k:Nat}(h:k<n):(oI n k).getD k default=default:=by
  unfold oI
  rw [List.getD,List.getElem?_append_right (by rw [List.length_replicate]; exact Nat.le_refl _),List.length_replicate,Nat.sub_self,List.getElem?_replicate,if_pos ω]; rfl
theorem D2 {n k:Nat}(h:k<n):(oI n k).set k kW=oI n (k+1):=by
  obtain ⟨m,rfl⟩:∃ m,n=k+1+m:=⟨n-(k+1),ω⟩
  unfold oI
  rw [List.set_append_right _ _ (by rw [List.length_replicate]; exact Nat.le_refl _),List.length_replicate,Nat.sub_self,show k+1+m-k=m+1 by omega,show k+1+m-(k+1)=m by omega,List.replicate_succ,List.set_cons_zero,← nb (k:=k),List.append_assoc]
  rfl
def vY (s:Shape):Drive:=⟨true,List.replicate s.Rows.toNat kW⟩
def BL (z:Wld) (g d:Int):Wld:=⟨z.Shape,z.Groups.set g.toNat ((z.Groups.getD g.toNat []).set d.toNat (vY z.Shape)),z.On,z.Tapes,z.Writes,z.Stop,z.Down⟩
def iP (z:Wld) (g d:Int):WldResult:=if cz z≠0 then ⟨cz z,noWld⟩ else if ins g 0 (z.Shape.Groups+z.Shape.Column-1)=true∧ins d 0 (z.Shape.Data+z.Shape.Spare-1)=true then ⟨0,BL z g d⟩ else ⟨3,noWld⟩
section
variable {z:Wld}{g d:Int}
theorem II (h:cz z≠0):iP z g d=⟨cz z,noWld⟩:=if_pos h
theorem In (h:cz z=0) (h2:¬ (ins g 0 (z.Shape.Groups+z.Shape.Column-1)=true∧ins d 0 (z.Shape.Data+z.Shape.Spare-1)=true)):iP z g d=⟨3,noWld⟩:=by rw [iP,if_neg ω,if_neg h2]
theorem GS (h:cz z=0) (h2:ins g 0 (z.Shape.Groups+z.Shape.Column-1)=true∧ins d 0 (z.Shape.Data+z.Shape.Spare-1)=true):iP z g d=⟨0,BL z g d⟩:=by rw [iP,if_neg ω,if_pos h2]
theorem EZ (hs:z.Shape.ok=true) (hG:aR z=true) (hg:ins g 0 (z.Shape.Groups+z.Shape.Column-1)=true) (hd:ins d 0 (z.Shape.Data+z.Shape.Spare-1)=true) :
    g.toNat<z.Groups.length∧d.toNat<(z.Groups.getD g.toNat []).length:=by
  have sbd:=aL hs
  have hgi:=aN.1 hg
  have hdi:=aN.1 hd
  obtain ⟨h1,h2⟩:=dQ hG
  obtain ⟨h3,_⟩:=h2 g.toNat ω
  omega
end
end Go.Wk
namespace Go.Wk
open Go.Proofs Rp Go.Proofs.Tryz
set_option maxRecDepth 10000
theorem jI {w:World}{n:Int}(hn:0≤n∧n≤1000):Ret Tryz.prog 38 #[.int .i64 n] w fun v w'=>Ext No w w'∧(Res w w' [v] (List.replicate n.toNat kW)):=by
 have hRN:=List.length_replicate (n:=n.toNat) (a:=(default:Block));refine aH func38 Z ntmps38 Z (fun Q hQ hN=>?_);have H0:=Sep.start (w:=w) (F:=[]) σ;refine ab (sA Z Z (aa (ab (sV Z (Py.to (v' := .int .i64 (n.toNat:Nat)) (aJ Z) (congrArg (Value.int .i64) ω)) (wC ah Z js oS (show ∀ w,own true w (Value.agg #[.int .i64 0,.slice none 0 0]).cells.toList (default:Block) [] from fun _=>z1) Z (by first | omega | decide) (by unfold maxLen; first | omega | decide) H0 (fun b1 w1 e1 g1 H1=>sA Z Z (aa (ac (ab (sM Z Z (sV Z (aS js Z) (sM Z Z (aa (ay (bJ (γ:=Nat × List Nat) (fun (k,f)=>[(3,.slice (some ⟨b1,0,none⟩) (List.replicate n.toNat (default:Block)).length n.toNat),(8,.int .i64 (List.replicate n.toNat (default:Block)).length),(9,.int .i64 k)]) (fun (k,f) w'=>Sep No w [mine [.slice (some ⟨b1,0,none⟩) (List.replicate n.toNat (default:Block)).length n.toNat] (oI n.toNat k) f] [] w'∧k≤n.toNat) (fun (k,f)=>n.toNat-k) (0,_) ⟨Z,Z,Z,trivial⟩ ⟨H1,ω⟩ (fun (k,f) w2 H2=>?_))))))))))))))));obtain ⟨H2,hk⟩:=H2;refine ab (sV Z (aY Z Z) (aa (ac (aD Z (fun c1=>?_) (fun c1=>?_)))))
 ·refine ax (ac (ay (ab (sR 2 Z (aa ?_)))));have hFL:=EM hk;obtain ⟨eb1,eo1,eT1,eF1,eG1,ea1,ek1,eg1,ee1,eK1,eH1⟩:=Block.focus H2 0 Z k ω;have eK1U:=eK1;unfold Block.Ok at eK1U
  try unfold I64ok at eK1U
  try unfold maxLen at eK1U
  try dsimp only[lNA,lCA,lSZ,lSS] at eH1
  refine an (sR 2 Z (wC ah Z aU cb ph Z (by first | omega | decide) (by unfold maxLen; first | omega | decide) eH1 (fun b2 w3 e2 g2 H3=>sV Z (aB js gY Z Z ee1 k ω ω) (sF jM Z aZ (Kg ah aZ H3 0 1 Z Z Z Z Z (fun w4 H4=>?_))))));dsimp only[lNA,lCA,lSZ,lSS,aI] at H4;refine aa (an (sV Z (aE Z Z iO) (sM Z Z (aa ?_))));obtain ⟨fp1,H5⟩:=Block.fill H4 0 3 Z Z Z eK1
  try dsimp only[lNA,lCA,lSZ,lSS] at H5
  have hz:=(H5.dtake 1);rw [Hb ω,show (⟨(default:Block).Stamp,List.replicate 4 0⟩:Block)=kW from rfl,D2 ω] at hz;exact ⟨(k+1,_),⟨Z,Z,Z,trivial⟩,⟨hz,ω⟩,θ⟩
 ·refine aP (ab (sR 2 Z (rN hQ results38 Z ?_)));obtain rfl:k=n.toNat:=by omega
  exact ⟨H2.ext,by
   have h:=H2.out 0 Z
   rwa [Dp] at h⟩
theorem oD {w:World}{z:Wld}{zA9 zA10 zA11:Option Addr}{zC9 zC10 zC11:Nat}{g d:Int}(zK:z.Ok) (zS9:Sees w [.slice zA9 z.Groups.length zC9] z.Groups) (zS10:Sees w [.slice zA10 z.On.length zC10] z.On) (zS11:Sees w [.slice zA11 z.Tapes.length zC11] z.Tapes) (hb:ez z≤1048576):Ret Tryz.prog 22 #[z.val zA9 zC9 zA10 zC10 zA11 zC11,.int .i64 g,.int .i64 d] w fun v w'=>Ext No w w'∧(∃ A10 C10 A11 C11 A12 C12,v=(iP z g d).val A10 C10 A11 C11 A12 C12∧Res w w' [.int .i64 (iP z g d).Code,.int .i64 (iP z g d).Wd.Shape.Groups,.int .i64 (iP z g d).Wd.Shape.Column,.int .i64 (iP z g d).Wd.Shape.Data,.int .i64 (iP z g d).Wd.Shape.Spare,.int .i64 (iP z g d).Wd.Shape.Rows,.int .i64 (iP z g d).Wd.Shape.Cap,.int .i64 (iP z g d).Wd.Shape.Batch,.int .i64 (iP z g d).Wd.Shape.Queue,.int .i64 (iP z g d).Wd.Shape.Stage,.slice A10 (iP z g d).Wd.Groups.length C10,.slice A11 (iP z g d).Wd.On.length C11,.slice A12 (iP z g d).Wd.Tapes.length C12,.int .i64 (iP z g d).Wd.Writes,.int .i64 (iP z g d).Wd.Stop,.bool (iP z g d).Wd.Down] (iP z g d)):=by
 have zK2:=zK;unfold Wld.Ok Shape.Ok at zK2
 try unfold I64ok at zK2
 try unfold maxLen at zK2
 have zL9:=sL zS9;obtain ⟨zF9,zO9⟩:=zS9;have zL10:=sL zS10;obtain ⟨zF10,zO10⟩:=zS10;have zL11:=sL zS11;obtain ⟨zF11,zO11⟩:=zS11;refine aH func22 Z ntmps22 Z (fun Q hQ hN=>?_);have H0:=Sep.start (ae zO9 (ae zO10 (ae zO11 aA)));refine ab (bm ah Z Z H0 (fun b1 w1 e1 g1 H1=>bH ah Z zeroValue33 H1 (fun b2 w2 e2 g2 H2=>aa (ab (sV Z (ak ba Z bZ Z Z (At.whole (H2.box 0 Z))) (sE func69 qQ Z (fY η (H2.sees 0 Z) (H2.sees 1 Z) (H2.sees 2 Z)) H2 (fun w3 e3 H3=>sA Z Z (aa (ac (ay (ab (sR 3 Z (aa (aD Z (fun c1=>?_) (fun c1=>?_)))))))))))))))
 ·refine ab (sM Z Z (sV Z (aM bE Z Z) (aG ah cq Z Z Z Z H3 1 Z Z (fun w4 e4 H4=>?_))));dsimp only[lNA,lCA,lSZ,lSS,aI] at H4;refine aa (bc (hQ _ _ (cr results22 Z (az dz Z cq Z (At.whole (H4.box 1 Z))) ?_)));rw [II ω];exact ⟨H4.ext,none,0,none,0,none,0,Z,cZ (by unfold I64ok; have:=nU (z:=z); (try dsimp only); omega)⟩
 ·refine ac ?_;have hs:=(bx (w:=z) ω).1;have sbd:=aL hs;refine an (sF ba Z br (sV Z (ak be Z br Z Z (At.sub (H3.box 0 Z) 9)) (sM Z Z (sE func58 fZ Z (bM (by first | assumption | exact (hw (by simp_all)).1 | exact (hw (by simp_all)).2 | (have hws:=(hw (by simp_all)).1; rw [← place_grp hws]; simp_all; done) | (simp_all; done))) H3 (fun w5 e5 H5=>sV Z (bg Z) (sM Z Z (bU 5 (j:=5) (want:=false) (t:=27) Z Z Z Z (fun hg1 kk1=>au (wgE Z Z Z hg1) Z Z (ag ba Z br Z Z) (au (wgE Z Z Z hg1) Z Z (ak be Z br Z Z (At.sub (H5.box 0 Z) 9)) (au (wgE Z Z Z hg1) Z Z (aJ Z) (cw (wgE Z Z Z hg1) Z Z (aV func75 Z EL Z) (lR η) (fun w7 e7=>au (wgE Z Z Z hg1) Z Z (bg Z) (kk1 _ _ (kx Z (kx Z (kx Z (kx Z (kx Z k0))))) Z (Ext.refl.trans e7))))))) (fun w6 e6=>?_))))))));have H6:=H5.to e6;refine sV Z (dO Z Z) (sA Z Z (aa (cK Z (fun c2=>?_) (fun c2=>?_))))
  ·refine ab (sV Z (aM bE Z Z) (aG ah cq Z Z Z Z H6 1 Z Z (fun w8 e8 H7=>?_)));dsimp only[lNA,lCA,lSZ,lSS,aI] at H7;refine aa (bc (hQ _ _ (cr results22 Z (az dz Z cq Z (At.whole (H7.box 1 Z))) ?_)));rw [In ω (by intro hq; simp_all)];exact ⟨H7.ext,none,0,none,0,none,0,Z,cZ (by unfold I64ok; have:=trivial; (try dsimp only); omega)⟩
  ·refine ax (ac ?_);have hgd:ins g 0 (z.Shape.Groups+z.Shape.Column-1)=true∧ins d 0 (z.Shape.Data+z.Shape.Spare-1)=true:=by simpa using c2
   have hgi:=aN.1 hgd.1;have hdi:=aN.1 hgd.2;have hG:=(bx (w:=z) ω).2.1;have hdp:=EZ hs hG hgd.1 hgd.2;refine an (sV Z (ak ba Z bZ Z Z (At.whole (H6.box 0 Z))) (sC func48 dP Z (bu η (H6.sees 0 Z) (H6.sees 1 Z) (H6.sees 2 Z) ξ) (fun v3 w9 r3=>?_)));obtain ⟨e9,sa1,sk1,sa2,sk2,sa3,sk3,rfl,r3⟩:=r3;obtain ⟨fp1,H8⟩:=H6.res e9 r3;obtain ⟨sf1,sf2,sf3,sq1,sok1,so1,so2,so3⟩:=eQ (H8.mine 2 Z);have H9:=H8.part 2 Z [mine [.slice _ z.Groups.length _] z.Groups sf1,mine [.slice _ z.On.length _] z.On sf2,mine [.slice _ z.Tapes.length _] z.Tapes sf3] (all_cons so1 (all_cons so2 (all_cons so3 σ))) (by simp [blocks,mine,sq1])
   try dsimp only[lNA,lCA,lSZ,lSS] at H9
   refine bH ah Z zeroValue31 H9 (fun b3 w10 e10 g3 H10=>aG ah bZ Z Z Z Z H10 6 Z Z (fun w11 e11 H11=>?_));dsimp only[lNA,lCA,lSZ,lSS,aI] at H11;refine aa (ac ?_);obtain ⟨eb1,eo1,eT1,eF1,eG1,ea1,ek1,eg1,ee1,eH1⟩:=H11.focusL 3 Z g.toNat ω
   try dsimp only[lNA,lCA,lSZ,lSS] at eH1
   obtain ⟨eb2,eo2,ee2⟩:=eB (eH1.mine 7 Z) d.toNat ω;refine cd (S:=eH1.S2 7 7) (oQ [1,3,5,7,9,11,13,15,17,18,21,23,24]) κ κ κ Z (fun _=>show eH1.S2 7 7 _ from Ext.refl.drawn _) (fun q1=>?_);have H12:=eH1.drawn q1;refine dV Z Z (fun zw hx=>ag ba Z lz Z Z) (dV Z Z (fun zw hx=>aj iH Z Z (am (eH1.s2Box hx 6 Z Z Z Z Z) Z)) (dM Z Z Z (dV Z Z (fun zw hx=>aB iH yy Z Z ee1 g.toNat ω ω) (dV Z Z (fun zw hx=>aj gI Z Z (fg (eH1.s2Hol hx 3 Z Z Z Z Z) 0 Z)) (dM Z Z Z (dV Z Z (fun zw hx=>ag ba Z br Z Z) (dV Z Z (fun zw hx=>ag be Z ts2 Z Z) (dV Z Z (fun zw hx=>aj tu2 Z Z (am (eH1.s2Box hx 0 Z Z Z Z Z) Z)) (cS Z ah Z Z (aV func38 Z qH Z) (jI ω) (fun hS _ _ r _=>eH1.s2Call hS r.1) (fun v4 w12 r4=>?_))))))))));obtain ⟨e12,r4⟩:=r4;obtain ⟨fp2,H13⟩:=H12.res e12 r4;obtain ⟨a1,k1,q2⟩:=ao (H13.mine 8 Z);cases q2;refine dV Z Z (fun zw hx=>aM nT Z Z) (dV Z Z (fun zw hx=>aB gI i9 Z Z ee2 d.toNat ω ω) ?_);have H15:=H13.packDr 8 true Z
   try dsimp only[lNA,lCA,lSZ,lSS] at H15
   refine pZ Z ah i9 H15 7 8 Z Z Z d.toNat ω Z ee2 Z (fun w13 fp3 H14=>?_)
   try dsimp only[lNA,lCA,lSZ,lSS] at H14
   refine bb (ab (sV Z (ak ba Z bZ Z Z (At.whole (H14.box 6 Z))) (sV Z (aM bE Z Z) (aG ah cq Z Z Z Z H14 1 Z Z (fun w14 e14 H16=>?_)))));dsimp only[lNA,lCA,lSZ,lSS,aI] at H16;refine aa (bc (hQ _ _ (cr results22 Z (az dz Z cq Z (At.whole (H16.box 1 Z))) ?_)));obtain ⟨fp4,H17⟩:=H16.fill 3 7 Z Z Z
   try dsimp only[lNA,lCA,lSZ,lSS] at H17
   have H18:=H17.relen 3 Z (m:=(BL z g d).Groups.length) (by show _=(z.Groups.set _ _).length; rw [List.length_set])
   try dsimp only[lNA,lCA,lSZ,lSS] at H18
   rw [GS ω hgd];have hLn:(BL z g d).Groups.length=z.Groups.length:=by show (z.Groups.set _ _).length=_; rw [List.length_set]
   exact ⟨H18.ext,_,_,_,_,_,_,by unfold WldResult.val; dsimp only; rw [hLn]; rfl,WldResult.out (x:=⟨0,BL z g d⟩) (H18.sub (.cons _ (.cons _ (.cons _ (.cons_cons _ (.cons_cons _ (.cons_cons _ (.cons _ (.cons _ (.cons _ List.Sublist.slnil)))))))))) ⟨by show I64ok 0; unfold I64ok; omega,zK⟩⟩
theorem oV {w:World}{s:Shape}(sK:s.Ok):Ret Tryz.prog 8 #[s.v] w fun v w'=>Ext No w w'∧(∃ A10 C10 A11 C11 A12 C12,v=(dZ s).val A10 C10 A11 C11 A12 C12∧Res w w' [.int .i64 (dZ s).Code,.int .i64 (dZ s).Wd.Shape.Groups,.int .i64 (dZ s).Wd.Shape.Column,.int .i64 (dZ s).Wd.Shape.Data,.int .i64 (dZ s).Wd.Shape.Spare,.int .i64 (dZ s).Wd.Shape.Rows,.int .i64 (dZ s).Wd.Shape.Cap,.int .i64 (dZ s).Wd.Shape.Batch,.int .i64 (dZ s).Wd.Shape.Queue,.int .i64 (dZ s).Wd.Shape.Stage,.slice A10 (dZ s).Wd.Groups.length C10,.slice A11 (dZ s).Wd.On.length C11,.slice A12 (dZ s).Wd.Tapes.length C12,.int .i64 (dZ s).Wd.Writes,.int .i64 (dZ s).Wd.Stop,.bool (dZ s).Wd.Down] (dZ s)):=by
 refine aH func8 Z ntmps8 Z (fun Q hQ hN=>?_);have H0:=Sep.start (w:=w) (F:=[]) σ;refine ab (bm ah Z Z H0 (fun b1 w1 e1 g1 H1=>bH ah Z zeroValue33 H1 (fun b2 w2 e2 g2 H2=>aa (ac (ab (sV Z (ak be Z br Z Z (At.whole (H2.box 0 Z))) (sE func35 vT Z jx H2 (fun w3 e3 H3=>sA Z Z (aa (ab (sR 2 Z (aa (aD Z (fun c1=>?_) (fun c1=>?_))))))))))))))
 ·refine ab (sM Z Z (sV Z (aM bE Z Z) (aG ah (off:=0) cq Z Z Z Z H3 1 Z Z (fun w4 e4 H4=>?_))))
  try simp only [cH,List.length_cons,List.length_nil] at H4
  dsimp only[lNA,lCA,lSZ,lSS,aI] at H4;refine aa (bc (hQ _ _ (cr results8 Z (az dz Z cq Z (At.whole (H4.box 1 Z))) ?_)));rw [rr ω];exact ⟨H4.ext,none,0,none,0,none,0,Z,cZ (Hk s)⟩
 ·refine ax (ac ?_);have hs:=ji (s:=s) ω;have sbd:=aL hs;refine cd (S:=Ext No _) (oQ [1,2008,2,5,6,8,6,2,5,8]) κ κ κ Z (fun _=>Ext.refl.drawn _) (fun q1=>?_);have H5:=H3.drawn q1;refine dV Z Z (fun zw hx=>ak be Z br Z Z (At.whole (hx.heap (H5.box 0 Z)))) (dF Z ?_ ?_)
  ·refine Dj Z ah Z jq lU (show ∀ w,own true w (Value.agg #[.bool false,.slice none 0 0]).cells.toList (default:Tape) [] from fun _=>vV) Z (by first | omega | decide) (by unfold maxLen; first | omega | decide) H5 (fun _ h e=>h.trans e.no) (fun b3 w5 e5 g3 H6=>dV Z Z (fun zw hx=>aM (cs:=[.int .i64 s.Groups,.int .i64 s.Column,.int .i64 s.Data,.int .i64 s.Spare,.int .i64 s.Rows,.int .i64 s.Cap,.int .i64 s.Batch,.int .i64 s.Queue,.int .i64 s.Stage,.slice none 0 0,.slice none 0 0,.slice (some ⟨b3,0,none⟩) (List.replicate 2 (default:Tape)).length 2,.int .i64 0,.int .i64 (-1),.bool false]) vB Z κ) (Jo Z ah Z zeroValue31 H6 (fun _ h e=>h.trans e.no) (fun b4 w6 e6 g4 H7=>tP Z ah (off:=0) bZ Z Z Z Z H7 3 Z Z (fun _ _ _ hr=>absurd Z hr) (fun w7 e7 H8=>?_))))
   try simp only [cH,List.length_cons,List.length_nil] at H8
   dsimp only[lNA,lCA,lSZ,lSS,aI] at H8;refine bb (ac (ab (sV Z (ak be Z br Z Z (At.whole (H8.box 0 Z))) (sE func36 go Z (cx η) H8 (fun w8 e8 H9=>sM Z Z (aa (ay ?_)))))));have H11:=H9.nilW (α:=(List Drive))
   try dsimp only[lNA,lCA,lSZ,lSS] at H11
   refine nN (α:=(List Drive)) (γ:=Nat) (fun k=>List.replicate k (qC s)) 0 H11 4 3 9 Z Z Z Z [(1,_),(2,_),(4,_)] ⟨Z,Z,Z,trivial⟩ (fun k=>[(16,.int .i64 (s.Groups+s.Column)),(17,.int .i64 k)]) (fun k=>(k:Int)≤s.Groups+s.Column∧True) (fun k=>(s.Groups+s.Column).toNat-k) ⟨Z,Z,trivial⟩ ⟨ω,trivial⟩ (fun k vA1 fA1 w9 H10 ⟨hk,_⟩=>?_);dsimp only[lCA,lNA,lSZ,lSS] at H10 ⊢;refine ab (sV Z (aY Z Z) (aa (ac (aD Z (fun c2=>?_) (fun c2=>?_)))))
   ·refine ax (ac (ay (ab (eO (α:=Drive) ah Z gI gm H10 (fun b5 w10 e9 g5 H12=>sA Z Z (aa (ac (ab (sV Z (ak be Z br Z Z (At.whole (H12.box 0 Z))) (sE func37 kc Z (cN η) H12 (fun w11 e10 H13=>sM Z Z (aa (ay (jS (α:=Drive) (γ:=Nat) (fun m=>List.replicate m (freshD s)) 0 H13 5 Z 5 Z [(1,_),(2,_),(4,_),(16,_),(17,_)] ⟨Z,Z,Z,Z,Z,trivial⟩ (fun m=>[(21,.int .i64 (s.Data+s.Spare)),(22,.int .i64 m)]) (fun m=>(m:Int)≤s.Data+s.Spare∧True) (fun m=>(s.Data+s.Spare).toNat-m) ⟨Z,Z,trivial⟩ ⟨ω,trivial⟩ (fun m vA2 fA2 w12 H14 ⟨hm,_⟩=>?_)))))))))))))));dsimp only[lCA,lNA,lSZ,lSS] at H14 ⊢;refine ab (sV Z (aY Z Z) (aa (ac (aD Z (fun c3=>?_) (fun c3=>?_)))))
    ·refine ax (ac (ay ?_));have rl12:=List.length_replicate (n:=m) (a:=freshD s);refine an (sM Z Z (sF be Z ts2 (sLd tu2 (H14.box 0 Z) Z (sC func38 qH Z (jI ω) (fun v4 w13 r4=>?_)))));obtain ⟨e11,r4⟩:=r4;obtain ⟨fp1,H15⟩:=H14.res e11 r4;obtain ⟨a1,k1,q2⟩:=ao (H15.mine 6 Z);cases q2;refine sV Z (aM nT Z Z) (dU ah Z gI gm Z Z Z Z H15 (fun b6 w14 e12 g6 H16=>?_));have H17:=H16.asSt 6 ((freshD s):Drive) Z (Drive.own_mk (x:=(freshD s)) trivial (H16.mine 6 Z))
     try dsimp only[lNA,lCA,lSZ,lSS] at H17
     refine ma ah Z gI gm Z Z Z H17 5 7 6 Z Z Z Z (by unfold maxLen; omega) ω (fun v5 w15 fp2 H18=>sA Z Z (aa (an (sV Z (aE Z Z iO) (sM Z Z (aa ?_))))));exact ⟨(m+1,_,_),⟨Z,Z,Z,Z,Z,Z,Z,Z,trivial⟩,⟨by dsimp only; rw [← nb (k:=m) (x:=freshD s)]; exact (H18.dtake 6),ω,trivial⟩,θ⟩
    ·refine aP ?_;obtain rfl:m=(s.Data+s.Spare).toNat:=by omega
     have rl13:=List.length_replicate (n:=k) (a:=qC s);refine an (sF ba Z lz (sLd iH (H14.box 3 Z) Z (sM Z Z ?_)));obtain ⟨a2,k2,q3⟩:=ao (H14.mine 5 Z);cases q3;refine dU ah Z iH kb Z Z Z Z H14 (fun b7 w16 e13 g7 H19=>ma ah Z iH kb Z Z Z H19 4 6 5 Z Z Z Z (by unfold maxLen; omega) ω (fun v6 w17 fp3 H20=>sV Z (ag ba Z lz Z Z) ?_));obtain ⟨a3,k3,q4⟩:=ao (H20.mine 4 Z);cases q4;refine eH ah (off:=9) lz Z Z Z H20 3 Z Z (fun w18 e14 H21=>?_);dsimp only[lNA,lCA,lSZ,lSS,aI] at H21;refine aa (an (sV Z (aE Z Z iO) (sM Z Z (aa ?_))));exact ⟨(k+1,_,_),⟨Z,Z,Z,Z,Z,trivial⟩,⟨by dsimp only; rw [← nb (k:=k) (x:=qC s)]; exact (H21.dtake 5),ω,trivial⟩,θ⟩
   ·refine aP (ac ?_);obtain rfl:k=(s.Groups+s.Column).toNat:=by omega
    obtain ⟨a4,k4,q5⟩:=ao (H10.mine 4 Z);cases q5;refine an (sV Z (ak ba Z bZ Z Z (At.whole (H10.box 3 Z))) (sV Z (aM (cs:=[.int .i64 0,.int .i64 s.Groups,.int .i64 s.Column,.int .i64 s.Data,.int .i64 s.Spare,.int .i64 s.Rows,.int .i64 s.Cap,.int .i64 s.Batch,.int .i64 s.Queue,.int .i64 s.Stage,.slice a4 (List.replicate (s.Groups+s.Column).toNat (qC s)).length k4,.slice none 0 0,.slice (some ⟨b3,0,none⟩) (List.replicate 2 (default:Tape)).length 2,.int .i64 0,.int .i64 (-1),.bool false]) bE Z κ) (aG ah (off:=0) cq Z Z Z Z H10 1 Z Z (fun w19 e15 H22=>?_))))
    try simp only [cH,List.length_cons,List.length_nil] at H22
    dsimp only[lNA,lCA,lSZ,lSS,aI] at H22;refine aa (bc (hQ _ _ (cr results8 Z (az dz Z cq Z (At.whole (H22.box 1 Z))) ?_)));have H23:=H22.nilW (α:=Int)
    try dsimp only[lNA,lCA,lSZ,lSS] at H23
    rw [qx ω];exact ⟨H23.ext,_,_,none,0,_,_,Z,H23.res3N 4 5 2 Z Z Z Z Z Z (fun w o1 o2 o3=>WldResult.own_mk (x:=⟨0,t6 s⟩) ⟨(by show I64ok (0:Int); unfold I64ok; omega),wS sK⟩ o1 o2 o3)⟩
  ·refine Jo Z ah Z zeroValue31 H5 (fun _ h e=>h.trans e.no) (fun b8 w20 e16 g8 H24=>Dj Z ah Z jq lU (show ∀ w,own true w (Value.agg #[.bool false,.slice none 0 0]).cells.toList (default:Tape) [] from fun _=>vV) Z (by first | omega | decide) (by unfold maxLen; first | omega | decide) H24 (fun _ h e=>h.trans e.no) (fun b9 w21 e17 g9 H25=>dV Z Z (fun zw hx=>aM (cs:=[.int .i64 s.Groups,.int .i64 s.Column,.int .i64 s.Data,.int .i64 s.Spare,.int .i64 s.Rows,.int .i64 s.Cap,.int .i64 s.Batch,.int .i64 s.Queue,.int .i64 s.Stage,.slice none 0 0,.slice none 0 0,.slice (some ⟨b9,0,none⟩) (List.replicate 2 (default:Tape)).length 2,.int .i64 0,.int .i64 (-1),.bool false]) vB Z κ) (tP Z ah (off:=0) bZ Z Z Z Z H25 2 Z Z (fun _ _ _ hr=>absurd Z hr) (fun w22 e18 H26=>?_))))
   try simp only [cH,List.length_cons,List.length_nil] at H26
   dsimp only[lNA,lCA,lSZ,lSS,aI] at H26;refine bb (ac (ab (sV Z (ak be Z br Z Z (At.whole (H26.box 0 Z))) (sE func36 go Z (cx η) H26 (fun w23 e19 H27=>sM Z Z (aa (ay ?_)))))));have H29:=H27.nilW (α:=(List Drive))
   try dsimp only[lNA,lCA,lSZ,lSS] at H29
   refine nN (α:=(List Drive)) (γ:=Nat) (fun k=>List.replicate k (qC s)) 0 H29 4 2 9 Z Z Z Z [(1,_),(2,_),(4,_)] ⟨Z,Z,Z,trivial⟩ (fun k=>[(16,.int .i64 (s.Groups+s.Column)),(17,.int .i64 k)]) (fun k=>(k:Int)≤s.Groups+s.Column∧True) (fun k=>(s.Groups+s.Column).toNat-k) ⟨Z,Z,trivial⟩ ⟨ω,trivial⟩ (fun k vA3 fA3 w24 H28 ⟨hk,_⟩=>?_);dsimp only[lCA,lNA,lSZ,lSS] at H28 ⊢;refine ab (sV Z (aY Z Z) (aa (ac (aD Z (fun c4=>?_) (fun c4=>?_)))))
   ·refine ax (ac (ay (ab (eO (α:=Drive) ah Z gI gm H28 (fun b10 w25 e20 g10 H30=>sA Z Z (aa (ac (ab (sV Z (ak be Z br Z Z (At.whole (H30.box 0 Z))) (sE func37 kc Z (cN η) H30 (fun w26 e21 H31=>sM Z Z (aa (ay (jS (α:=Drive) (γ:=Nat) (fun m=>List.replicate m (freshD s)) 0 H31 5 Z 5 Z [(1,_),(2,_),(4,_),(16,_),(17,_)] ⟨Z,Z,Z,Z,Z,trivial⟩ (fun m=>[(21,.int .i64 (s.Data+s.Spare)),(22,.int .i64 m)]) (fun m=>(m:Int)≤s.Data+s.Spare∧True) (fun m=>(s.Data+s.Spare).toNat-m) ⟨Z,Z,trivial⟩ ⟨ω,trivial⟩ (fun m vA4 fA4 w27 H32 ⟨hm,_⟩=>?_)))))))))))))));dsimp only[lCA,lNA,lSZ,lSS] at H32 ⊢;refine ab (sV Z (aY Z Z) (aa (ac (aD Z (fun c5=>?_) (fun c5=>?_)))))
    ·refine ax (ac (ay ?_));have rl12:=List.length_replicate (n:=m) (a:=freshD s);refine an (sM Z Z (sF be Z ts2 (sLd tu2 (H32.box 0 Z) Z (sC func38 qH Z (jI ω) (fun v9 w28 r7=>?_)))));obtain ⟨e22,r7⟩:=r7;obtain ⟨fp4,H33⟩:=H32.res e22 r7;obtain ⟨a5,k5,q6⟩:=ao (H33.mine 6 Z);cases q6;refine sV Z (aM nT Z Z) (dU ah Z gI gm Z Z Z Z H33 (fun b11 w29 e23 g11 H34=>?_));have H35:=H34.asSt 6 ((freshD s):Drive) Z (Drive.own_mk (x:=(freshD s)) trivial (H34.mine 6 Z))
     try dsimp only[lNA,lCA,lSZ,lSS] at H35
     refine ma ah Z gI gm Z Z Z H35 5 7 6 Z Z Z Z (by unfold maxLen; omega) ω (fun v10 w30 fp5 H36=>sA Z Z (aa (an (sV Z (aE Z Z iO) (sM Z Z (aa ?_))))));exact ⟨(m+1,_,_),⟨Z,Z,Z,Z,Z,Z,Z,Z,trivial⟩,⟨by dsimp only; rw [← nb (k:=m) (x:=freshD s)]; exact (H36.dtake 6),ω,trivial⟩,θ⟩
    ·refine aP ?_;obtain rfl:m=(s.Data+s.Spare).toNat:=by omega
     have rl13:=List.length_replicate (n:=k) (a:=qC s);refine an (sF ba Z lz (sLd iH (H32.box 2 Z) Z (sM Z Z ?_)));obtain ⟨a6,k6,q7⟩:=ao (H32.mine 5 Z);cases q7;refine dU ah Z iH kb Z Z Z Z H32 (fun b12 w31 e24 g12 H37=>ma ah Z iH kb Z Z Z H37 4 6 5 Z Z Z Z (by unfold maxLen; omega) ω (fun v11 w32 fp6 H38=>sV Z (ag ba Z lz Z Z) ?_));obtain ⟨a7,k7,q8⟩:=ao (H38.mine 4 Z);cases q8;refine eH ah (off:=9) lz Z Z Z H38 2 Z Z (fun w33 e25 H39=>?_);dsimp only[lNA,lCA,lSZ,lSS,aI] at H39;refine aa (an (sV Z (aE Z Z iO) (sM Z Z (aa ?_))));exact ⟨(k+1,_,_),⟨Z,Z,Z,Z,Z,trivial⟩,⟨by dsimp only; rw [← nb (k:=k) (x:=qC s)]; exact (H39.dtake 5),ω,trivial⟩,θ⟩
   ·refine aP (ac ?_);obtain rfl:k=(s.Groups+s.Column).toNat:=by omega
    obtain ⟨a8,k8,q9⟩:=ao (H28.mine 4 Z);cases q9;refine an (sV Z (ak ba Z bZ Z Z (At.whole (H28.box 2 Z))) (sV Z (aM (cs:=[.int .i64 0,.int .i64 s.Groups,.int .i64 s.Column,.int .i64 s.Data,.int .i64 s.Spare,.int .i64 s.Rows,.int .i64 s.Cap,.int .i64 s.Batch,.int .i64 s.Queue,.int .i64 s.Stage,.slice a8 (List.replicate (s.Groups+s.Column).toNat (qC s)).length k8,.slice none 0 0,.slice (some ⟨b9,0,none⟩) (List.replicate 2 (default:Tape)).length 2,.int .i64 0,.int .i64 (-1),.bool false]) bE Z κ) (aG ah (off:=0) cq Z Z Z Z H28 1 Z Z (fun w34 e26 H40=>?_))))
    try simp only [cH,List.length_cons,List.length_nil] at H40
    dsimp only[lNA,lCA,lSZ,lSS,aI] at H40;refine aa (bc (hQ _ _ (cr results8 Z (az dz Z cq Z (At.whole (H40.box 1 Z))) ?_)));have H41:=H40.nilW (α:=Int)
    try dsimp only[lNA,lCA,lSZ,lSS] at H41
    rw [qx ω];exact ⟨H41.ext,_,_,none,0,_,_,Z,H41.res3N 4 5 3 Z Z Z Z Z Z (fun w o1 o2 o3=>WldResult.own_mk (x:=⟨0,t6 s⟩) ⟨(by show I64ok (0:Int); unfold I64ok; omega),wS sK⟩ o1 o2 o3)⟩
end Go.Wk
namespace Go.Wk
section
variable {G:List Drive}{n s row:Nat}{D:List UInt8}
theorem GL (hG:G.length=n+s) (hb:∀ d,d<n+s→(G.getD d default).Wiped=false→((G.getD d default).Blocks.getD row default).Bytes=encK D n d):Some_ n s D (ip G row G.length):=by
  refine ⟨by rw [so]; exact hG,fun i hi=>?_⟩
  rw [ss ω]
  unfold blkAt
  by_cases c:(G.getD i default).Wiped=true
  · rw [if_pos c]; exact .inr rfl
  · rw [if_neg c]; exact .inl (hb i hi (by simpa using c))
theorem zn (hG:G.length=n+s) (hb:∀ d,d<n+s→(G.getD d default).Wiped=false→((G.getD d default).Blocks.getD row default).Bytes=encK D n d) (hl:D.length=n*4):∀ m,m≤n+s→nils (ip G row G.length) m=(eK G m).length
  | 0,_=>rfl
  | m+1,hm=>by
    have ih:=zn hG hb hl m ω
    have e:nils (ip G row G.length) (m+1)=nils (ip G row G.length) m+if ((ip G row G.length).getD m []).length=0 then 1 else 0:=rfl
    rw [e,ih,ss ω]
    by_cases c:(G.getD m default).Wiped=true
    · rw [qE c,blkAt,if_pos c,List.length_append]; rfl
    · have c':(G.getD m default).Wiped=false:=by simpa using c
      rw [pR c',blkAt,if_neg c,hb m ω c',if_neg (by rw [um hl]; decide)]; rfl
theorem Cr (hn:1≤n∧n≤3) (h2:s≤2) (hG:G.length=n+s) (hb:∀ d,d<n+s→(G.getD d default).Wiped=false→((G.getD d default).Blocks.getD row default).Bytes=encK D n d) (hl:D.length=n*4) (hw:(eK G G.length).length≤s):ua n (ip G row G.length)=D:=by
  have hS:=GL hG hb
  have hok:=Ie hS (by rw [zn hG hb hl _ (Nat.le_refl _),← hG]; exact hw)
  rw [JV hok]
  exact I0 hn h2 hl hS hok
theorem nh:∀ n,(∀ k,k<n→(G.getD k default).Wiped=false)→eK G n=[]
  | 0,_=>rfl
  | n+1,h=>by rw [pR (h n ω),nh n fun k hk=>h k ω]
end
end Go.Wk
namespace Go.Wk
structure Gd (s:Shape) (g:Int) (X:Nat→List UInt8) (W:Int) (k:Nat) (z:Wld):Prop where
  sh:z.Shape=s
  gk:aR z=true
  on:z.On=[g]
  st:z.Stop = -1
  dn:z.Down=false
  wr:0≤z.Writes∧z.Writes≤W
  tl:z.Tapes.length=2
  tf:eF z=0
  tp:∀ t∈z.Tapes,t.Recs.length≤5∧∀ r∈t.Recs,r.few
  kd:AllR (fun r=>r.Kind≠4) z
  gd:∀ d,d<s.Data.toNat+s.Spare.toNat→(bX z g.toNat d).Wiped=false→∀ i,i<s.Rows.toNat→(fw z g.toNat d i).Bytes=encK (X i) s.Data.toNat d
  wp:(kT z g).length≤k
  pw:0<k→0<(kT z g).length
structure Fx (s:Shape) (g:Int) (X:Nat→List UInt8):Prop where
  hs:s.ok=true
  hg:ins g 0 (s.Groups-1)=true
  hx:∀ i,(X i).length=s.Data.toNat*4
section
variable {s:Shape}{g row d W:Int}{X:Nat→List UInt8}{k:Nat}{z y:Wld}
theorem wb {m:Int}(h:ins g 0 m=true):apartL [g] m=true:=by
  unfold apartL
  refine ge fun i hi=>?_
  have e:i=0:=by simp only [List.length_cons,List.length_nil] at hi; omega
  subst e
  show (ins g 0 m && !decide (g∈([]:List Int)))=true
  rw [h]; simp
theorem Fx.all (f:Fx s g X):ins g 0 (s.Groups+s.Column-1)=true:=by
  have sbd:=aL f.hs
  have hgi:=aN.1 f.hg
  exact aN.2 ω
theorem Gd.on_ok (h:Gd s g X W k z) (f:Fx s g X):rX z=true:=by
  have sbd:=aL f.hs
  unfold rX
  rw [h.on,h.sh,h.dn,wb f.all,decide_eq_true (show (([g]:List Int).length:Int)≤s.Cap by simp only [List.length_cons,List.length_nil]; omega)]
  simp
theorem Gd.world (h:Gd s g X W k z) (f:Fx s g X) (hW:W≤1000000):cz z=0:=
  vz (by rw [h.sh]; exact f.hs) h.gk (h.on_ok f) h.tl h.tf (by have:=h.wr; omega) (by rw [h.st]; omega)
theorem Gd.len (h:Gd s g X W k z) (f:Fx s g X):g.toNat<z.Groups.length∧(z.Groups.getD g.toNat []).length=s.Data.toNat+s.Spare.toNat∧∀ d,d<s.Data.toNat+s.Spare.toNat→(bX z g.toNat d).Blocks.length=s.Rows.toNat:=by
  have sbd:=aL f.hs
  have hgi:=aN.1 f.hg
  obtain ⟨h1,h2⟩:=dQ h.gk
  rw [h.sh] at h1
  obtain ⟨h3,h4⟩:=h2 g.toNat ω
  rw [h.sh] at h3
  refine ⟨ω,ω,fun d hd=>?_⟩
  have h5:=(h4 d ω).1
  rw [h.sh] at h5
  unfold bX
  omega
theorem Gd.dead (h:Gd s g X W k z) (hk:(k:Int)≤s.Spare):dI z g=false:=by
  unfold dI
  have:=h.wp
  rw [h.sh]
  exact decide_eq_false ω
theorem Gd.rowX (h:Gd s g X W k z) (f:Fx s g X) (hk:(k:Int)≤s.Spare) {i:Nat}(hi:i<s.Rows.toNat):l4 z g i=X i:=by
  have sbd:=aL f.hs
  obtain ⟨h1,h2,h3⟩:=h.len f
  unfold l4 lA
  rw [h.sh]
  exact Cr (s:=s.Spare.toNat) ω ω h2 (fun d hd hw=>h.gd d hd hw i hi) (f.hx i) (by have:=h.wp; unfold kT at this; omega)
theorem Gd.holds (h:Gd s g X W k z) (f:Fx s g X) (hW:W≤1000000) (hk:(k:Int)≤s.Spare):FO z g=true:=by
  have sbd:=aL f.hs
  obtain ⟨h1,h2,h3⟩:=h.len f
  unfold FO
  rw [decide_eq_true (h.world f hW),h.sh,f.all,Bd (h.dead hk) fun i hi d hd=>?_]; rfl
  rw [h.sh] at hi
  rw [h2] at hd
  unfold JC Jt
  rw [h.sh,h.rowX f hk hi,xo hd]
  by_cases c:((z.Groups.getD g.toNat []).getD d default).Wiped=true
  · rw [c]; rfl
  · have hb:(((z.Groups.getD g.toNat []).getD d default).Blocks.getD i default).Bytes=encK (X i) s.Data.toNat d:=h.gd d hd (Bool.eq_false_iff.2 c) i hi
    rw [decide_eq_true hb]; simp
theorem Gd.none (h:Gd s g X W 0 z):(CZ z g).Lst=[]:=by
  unfold CZ
  split
  · rfl
  · exact List.eq_nil_of_length_eq_zero (by have:=h.wp; show (kT z g).length=0; omega)
theorem FZ (hs:s.ok=true):dp s (vY s)=true:=by
  have sbd:=aL hs
  unfold dp vY
  dsimp only
  rw [decide_eq_true (by rw [List.length_replicate]; omega),Bool.true_and]
  refine ge fun i hi=>?_
  have e:(List.replicate s.Rows.toNat kW).getD i default=kW:=by
    rw [List.length_replicate] at hi
    rw [bh (by rw [List.length_replicate]; exact hi),List.getElem_replicate]
  rw [e]; rfl
theorem AS {gn j:Nat}{D:Drive}(h:aR z=true) (hg:gn<z.Groups.length) (hD:dp z.Shape D=true) (hS:y.Shape=z.Shape) (hG:y.Groups=z.Groups.set gn ((z.Groups.getD gn []).set j D)):aR y=true:=by
  simp only [aR,Bool.and_eq_true,decide_eq_true_eq] at h
  have h2:=jU h.2
  have h6:=rU (i:=j) (h2 gn hg) (x:=D) hD
  unfold aR
  rw [hS,hG,decide_eq_true (by rw [List.length_set]; exact h.1),Bool.true_and]
  refine su (p:=dK z.Shape) fun k hk=>?_
  rw [List.length_set] at hk
  rw [cm]
  split
  · exact h6
  · exact h2 k hk
end
end Go.Wk
namespace Go.Wk
section
variable {s:Shape}{g row d W:Int}{X:Nat→List UInt8}{k:Nat}{z y z0:Wld}
theorem D9 (h:AllR (fun r=>r.Kind≠4) z):gP z g row=false:=by
  have e:fH z g row = -1:=pn fun j hj=>by
    have hk:=h.cnt (show (fB z).getD j default∈fB z from by rw [bh hj]; exact List.getElem_mem _)
    unfold shP; rw [decide_eq_false hk]; rfl
  unfold gP
  rw [e]; rfl
end
end Go.Wk
namespace Go.Wk
section
variable {n k:Nat}{cs:List UInt8}
theorem Fn {m l:Nat}(h:l+4≤m):cut (List.replicate m (0:UInt8)) l (l+4)=List.replicate 4 0:=by
  unfold cut
  rw [List.drop_replicate,List.take_replicate]
  congr 1; omega
theorem BG {c:UInt8}:bD (List.replicate 4 0) c=List.replicate 4 0:=by
  unfold bD
  rw [List.map_replicate,fm]
theorem yK:∀ k,k≤n→mixTo (chunks (List.replicate (n*4) 0) 4 n) cs 4 k=List.replicate 4 0
  | 0,_=>rfl
  | k+1,h=>by
    rw [mixTo,yK k ω,iZ ω,Fn (by have:=nH (i:=k) (m:=4) (n:=n*4) rfl ω; omega),BG]; rfl
theorem Fs {d:Int}:encK (List.replicate (n*4) 0) n d=List.replicate 4 0:=by
  unfold encK
  rw [eE]
  exact yK n (Nat.le_refl _)
end
section
variable {s:Shape}{g row:Int}{xs:List UInt8}{z y z0:Wld}{rs:List Rec}{r:Rec}
theorem wh (h:∀ r∈rs,recF s r=0):∀ k,k≤rs.length→eW s rs k=0
  | 0,_=>rfl
  | k+1,hk=>by
    rw [lW (wh h k ω),bh ω]
    exact h _ (List.getElem_mem _)
theorem DX (hT:z.Tapes=[⟨false,rs⟩,⟨false,rs⟩]) (hl:rs.length≤200) (hr:∀ r∈rs,recF z.Shape r=0):eF z=0:=by
  have h1:z.Tapes.any fD=false:=by
    rw [hT]
    have e:fD ⟨false,rs⟩=false:=decide_eq_false (by show ¬ (200:Int)<(rs.length:Int); omega)
    simp [e]
  have h2:eV z.Shape z.Tapes z.Tapes.length=0:=by
    rw [hT]
    have e:=wh hr rs.length (Nat.le_refl _)
    show (if (if (0:Int)≠0 then 0 else eW z.Shape rs rs.length)≠0 then _ else eW z.Shape rs rs.length)=0
    rw [e]; rfl
  have h3:z.Tapes.any ij=false:=by rw [hT]; simp [ij]
  unfold eF
  rw [h1,h2,h3]; rfl
theorem I4 (hT:z.Tapes=[⟨false,rs⟩,⟨false,rs⟩]) (hs:z.Stop = -1) (hl:rs.length<200) :
    oz z r=0∧layZ z r=⟨z.Shape,z.Groups,z.On,[⟨false,rs++[r]⟩,⟨false,rs++[r]⟩],z.Writes+1+1,z.Stop,z.Down⟩:=by
  have e1:eY 0 r z=⟨z.Shape,z.Groups,z.On,[⟨false,rs++[r]⟩,⟨false,rs⟩],z.Writes+1,z.Stop,z.Down⟩:=by
    unfold eY
    rw [iE (jr hs)]
    unfold layT kJ
    rw [hT]; rfl
  have hf:eL z=false:=by
    unfold eL
    rw [hT,Bool.or_eq_false_iff]
    exact ⟨decide_eq_false (by show ¬ (200:Int)<(rs.length:Int)+1; omega),decide_eq_false (by show ¬ (200:Int)<(rs.length:Int)+1; omega)⟩
  have hok:lk z r=true:=by
    unfold lk
    rw [jr hs,jr (Dk.trans hs)]; rfl
  obtain ⟨a,b⟩:=mT (r:=r) hf
  refine ⟨by rw [a,if_pos hok],?_⟩
  rw [b]
  unfold lN
  rw [if_neg (by rw [jr hs]; simp),e1]
  unfold eY
  rw [iE (by exact jr hs)]
  unfold layT kJ
  rfl
theorem Bx (hs:s.ok=true) (hS:z.Shape=s) (hG:z.Groups=List.replicate (s.Groups+s.Column).toNat (qC s)):aR z=true:=by
  have sbd:=aL hs
  unfold aR
  rw [hG,hS,decide_eq_true (by rw [List.length_replicate]; omega),Bool.true_and]
  refine ge fun i hi=>?_
  rw [bh hi,List.getElem_replicate]
  unfold dK qC
  rw [decide_eq_true (by rw [List.length_replicate]; omega),Bool.true_and]
  refine ge fun i hi=>?_
  rw [bh hi,List.getElem_replicate]
  unfold dp freshD
  rw [decide_eq_true (by rw [List.length_replicate]; omega),Bool.true_and]
  refine ge fun i hi=>?_
  rw [bh hi,List.getElem_replicate]
  rfl
end
end Go.Wk
namespace Go.Wk
open Rp (sz own)
section
variable {M:Nat→Prop}{w0 w:World}{Δ F:List Rsc}
theorem Wld.closeB (h:Sep M w0 Δ F w) (i j1 j2 j3:Nat) {b:Nat}{T:TypeId}{v1:Int}{v2:Int}{v3:Int}{v4:Int}{v5:Int}{v6:Int}{v7:Int}{v8:Int}{v9:Int}{v13:Int}{v14:Int}{v15:Bool}{v10:List (List Drive)}{A10:Option Addr}{n10 C10:Nat}{f10:List Nat}{v11:List Int}{A11:Option Addr}{n11 C11:Nat}{f11:List Nat}{v12:List Tape}{A12:Option Addr}{n12 C12:Nat}{f12:List Nat}(hi:Δ[i]? = some (Wk.box b (.cells ([.int .i64 v1,.int .i64 v2,.int .i64 v3,.int .i64 v4,.int .i64 v5,.int .i64 v6,.int .i64 v7,.int .i64 v8,.int .i64 v9,.slice A10 n10 C10,.slice A11 n11 C11,.slice A12 n12 C12,.int .i64 v13,.int .i64 v14,.bool v15]:List Value).toArray T)))
    (h1:Δ[j1]? = some (Wk.mine [.slice A10 n10 C10] v10 f10))
    (h2:Δ[j2]? = some (Wk.mine [.slice A11 n11 C11] v11 f11))
    (h3:Δ[j3]? = some (Wk.mine [.slice A12 n12 C12] v12 f12))
    (d1:Nat.beq j1 i=false) (d2:Nat.beq j2 i=false) (d3:Nat.beq j3 i=false) (d4:Nat.beq j2 j1=false) (d5:Nat.beq j3 j1=false) (d6:Nat.beq j3 j2=false) (ok:(⟨⟨v1,v2,v3,v4,v5,v6,v7,v8,v9⟩,v10,v11,v12,v13,v14,v15⟩:Wld).Ok) :
    ∃ x fp,x=(⟨⟨v1,v2,v3,v4,v5,v6,v7,v8,v9⟩,v10,v11,v12,v13,v14,v15⟩:Wld)∧Sep M w0 ((((Δ.set j3 gone).set j2 gone).set j1 gone).set i (qf b T x fp)) F w:=by
  obtain rfl:=eS (h.mine j1 h1)
  obtain rfl:=eS (h.mine j2 h2)
  obtain rfl:=eS (h.mine j3 h3)
  obtain ⟨fp,H⟩:=h.close3 i j1 j2 j3 hi h1 h2 h3 d1 d2 d3 d4 d5 d6 (fun w o1 o2 o3=>Wld.own_mk (x:=(⟨⟨v1,v2,v3,v4,v5,v6,v7,v8,v9⟩,v10,v11,v12,v13,v14,v15⟩:Wld)) ok o1 o2 o3)
  exact ⟨_,fp,rfl,H⟩
end
end Go.Wk
namespace Go.Wk
open Rp (sz own)
def Jy (d:Desk):List Ticket:=d.Queues.flatten++d.Aside
section
variable {s:Shape}{d:Desk}{id:Int}
theorem Hq:(Jy d).length=d.Queues.flatten.length+d.Aside.length:=by unfold Jy; rw [List.length_append]
theorem z2 {α:Type}[Inhabited α] {xs:List α}{x:α}(h:x∈xs):∃ i,i<xs.length∧xs.getD i default=x:=by
  obtain ⟨i,hi,e⟩:=List.mem_iff_getElem.1 h
  exact ⟨i,hi,by rw [bh hi]; exact e⟩
end
end Go.Wk
namespace Go.Wk
open Rp (sz own)
section
variable {M:Nat→Prop}{w0 w w' w1:World}{Δ F:List Rsc}{b:Nat}{T:TypeId}{fp:List Nat}{α:Type}[Rp α] {x y:α}
theorem Sep.boxOff (h:Sep M w0 Δ F w) (i j:Nat) {c:Nat}{o:Obj}{r:Rsc}(hi:Δ[i]? = some r) (hj:Δ[j]? = some (Wk.box c o)) (hij:Nat.beq j i=false) (e1:Ext (· ∈ r.fp) w w1):w1.heap[c]? = some o:=by
  have hb:w.heap[c]? = some o:=h.r j hj
  have hn:c ∉ r.fp:=h.apart (i:=i) (j:=j) hi hj hij c (by simp [Wk.box])
  exact e1.heapM hn hb
end
section
variable {α:Type}[Rp α] [Flat α]
theorem IR {s:Bool}{w w':World}{cs:List Value}{x:α}{f:List Nat}(h:own s w cs x f):own s w' cs x []:=by
  exact (Flat.flat h).2 _ _
theorem pN {w:World}:∀ {vs:List α}{cs f0} (i:Nat),bV true w cs vs f0→bV true w cs (vs.take i) []∧f0=[]
  | [],_,_,i,h=>by rw [List.take_nil]; exact ⟨rfl,h⟩
  | v::vs,cs,f0,0,⟨g1,g2,e0,h1,h2⟩=>by
    have:=(pN 0 h2).2
    exact ⟨rfl,by rw [e0,(Flat.flat h1).1,this]; rfl⟩
  | v::vs,cs,f0,i+1,⟨g1,g2,e0,h1,h2⟩=>by
    obtain ⟨h3,h4⟩:=pN i h2
    exact ⟨⟨[],[],rfl,IR h1,h3⟩,by rw [e0,(Flat.flat h1).1,h4]; rfl⟩
end
section
variable {P:Program}{n:Nat}{ops:Array Oper}{Q:Post}{L:Env}{w w0:World}{M:Nat→Prop}{Δ F:List Rsc}{d:Option Tmp}{ty:TypeId}{p:String}{af:Array Edge}{g:Option (Nat × Bool)}{rest:List Oper}{α:Type}[Rp α]
variable [Flat α]
theorem F3 {t e:TypeId}{x:Operand}{z:Value}{bytes b off k cap m c l:Nat}{xs:List α}{fp:List Nat}(hw:Wn ops n L ⟨none,.call ⟨.builtin .clear,#[x],#[t]⟩,ty,p,af,g⟩) (ht:P.underlying t=some (.slice e)) (hT:Ty P e z (sz α) bytes) (hz:z.cells.size=sz α) (hz1:∀ v∈z.cells.toList,v.oneCell'=true)
    (hx:evL L x=some (.slice (slA (some ⟨b,off,none⟩) k cap (sz α)) l c)) (hl:l=xs.length-k) (hk:k≤xs.length)
    (H:Sep M w0 Δ F w) (i:Nat) (hi:Δ[i]? = some (Wk.mine [.slice (some ⟨b,off,none⟩) m cap] xs fp))
    (kk:∀ w',Sep M w0 (Δ.set i (Wk.mine [.slice (some ⟨b,off,none⟩) k cap] (xs.take k) fp)) F w'→RL P n ops Q rest L w') :
    RL P n ops Q (⟨none,.call ⟨.builtin .clear,#[x],#[t]⟩,ty,p,af,g⟩::rest) L w:=by
  subst hl
  have o:=H.mine i hi
  rcases o with ⟨hf,_⟩ | ⟨e1,_⟩ | ⟨b',o',cap',cur,T,fr,fs,h1,h2,h3,h4,h5,h6,h7,h8⟩
  · cases hf
  · simp at e1
  · simp only [List.cons.injEq,Value.slice.injEq,Option.some.injEq,Addr.mk.injEq,and_true] at h1
    obtain ⟨⟨rfl,rfl⟩,hm,hc⟩:=h1
    subst hc
    have hfr:=h4 rfl
    subst hfr
    obtain ⟨h9,h10⟩:=pN k h8
    subst h10
    subst h2
    have hn:=H.nodup1 hi
    have el:(xs.take k).length=k:=by rw [List.length_take]; omega
    rcases Nat.eq_zero_or_pos (xs.length-k) with e | e
    · have hr:=zW (P:=P) (ty:=ty) (w:=w) (a:=slA (some ⟨b,off,none⟩) k cap (sz α)) (c:=c) ht
      rw [← e] at hr
      refine Gg hw rfl (v := .tuple #[]) (w':=w) (fun a ha=>?_) (kk _ (H.conv i (Wk.mine [.slice (some ⟨b,off,none⟩) k cap] (xs.take k) [b]) hi (.inr (.inr ⟨b,off,cap,cur,T,(0,0),[],by rw [el],rfl,h3,fun _=>rfl,by rw [el]; omega,h6,h7,h9⟩)) (fun b hb=>hb) hn))
      simp [execOp,resolve,invoke,builtin,ha.eval hx,hr]
    · have hlt:k<cap:=by omega
      have ea:slA (some ⟨b,off,none⟩) k cap (sz α)=some ⟨b,off+k*sz α,none⟩:=by
        unfold slA; rw [if_neg ω]; simp [jk]
      rw [ea] at hx
      have hsum:k*sz α+(xs.length-k)*sz α=xs.length*sz α:=by rw [← Nat.add_mul]; congr 1; omega
      have hle:xs.length*sz α≤cap*sz α:=Nat.mul_le_mul_right _ h5
      have hsz:off+k*sz α+(xs.length-k)*sz α≤cur.size:=by omega
      have hr:=zz (P:=P) (ty:=ty) (c:=c) ht hT hz hz1 h3 e hsz
      have hE:Ext (· = b) w (Wk.put w b (.cells (lay cur (off+k*sz α) (Builtin.zeroCells z.cells (xs.length-k)).toList) T (0,0))):=Ext.refl.put (.inl rfl)
      refine Gg hw rfl (v := .tuple #[]) (w':=Wk.put w b (.cells (lay cur (off+k*sz α) (Builtin.zeroCells z.cells (xs.length-k)).toList) T (0,0))) (fun a ha=>?_) (kk _ (H.set hi (q:=Wk.mine [.slice (some ⟨b,off,none⟩) k cap] (xs.take k) [b]) (hE.mono fun b' _ e=>by subst e; simp [Wk.mine])
        (.inr (.inr ⟨b,off,cap,_,T,(0,0),[],by rw [el],rfl,iD h3,fun _=>rfl,by rw [el]; omega,h6,by rw [mZ]; exact h7,(h9.congr (xz fun j hj=>?_)).st fun x hx=>by simp at hx⟩)) hn (fun b' hb' => .inl hb')))
      · simp [execOp,resolve,invoke,builtin,ha.eval hx,hr]
      · rw [el] at hj
        rw [Array.getElem?_toList,Array.getElem?_toList]
        exact sH _ _ _ _ (.inl hj)
end
section
variable {α:Type}[Inhabited α] {p:α→Bool}{vs ws:List α}{i j:Nat}
def jJ (p:α→Bool) (xs:List α):List α:=xs.filter fun x => !p x
theorem vw {k:Nat}(hk:k<vs.length) (h:p (vs.getD k default)=false):jJ p (vs.take (k+1))=jJ p (vs.take k)++[vs.getD k default]:=by
  rw [← fF (d:=default) hk]
  unfold jJ
  rw [List.filter_append,List.filter_cons_of_pos (by simp only [h,Bool.not_false]),List.filter_nil]
theorem xZ {k:Nat}(hk:k<vs.length) (h:p (vs.getD k default)=true):jJ p (vs.take (k+1))=jJ p (vs.take k):=by
  rw [← fF (d:=default) hk]
  unfold jJ
  rw [List.filter_append,List.filter_cons_of_neg (by simp only [h,Bool.not_true]; exact Bool.false_ne_true),List.filter_nil,List.append_nil]
theorem vf:∀ {k:Nat},k≤vs.length→(∀ i,i<k→p (vs.getD i default)=false)→jJ p (vs.take k)=vs.take k
  | 0,_,_=>by simp [jJ]
  | k+1,hk,h=>by
    rw [vw ω (h k ω),vf ω fun i hi=>h i ω,fF ω]
def FInv (p:α→Bool) (vs ws:List α) (i j:Nat):Prop:=j≤vs.length∧ws.length=vs.length∧i<j∧ws.take i=jJ p (vs.take j)∧ws.drop j=vs.drop j
theorem Jc (h:FInv p vs ws i j):ws.getD j default=vs.getD j default:=by
  have:=congrArg (fun l=>l.getD 0 default) h.2.2.2.2
  simpa [List.getD] using this
theorem zV {k:Nat}(hk:k<vs.length) (h1:p (vs.getD k default)=true) (h2:∀ i,i<k→p (vs.getD i default)=false):FInv p vs vs k (k+1):=
  ⟨ω,rfl,ω,by rw [xZ hk h1,vf ω h2],rfl⟩
theorem IA (h:FInv p vs ws i j) (hj:j<vs.length) (hp:p (vs.getD j default)=true):FInv p vs ws i (j+1):=by
  obtain ⟨h1,h2,h3,h4,h5⟩:=h
  refine ⟨ω,h2,ω,by rw [xZ hj hp]; exact h4,?_⟩
  have:=congrArg (List.drop 1) h5
  simpa [List.drop_drop] using this
theorem FC (h:FInv p vs ws i j) (hj:j<vs.length) (hp:p (vs.getD j default)=false):FInv p vs (ws.set i (vs.getD j default)) (i+1) (j+1):=by
  obtain ⟨h1,h2,h3,h4,h5⟩:=h
  refine ⟨ω,by rw [List.length_set]; exact h2,ω,?_,?_⟩
  · rw [vw hj hp,← h4,← fF (d:=default) (by rw [List.length_set]; omega),List.take_set_of_le ω]
    congr 2
    rw [cm,if_pos ⟨rfl,ω⟩]
  · rw [List.drop_set_of_lt ω]
    have:=congrArg (List.drop 1) h5
    simpa [List.drop_drop] using this
omit [Inhabited α] in
theorem Gm (h:FInv p vs ws i j) (hj:j=vs.length):ws.take i=jJ p vs:=by
  subst hj
  have:=h.2.2.2.1
  rwa [List.take_length] at this
omit [Inhabited α] in
theorem BJ {vs:List α}(h:ff p vs = -1):jJ p vs=vs:=by
  unfold jJ
  rw [List.filter_eq_self]
  intro x hx
  have:=ik (p:=p) (xs:=vs)
  rw [h] at this
  have:=List.any_eq_false.1 this.symm x hx
  simpa using this
end
end Go.Wk
namespace Go.Wk
open Rp (sz own)
structure Desk.few (d:Desk):Prop where
  qn:d.Queues.length≤10
  ql:∀ q∈d.Queues,q.length≤50
  al:d.Aside.length≤100
  nl:d.Answers.length≤400
  bl:∀ a∈d.Answers,a.Bytes.length≤1000
  nx : -1000≤d.Next∧d.Next≤2000000000
  tn : -1000≤d.Turn∧d.Turn≤2000000000
section
variable {s:Shape}{d:Desk}{id:Int}
theorem s7 {α:Type}{m:Nat}:∀ {qs:List (List α)},(∀ q∈qs,q.length≤m)→qs.flatten.length≤qs.length*m
  | [],_=>by simp
  | q::qs,h=>by
    have h1:=h q (List.mem_cons_self ..)
    have h2:=s7 (qs:=qs) fun r hr=>h r (List.mem_cons_of_mem _ hr)
    simp only [List.flatten_cons,List.length_append,List.length_cons,Nat.add_mul,Nat.one_mul]
    omega
theorem Desk.few.all (h:d.few):(Jy d).length≤600:=by
  have h1:=s7 h.ql
  have h2:=h.al
  have h3:=h.qn
  rw [Hq]
  have h4:d.Queues.length*50≤10*50:=Nat.mul_le_mul_right _ h3
  omega
end
end Go.Wk

namespace Go.Wk
open Rp (own)
instance:Flat Int:=⟨fun h=>by
  obtain ⟨e1,e2,ok⟩:=dr h
  subst e1
  exact ⟨e2,fun _ _=>⟨rfl,rfl,ok⟩⟩⟩
def isP (g:Int) (x:Int):Bool:=decide (x=g)
def B1 (z:Wld) (g:Int):Wld:=⟨z.Shape,z.Groups,jJ (isP g) z.On,z.Tapes,z.Writes,z.Stop,z.Down⟩
def iB (z:Wld) (g:Int):WldResult:=if upF z≠0 then ⟨upF z,noWld⟩ else if eq z g≠0 then ⟨eq z g,noWld⟩ else ⟨0,B1 z g⟩
section
variable {z:Wld}{g:Int}
theorem HX (h:z.Ok):(B1 z g).Ok:=h
theorem JX (h:upF z≠0):iB z g=⟨upF z,noWld⟩:=if_pos h
theorem Kj (h:upF z=0) (h2:eq z g≠0):iB z g=⟨eq z g,noWld⟩:=by rw [iB,if_neg ω,if_pos h2]
theorem BX (h:upF z=0) (h2:eq z g=0):iB z g=⟨0,B1 z g⟩:=by rw [iB,if_neg ω,if_neg ω]
end
end Go.Wk
namespace Go.Wk
open Go.Proofs Rp Go.Proofs.Tryz
set_option maxRecDepth 10000
theorem gU {w:World}{rs:List Int}{A:Option Addr}{n C:Nat}{fp:List Nat}{gf:FuncId}{gL:List Value}{gF:Func}{p:Int→Bool}(o:own true w [.slice A n C] rs fp) (nd:fp.Nodup) (gH:Tryz.prog.funcs[gf]? = some gF) (gB:gF.body.isNone=false) (gN:NG gF) (gC:∀ w1,Ext (· ∈ fp) w w1→∀ (y:Int),I64ok y→Ret Tryz.prog gf (([.int .i64 y]:List Value)++gL).toArray w1 fun v w'=>Ext No w1 w'∧v = .bool (p y)):Ret Tryz.prog 147 #[.slice A n C,.func (.func gf) #[] gL.toArray] w fun v w'=>(∃ m,v = .slice A m C∧Mut w w' fp [.slice A m C] (jJ p rs)):=by
 obtain rfl:=eS o;refine aH func147 Z ntmps147 Z (fun Q hQ hN=>?_);have H0:=Sep.begin o nd;refine ab (sA Z Z (aa (ab (sR 2 Z (sE func217 uz Z (jm (H0.msees 0 Z) (p:=p) gH gB gN (fun w1 e1 i0 hi0=>gC w1 (H0.ext.trans e1.no) _ (dJ (H0.mine 0 Z) i0 hi0))) H0 (fun w1 e1 H1=>sA Z Z (aa (ac (ab (sR 2 Z (aa (aD Z (fun c1=>?_) (fun c1=>?_)))))))))))))
 ·refine ab (sR 2 Z (rN hQ results147 Z ?_));exact ⟨_,Z,by rw [BJ c1]; exact H1.done⟩
 ·refine ax (ac (ac ?_));obtain ⟨k0,hk0,hkl,hkp,hkn⟩:=x9 (d:=default) c1;obtain ⟨hb0,ho0,had0⟩:=eB (H1.mine 0 Z) 0 ω;subst had0;have hrl:=oL (H1.mine 0 Z);refine an (sM Z Z (sV Z (aE Z Z iO) (sA Z Z (aa (ay (bJ (γ:=Nat × Nat × List Int × List Nat) (fun (i,j,ws,f)=>[(0,.slice (some ⟨hb0,ho0,none⟩) rs.length C),(1,.func (.func gf) #[] gL.toArray),(5,.int .i64 i),(6,.int .i64 j)]) (fun (i,j,ws,f) w'=>Sep (· ∈ fp) w [mine [.slice (some ⟨hb0,ho0,none⟩) rs.length C] ws f] [] w'∧FInv p rs ws i j) (fun (i,j,ws,f)=>rs.length-j) (k0,k0+1,rs,fp) ⟨Z,Z,eqI hk0,eqI ω,trivial⟩ ⟨H1,zV ω hkp hkn⟩ (fun (i,j,ws,f) w2 H2=>?_)))))));obtain ⟨H2,hI⟩:=H2;refine ac (ab (sR 2 Z (sV Z (aS bv Z) (sV Z (aY Z Z) (aa (aD Z (fun c2=>?_) (fun c2=>?_)))))))
  ·refine ax (ac (ay (ac ?_)));obtain ⟨eb,eo,ea,eat⟩:=dc (H2.mine 0 Z) j (by have:=hI.2.1; omega);have eok:=dJ (H2.mine 0 Z) j (by have:=hI.2.1; omega)
   change I64ok (ws.getD j default) at eok
   change _=some (Value.int .i64 (ws.getD j default)) at eat
   rw [Jc hI] at eat eok;cases ea;have hwl:=hI.2.1;have hij:=hI.2.2.1;refine an (sR 2 Z (sV Z (aB bv ts2 Z Z Z j ω ω) (sV Z (aj tu2 Z Z eat) (sA Z Z (aa (ab (sR 2 Z (eU ah Z Z (eT (lb:=gL) Z gH gB gN Z) (gC _ H2.ext (rs.getD j default) eok) (fun v2 w3 r2=>?_)))))))));obtain ⟨e2,rfl⟩:=r2;have H3:=H2.to e2;refine sV Z (bg Z) (aa (cK Z (fun c3=>?_) (fun c3=>?_)))
   ·refine ab (sR 3 Z (sV Z (aB bv ts2 Z Z Z i ω ω) (qM (u:=(rs.getD j default)) ah ts2 Z H3 0 Z i ω Z Z Z ⟨Z,Z,eok⟩ (fun w4 fp1 _ H4=>?_))))
    try dsimp only[lNA,lCA,lSZ,lSS] at H4
    refine aa (an (sM Z Z (sV Z (aE Z Z iO) (sA Z Z (aa (an (sM Z Z (sV Z (aE Z Z iO) (sA Z Z (aa (⟨(i+1,j+1,_,_),⟨Z,Z,Z,Z,trivial⟩,⟨H4,FC hI ω (by simpa using c3)⟩,θ⟩)))))))))))
   ·refine ax (an (sM Z Z (sV Z (aE Z Z iO) (sA Z Z (aa (⟨(i,j+1,_,_),⟨Z,Z,Z,Z,trivial⟩,⟨H3,IA hI ω (by simpa using c3)⟩,θ⟩))))))
  ·refine aP (ac ?_);have hwl:=hI.2.1;have hij:=hI.2.2.1;have hjl:=hI.1;refine an (sR 2 Z (sV Z (CW bv ts2 Z Z i Z ω) (F3 ah bv bG Z (jv Z) Z ω ω H2 0 Z (fun w5 H5=>?_))))
   try dsimp only[lNA,lCA,lSZ,lSS] at H5
   refine aa (ac ?_);have hcp:=gT (H5.mine 0 Z);rw [List.length_take] at hcp;refine an (sR 2 Z (sV Z (CH bv ts2 Z Z i Z ω) (rA hQ results147 Z ?_)));have HE:=H5;rw [Gm hI ω] at HE;exact ⟨_,Z,HE.done⟩
theorem kE {w:World}{x g:Int}{gb:Nat}(gB:w.heap[gb]? = some (.cells [.int .i64 g].toArray 2)):Ret Tryz.prog 148 #[.int .i64 x,.pointer (some ⟨gb,0,none⟩)] w fun v w'=>Ext No w w'∧(v = .bool (isP g x)):=by
 refine aH func148 Z ntmps148 Z (fun Q hQ hN=>?_);have H0:=Sep.start (cQ gB aA);refine ab (sA Z Z (aa (ab (sM Z Z (sLd tu2 (H0.fbox 0 Z) Z (sR 2 Z (rN hQ results148 Z ?_)))))));exact ⟨H0.ext,Z⟩
theorem ie {w:World}{z:Wld}{zb:Nat}{fp:List Nat}{g:Int}(o:OwnW w zb 31 z fp) (nd:fp.Nodup):Ret Tryz.prog 84 #[.pointer (some ⟨zb,0,none⟩),.int .i64 g] w fun v w'=>(MutW w w' fp zb 31 (B1 z g)):=by
 refine aH func84 Z ntmps84 Z (fun Q hQ hN=>?_);have H0:=Sep.beginW o nd;refine ab (bm ah Z Z H0 (fun b1 w1 e1 g1 H1=>aa ?_));obtain ⟨wA1,wC1,wA2,wC2,wA3,wC3,wf1,wf2,wf3,wok1,H2⟩:=H1.openW 0 Z
 try dsimp only[lNA,lCA,lSZ,lSS] at H2
 have wok1U:=wok1;unfold Wld.Ok Shape.Ok I64ok at wok1U;have wL1:=oL (H2.mine 3 Z);have wL2:=oL (H2.mine 4 Z);have wL3:=oL (H2.mine 5 Z);refine an (sR 3 Z (sF ba Z cB (sLd bv (H2.box 0 Z) Z (sV Z (jh Z) (sC func147 BU Z (gU (p:=isP g) (H2.mine 4 Z) (H2.nodup1 (i:=4) Z) func148 Z zO (fun w1 e1 y K=>kE (H2.boxOff 4 1 Z Z Z e1))) (fun v1 w2 r1=>?_))))));obtain ⟨dm1,rfl,mm1⟩:=r1;obtain ⟨fp1,H3⟩:=H2.mut 4 Z mm1
 try dsimp only[lNA,lCA,lSZ,lSS] at H3
 refine sV Z (fP Z) (sF ba Z cB (eH ah cB Z Z Z H3 0 Z Z (fun w3 e2 H4=>?_)));dsimp only[lNA,lCA,lSZ,lSS,aI] at H4;refine aa (hN _ _ (iL results84 ?_));obtain ⟨fp2,H5⟩:=H4.closeW 0 3 4 5 (B1 z g) Z Z Z Z Z Z Z Z Z Z (HX wok1)
 try dsimp only[lNA,lCA,lSZ,lSS] at H5
 exact H5.doneW
theorem jP {w:World}{z:Wld}{zA9 zA10 zA11:Option Addr}{zC9 zC10 zC11:Nat}{g:Int}(zK:z.Ok) (zS9:Sees w [.slice zA9 z.Groups.length zC9] z.Groups) (zS10:Sees w [.slice zA10 z.On.length zC10] z.On) (zS11:Sees w [.slice zA11 z.Tapes.length zC11] z.Tapes) (hb:ez z≤1048576):Ret Tryz.prog 28 #[z.val zA9 zC9 zA10 zC10 zA11 zC11,.int .i64 g] w fun v w'=>Ext No w w'∧(∃ A10 C10 A11 C11 A12 C12,v=(iB z g).val A10 C10 A11 C11 A12 C12∧Res w w' [.int .i64 (iB z g).Code,.int .i64 (iB z g).Wd.Shape.Groups,.int .i64 (iB z g).Wd.Shape.Column,.int .i64 (iB z g).Wd.Shape.Data,.int .i64 (iB z g).Wd.Shape.Spare,.int .i64 (iB z g).Wd.Shape.Rows,.int .i64 (iB z g).Wd.Shape.Cap,.int .i64 (iB z g).Wd.Shape.Batch,.int .i64 (iB z g).Wd.Shape.Queue,.int .i64 (iB z g).Wd.Shape.Stage,.slice A10 (iB z g).Wd.Groups.length C10,.slice A11 (iB z g).Wd.On.length C11,.slice A12 (iB z g).Wd.Tapes.length C12,.int .i64 (iB z g).Wd.Writes,.int .i64 (iB z g).Wd.Stop,.bool (iB z g).Wd.Down] (iB z g)):=by
 have zK2:=zK;unfold Wld.Ok Shape.Ok at zK2
 try unfold I64ok at zK2
 try unfold maxLen at zK2
 have zL9:=sL zS9;obtain ⟨zF9,zO9⟩:=zS9;have zL10:=sL zS10;obtain ⟨zF10,zO10⟩:=zS10;have zL11:=sL zS11;obtain ⟨zF11,zO11⟩:=zS11;refine aH func28 Z ntmps28 Z (fun Q hQ hN=>?_);have H0:=Sep.start (ae zO9 (ae zO10 (ae zO11 aA)));refine ab (bm ah Z Z H0 (fun b1 w1 e1 g1 H1=>bH ah Z zeroValue33 H1 (fun b2 w2 e2 g2 H2=>aa (ab (sV Z (ak ba Z bZ Z Z (At.whole (H2.box 0 Z))) (sE func57 iS Z (df η (H2.sees 0 Z) (H2.sees 1 Z) (H2.sees 2 Z)) H2 (fun w3 e3 H3=>sA Z Z (aa (ac (ab (sR 2 Z (aa (aD Z (fun c1=>?_) (fun c1=>?_))))))))))))))
 ·have hs:=(bx (fl (w:=z) ω).1).1;refine an (sM Z Z (sE func66 nS Z (dg (H3.box 0 Z) η (H3.sees 0 Z) (H3.sees 1 Z) (H3.sees 2 Z) η) H3 (fun w4 e4 H4=>sA Z Z (aa (ac (ab (sR 2 Z (aa (aD Z (fun c2=>?_) (fun c2=>?_))))))))))
  ·refine ab (sM Z Z (sV Z (aM bE Z Z) (aG ah cq Z Z Z Z H4 1 Z Z (fun w5 e5 H5=>?_))));dsimp only[lNA,lCA,lSZ,lSS,aI] at H5;refine aa (bc (hQ _ _ (cr results28 Z (az dz Z cq Z (At.whole (H5.box 1 Z))) ?_)));rw [Kj ω ω];exact ⟨H5.ext,none,0,none,0,none,0,Z,cZ (by unfold I64ok eq; (try dsimp only); repeat (any_goals split)<;>omega)⟩
  ·refine ax (ab (sV Z (ak ba Z bZ Z Z (At.whole (H4.box 0 Z))) (sC func48 dP Z (bu η (H4.sees 0 Z) (H4.sees 1 Z) (H4.sees 2 Z) ξ) (fun v3 w6 r3=>?_))));obtain ⟨e6,sa1,sk1,sa2,sk2,sa3,sk3,rfl,r3⟩:=r3;obtain ⟨fp1,H6⟩:=H4.res e6 r3;obtain ⟨sf1,sf2,sf3,sq1,sok1,so1,so2,so3⟩:=eQ (H6.mine 2 Z);have H7:=H6.part 2 Z [mine [.slice _ z.Groups.length _] z.Groups sf1,mine [.slice _ z.On.length _] z.On sf2,mine [.slice _ z.Tapes.length _] z.Tapes sf3] (all_cons so1 (all_cons so2 (all_cons so3 σ))) (by simp [blocks,mine,sq1])
   try dsimp only[lNA,lCA,lSZ,lSS] at H7
   refine bH ah Z zeroValue31 H7 (fun b3 w7 e7 g3 H8=>aG ah bZ Z Z Z Z H8 6 Z Z (fun w8 e8 H9=>?_));dsimp only[lNA,lCA,lSZ,lSS,aI] at H9;refine aa (ab (sM Z Z ?_));obtain ⟨fp2,H10⟩:=H9.closeW 6 3 4 5 z Z Z Z Z Z Z Z Z Z Z zK
   try dsimp only[lNA,lCA,lSZ,lSS] at H10
   refine sC func84 vH Z (ie (H10.wldAt 6 Z) (H10.nodup1 (i:=6) Z)) (fun v4 w9 r4=>?_);have mm1:=r4;obtain ⟨fp3,H11⟩:=H10.mutW 6 Z mm1
   try dsimp only[lNA,lCA,lSZ,lSS] at H11
   refine aa (ac ?_);obtain ⟨wA1,wC1,wA2,wC2,wA3,wC3,wf1,wf2,wf3,wok1,H12⟩:=H11.openW 6 Z
   try dsimp only[lNA,lCA,lSZ,lSS] at H12
   have wok1U:=wok1;unfold Wld.Ok Shape.Ok I64ok at wok1U;have wL1:=oL (H12.mine 8 Z);have wL2:=oL (H12.mine 9 Z);have wL3:=oL (H12.mine 10 Z);refine an (sV Z (ak ba Z bZ Z Z (At.whole (H12.box 6 Z))) (sV Z (aM bE Z Z) (aG ah cq Z Z Z Z H12 1 Z Z (fun w10 e10 H13=>?_))));dsimp only[lNA,lCA,lSZ,lSS,aI] at H13;refine aa (bc (hQ _ _ (cr results28 Z (az dz Z cq Z (At.whole (H13.box 1 Z))) ?_)));rw [BX ω ω];exact ⟨H13.ext,_,_,_,_,_,_,Z,WldResult.out (x:=⟨0,B1 z g⟩) (H13.sub (.cons _ (.cons _ (.cons _ (.cons _ (.cons _ (.cons _ (.cons _ (.cons _ (.cons_cons _ (.cons_cons _ (.cons_cons _ List.Sublist.slnil)))))))))))) ⟨by show I64ok 0; unfold I64ok; omega,zK⟩⟩
 ·refine ax (ac (ab (sR 2 Z (aa (aD Z (fun c3=>?_) (fun c3=>?_))))))
  ·refine ab (sM Z Z (sV Z (aM bE Z Z) (aG ah cq Z Z Z Z H3 1 Z Z (fun w11 e11 H14=>?_))));dsimp only[lNA,lCA,lSZ,lSS,aI] at H14;refine aa (bc (hQ _ _ (cr results28 Z (az dz Z cq Z (At.whole (H14.box 1 Z))) ?_)));rw [JX ω];exact ⟨H14.ext,none,0,none,0,none,0,Z,cZ (by unfold I64ok; have:=m0 (z:=z); (try dsimp only); omega)⟩
  ·refine ax (ab (sV Z (ak ba Z bZ Z Z (At.whole (H3.box 0 Z))) (sC func48 dP Z (bu η (H3.sees 0 Z) (H3.sees 1 Z) (H3.sees 2 Z) ξ) (fun v5 w12 r5=>?_))));obtain ⟨e12,sa4,sk4,sa5,sk5,sa6,sk6,rfl,r5⟩:=r5;obtain ⟨fp4,H15⟩:=H3.res e12 r5;obtain ⟨sf4,sf5,sf6,sq2,sok2,so4,so5,so6⟩:=eQ (H15.mine 2 Z);have H16:=H15.part 2 Z [mine [.slice _ z.Groups.length _] z.Groups sf4,mine [.slice _ z.On.length _] z.On sf5,mine [.slice _ z.Tapes.length _] z.Tapes sf6] (all_cons so4 (all_cons so5 (all_cons so6 σ))) (by simp [blocks,mine,sq2])
   try dsimp only[lNA,lCA,lSZ,lSS] at H16
   refine bH ah Z zeroValue31 H16 (fun b4 w13 e13 g4 H17=>aG ah bZ Z Z Z Z H17 6 Z Z (fun w14 e14 H18=>?_));dsimp only[lNA,lCA,lSZ,lSS,aI] at H18;refine aa (ab (sM Z Z ?_));obtain ⟨fp5,H19⟩:=H18.closeW 6 3 4 5 z Z Z Z Z Z Z Z Z Z Z zK
   try dsimp only[lNA,lCA,lSZ,lSS] at H19
   refine sC func84 vH Z (ie (H19.wldAt 6 Z) (H19.nodup1 (i:=6) Z)) (fun v6 w15 r6=>?_);have mm2:=r6;obtain ⟨fp6,H20⟩:=H19.mutW 6 Z mm2
   try dsimp only[lNA,lCA,lSZ,lSS] at H20
   refine aa (ac ?_);obtain ⟨wA4,wC4,wA5,wC5,wA6,wC6,wf4,wf5,wf6,wok2,H21⟩:=H20.openW 6 Z
   try dsimp only[lNA,lCA,lSZ,lSS] at H21
   have wok2U:=wok2;unfold Wld.Ok Shape.Ok I64ok at wok2U;have wL4:=oL (H21.mine 8 Z);have wL5:=oL (H21.mine 9 Z);have wL6:=oL (H21.mine 10 Z);refine an (sV Z (ak ba Z bZ Z Z (At.whole (H21.box 6 Z))) (sV Z (aM bE Z Z) (aG ah cq Z Z Z Z H21 1 Z Z (fun w16 e16 H22=>?_))));dsimp only[lNA,lCA,lSZ,lSS,aI] at H22;refine aa (bc (hQ _ _ (cr results28 Z (az dz Z cq Z (At.whole (H22.box 1 Z))) ?_)));rw [BX ω ω];exact ⟨H22.ext,_,_,_,_,_,_,Z,WldResult.out (x:=⟨0,B1 z g⟩) (H22.sub (.cons _ (.cons _ (.cons _ (.cons _ (.cons _ (.cons _ (.cons _ (.cons _ (.cons_cons _ (.cons_cons _ (.cons_cons _ List.Sublist.slnil)))))))))))) ⟨by show I64ok 0; unfold I64ok; omega,zK⟩⟩
end Go.Wk
namespace Go.Wk
open Go.Proofs Rp Go.Proofs.Tryz
set_option maxRecDepth 10000
theorem ly {w:World}{n s:Int}  : Ret Tryz.prog 88 #[.agg #[.int .i64 n,.int .i64 s]] w fun v w'=>Ext No w w'∧(v = .bool (ins n 1 4 && ins s 0 2)):=by
 refine aH func88 Z ntmps88 Z (fun Q hQ hN=>?_);have H0:=Sep.start (w:=w) (F:=[]) σ;refine ab (bm ah Z Z H0 (fun b1 w1 e1 g1 H1=>sA Z Z (aa (ab (sF jz Z ts2 (sLd tu2 (H1.box 0 Z) Z (sE func93 cu Z aX H1 (fun w2 e2 H2=>sM Z Z (bU 3 (j:=3) (want:=true) (t:=9) Z Z Z Z (fun hg1 kk1=>au (wgE Z Z Z hg1) Z Z (ag jz Z ts2 Z Z) (au (wgE Z Z Z hg1) Z Z (aj tu2 Z Z (am (H2.box 0 Z) Z)) (cw (wgE Z Z Z hg1) Z Z (aV func93 Z cu Z) aX (fun w4 e4=>kk1 _ _ (kx Z (kx Z (kx Z k0))) Z (Ext.refl.trans e4))))) (fun w3 e3=>?_))))))))));have H3:=H2.to e3;refine sV Z (bR Z Z) (rA hQ results88 Z ?_);exact ⟨H3.ext,Z⟩
theorem l5 {w:World}{n s m:Nat}{xs:List (List UInt8)}{xsA:Option Addr}{xsC:Nat}(hl:xs.length=n) (hn:1≤n∧n≤4) (hs:s≤2) (hx:∀ i,i<xs.length→(xs.getD i []).length=m) (hm:m≤1000) (xsS:Sees w [.slice xsA xs.length xsC] xs):Ret Tryz.prog 31 #[.slice xsA xs.length xsC,.int .i64 s] w fun v w'=>Ext No w w'∧(∃ A1 C1,v=(⟨0,eD xs n m s⟩:BlocksResult).val A1 C1∧Res w w' [.int .i64 (⟨0,eD xs n m s⟩:BlocksResult).Code,.slice A1 (⟨0,eD xs n m s⟩:BlocksResult).Blocks.length C1] (⟨0,eD xs n m s⟩:BlocksResult)):=by
 have xsL:=sL xsS;obtain ⟨xsF,xsO⟩:=xsS;have hx0:=hx 0 ω;subst hl;refine aH func31 Z ntmps31 Z (fun Q hQ hN=>?_);have H0:=Sep.start (ae xsO aA);refine ab (bH ah Z zeroValue62 H0 (fun b1 w1 e1 g1 H1=>aa (ab (sM Z Z (sE func87 ET Z (oG (H1.sees 0 Z)) H1 (fun w2 e2 H2=>sM Z Z (sV Z (aM sX Z Z) (bH ah Z zeroValue107 H2 (fun b2 w3 e3 g2 H3=>aG ah rG Z Z Z Z H3 1 Z Z (fun w4 e4 H4=>?_))))))))));dsimp only[lNA,lCA,lSZ,lSS,aI] at H4;refine aa (ac (ay (ab (sV Z (ak jz Z rG Z Z (At.whole (H4.box 1 Z))) (sE func88 EG Z ly H4 (fun w5 e5 H5=>sV Z (bg Z) (sA Z Z (aa (cK Z (fun c1=>?_) (fun c1=>?_))))))))))
 ·exact absurd c1 (by simp only [Bool.not_eq_true,Bool.not_eq_false',Bool.and_eq_true]; simp [aN]; omega)
 ·refine ab (sM Z Z (sE func89 EY Z (sf (H5.sees 0 Z) ω ξ (m:=m)) H5 (fun w6 e6 H6=>sV Z (bg Z) (sA Z Z (aa (cK Z (fun c2=>?_) (fun c2=>?_)))))))
  ·exact absurd c2 σ
  ·refine ac ?_;obtain ⟨eb1,eo1,ea1,ek1,ef1,ee1,ec1,eO1,eH1⟩:=fJ (H6.seen 0 Z) 0 ω;have eP1:=H6.look1 0 Z eO1 eH1;refine an (sM Z Z (sV Z (aB cE aZ Z Z ee1 0 ω ω) (sV Z (aj aU Z Z ec1) (sV Z (aS aU Z) (sR 2 Z (aa (aD Z (fun c3=>?_) (fun c3=>?_))))))))
   ·exact absurd c3 ω
   ·refine ax (ab (sV Z (ak jz Z rG Z Z (At.whole (eP1.box 1 Z))) (sM Z Z (sC func90 EC Z (jR ω ω ω ξ ω (eP1.sees 0 Z) (n:=xs.length) (s:=s) (m:=m)) (fun v4 w7 r4=>?_)))));obtain ⟨e7,r4⟩:=r4;obtain ⟨fp1,H7⟩:=eP1.res e7 r4;obtain ⟨a1,k1,q1⟩:=ao (H7.mine 2 Z);cases q1;refine sV Z (aM D3 Z Z) (aG ah Ku Z Z Z Z H7 0 Z Z (fun w8 e8 H8=>?_));dsimp only[lNA,lCA,lSZ,lSS,aI] at H8;refine aa (bc (hQ _ _ (cr results31 Z (az Ko Z Ku Z (At.whole (H8.box 0 Z))) ?_)));exact ⟨H8.ext,_,_,Z,BlocksResult.out (x:=⟨0,eD xs xs.length m s⟩) (H8.sub (.cons _ (.cons _ (.cons_cons _ List.Sublist.slnil)))) (by show I64ok (0:Int); unfold I64ok; omega)⟩
end Go.Wk
namespace Go.Wk
open Go.Proofs Rp Go.Proofs.Tryz
set_option maxRecDepth 10000
theorem sb {w:World}{z:Wld}{zb rC6 rC7 rC8:Nat}{fp rF6 rF7 rF8:List Nat}{r:Rec}{rA6 rA7 rA8:Option Addr}(o:OwnW w zb 31 z fp) (nd:fp.Nodup) (rK:r.Ok) (rO6:own false w [.slice rA6 r.Rows.length rC6] r.Rows rF6) (rD6:∀ b∈rF6,b ∉ fp) (rO7:own false w [.slice rA7 r.Data.length rC7] r.Data rF7) (rD7:∀ b∈rF7,b ∉ fp) (rO8:own false w [.slice rA8 r.Delta.length rC8] r.Delta rF8) (rD8:∀ b∈rF8,b ∉ fp) (hT:z.Tapes.length=2) (hb:fX r≤1048576) (hw:z.Writes≤1500000000):Ret Tryz.prog 128 #[.pointer (some ⟨zb,0,none⟩),r.val rA6 rC6 rA7 rC7 rA8 rC8] w fun v w'=>(v = .int .i64 (oz z r)∧MutW w w' fp zb 31 (layZ z r)):=by
 cases hf:eL z
 ·rw [(mT hf).1,(mT hf).2]; exact oE o nd rK rO6 rD6 rO7 rD7 rO8 rD8 hf hT hb hw
 ·rw [(u7 hf).1,(u7 hf).2]; exact mI o nd rK rO6 rD6 rO7 rD7 rO8 rD8 hf hT hb hw
end Go.Wk
