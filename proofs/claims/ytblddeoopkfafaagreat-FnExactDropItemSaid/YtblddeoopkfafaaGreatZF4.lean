/-
  Laws on walking, and the functions walked, each once: what this claim comes to.
-/
import Derived.Test.YtblddeoopkfafaaGreatZF3
set_option linter.unusedVariables false
set_option linter.unusedSimpArgs false
namespace Go.Wk
open Go.Proofs Rp Go.Proofs.Tryz
set_option maxRecDepth 10000
theorem kf {w:World}{xs:List Block}{xsA:Option Addr}{xsC:Nat}{k:Int}{fp:List Nat}(o:own true w [.slice xsA xs.length xsC] xs fp) (nd:fp.Nodup) (hk:0≤k∧k+mkL cr xs≤4611686018427387904):Ret Tryz.prog 238 #[.slice xsA xs.length xsC,.int .i64 k] w fun v w'=>(v = .int .i64 (k+mkL cr xs)∧∃ xs',Mut w w' fp [.slice xsA xs.length xsC] xs'∧(xs'.length=xs.length∧mkL cr xs'=mkL cr xs∧MkL MkBlock cr xs' k)):=by
 have len:=oL o;refine aF (vs:=[.slice xsA xs.length xsC,.int .i64 k]) func238 Z ntmps238 Z (fun Q hQ hN=>?_);have H0:=Sep.begin o nd;refine ab (sA Z Z (aa (ac (ab (sA Z Z (aa (ao (bw (γ:=Nat × List Block × List Nat) (fun (i,ys,f)=>[(0,.slice xsA xs.length xsC),(1,.int .i64 (k+bt (fun i=>cr (xs.getD i default)) i)),(5,.int .i64 i)]) (fun (i,ys,f) w'=>Sep (· ∈ fp) w [mine [.slice xsA xs.length xsC] ys f] [] w'∧MkInv MkBlock cr xs k i ys∧True) (fun (i,ys,f)=>xs.length-i) (0,xs,fp) ⟨Z,eqI (by simp [bt]),Z,trivial⟩ ⟨H0,kC,trivial⟩ (fun (i,ys,f) w1 H1=>?_)))))))));obtain ⟨H1,hI,_⟩:=H1;refine ac (ac ?_);have hiB:=hI.1;have hys:=hI.2.1;refine an (sR 2 Z (sV Z (aC cz Z) (sV Z (aS Z Z) (aa (au Z (fun c1=>?_) (fun c1=>?_))))))
 ·refine aj (ac (ao (ac ?_)));have hiL:i<xs.length:=by omega
  have hat:=te hI;obtain ⟨sg,sl⟩:=iE (c:=cr) hiL;have hci:cr (ys.getD i default)=cr (xs.getD i default):=hI.2.2.1 i;have hcu:cr (ys.getD i default)=1+(ys.getD i default).Bytes.length:=Z;obtain ⟨eb1,eo1,eT1,eF1,eG1,ea1,ek1,eg1,ee1,eK1,eH1⟩:=Block.focus H1 0 Z i (by omega);have eK1U:=eK1;unfold Block.Ok at eK1U
  try unfold I64ok at eK1U
  try unfold maxLen at eK1U
  try dsimp only[lNA,lCA,lSZ,lSS] at eH1
  refine an (sR 3 Z (sV Z (az cz dZ Z Z ee1 i (by omega) (by omega)) (sF dG Z ts2 (gx (wn Z) ts2 eH1 0 0 Z Z Z Z Z (fun w2 H2=>?_)))));dsimp only[lNA,lCA,lSZ,lSS,aL] at H2;refine aa (ab (sM Z Z (sV Z (aB Z Z iO) (sA Z Z (aa (an (sR 2 Z (sV Z (az cz dZ Z Z ee1 i (by omega) (by omega)) (sF dG Z bd (sV Z (ah bj Z Z (be (H2.holAt 0 Z) 1 Z)) (sM Z Z (sC func39 nI Z (eL (H2.mine 2 Z) (H2.nodup1 (i:=2) Z) (by constructor<;>omega)) (fun v1 w3 r1=>?_)))))))))))));obtain ⟨rfl,mx1,mm1,ml1,mk1⟩:=r1;obtain ⟨fp1,H3⟩:=H2.mut 2 Z mm1
  try dsimp only[lNA,lCA,lSZ,lSS] at H3
  refine sA Z Z (aa (an (sM Z Z (sV Z (aB Z Z iO) (sA Z Z (aa ?_))))));have okz:(⟨(k+bt (fun i=>cr (xs.getD i default)) i),mx1⟩:Block).Ok:=by unfold Block.Ok I64ok; dsimp only; omega
  obtain ⟨fp2,H4⟩:=Block.fill H3 0 2 Z Z Z okz
  try dsimp only[lNA,lCA,lSZ,lSS] at H4
  refine ⟨(i+1,_,_),⟨Z,eqI (by omega),Z,trivial⟩,⟨(H4.dtake 1),mZ hI hiL (by rw [← hci]; unfold cr; dsimp only; omega) ⟨Z,mk1⟩,trivial⟩,by dsimp only; omega⟩
 ·refine aO (ab (sR 2 Z (rN hQ results238 Z ?_)));obtain rfl:i=xs.length:=by omega
  exact ⟨Z,_,H1.done,oU hI⟩
theorem kh {w:World}{xs:List Drive}{xsA:Option Addr}{xsC:Nat}{k:Int}{fp:List Nat}(o:own true w [.slice xsA xs.length xsC] xs fp) (nd:fp.Nodup) (hk:0≤k∧k+mkL bf xs≤4611686018427387904):Ret Tryz.prog 148 #[.slice xsA xs.length xsC,.int .i64 k] w fun v w'=>(v = .int .i64 (k+mkL bf xs)∧∃ xs',Mut w w' fp [.slice xsA xs.length xsC] xs'∧(xs'.length=xs.length∧mkL bf xs'=mkL bf xs∧MkL MkDrive bf xs' k)):=by
 have len:=oL o;refine aF (vs:=[.slice xsA xs.length xsC,.int .i64 k]) func148 Z ntmps148 Z (fun Q hQ hN=>?_);have H0:=Sep.begin o nd;refine ab (sA Z Z (aa (ac (ab (sA Z Z (aa (ao (bw (γ:=Nat × List Drive × List Nat) (fun (i,ys,f)=>[(0,.slice xsA xs.length xsC),(1,.int .i64 (k+bt (fun i=>bf (xs.getD i default)) i)),(5,.int .i64 i)]) (fun (i,ys,f) w'=>Sep (· ∈ fp) w [mine [.slice xsA xs.length xsC] ys f] [] w'∧MkInv MkDrive bf xs k i ys∧True) (fun (i,ys,f)=>xs.length-i) (0,xs,fp) ⟨Z,eqI (by simp [bt]),Z,trivial⟩ ⟨H0,kC,trivial⟩ (fun (i,ys,f) w1 H1=>?_)))))))));obtain ⟨H1,hI,_⟩:=H1;refine ac (ac ?_);have hiB:=hI.1;have hys:=hI.2.1;refine an (sR 2 Z (sV Z (aC cg Z) (sV Z (aS Z Z) (aa (au Z (fun c1=>?_) (fun c1=>?_))))))
 ·refine aj (ac (ao (ac ?_)));have hiL:i<xs.length:=by omega
  have hat:=te hI;obtain ⟨sg,sl⟩:=iE (c:=bf) hiL;have hci:bf (ys.getD i default)=bf (xs.getD i default):=hI.2.2.1 i;have hcu:bf (ys.getD i default)=1+mkL cr (ys.getD i default).Blocks:=Z;obtain ⟨eb1,eo1,eT1,eF1,eG1,ea1,ek1,eg1,ee1,eK1,eH1⟩:=Drive.focus H1 0 Z i (by omega);have eK1U:=eK1;unfold Drive.Ok at eK1U
  try unfold I64ok at eK1U
  try unfold maxLen at eK1U
  try dsimp only[lNA,lCA,lSZ,lSS] at eH1
  refine an (sR 3 Z (sV Z (pg Z Z (by omega)) (sV Z (bW Z Z) (sV Z (az cg di Z Z ee1 i (by omega) (by omega)) (sF cX Z ts4 (gx (wn Z) ts4 eH1 0 0 Z Z Z Z Z (fun w2 H2=>?_)))))));dsimp only[lNA,lCA,lSZ,lSS,aL] at H2;refine aa (ab (sM Z Z (sV Z (aB Z Z iO) (sA Z Z (aa (an (sR 2 Z (sV Z (az cg di Z Z ee1 i (by omega) (by omega)) (sF cX Z fM (sV Z (ah cz Z Z (be (H2.holAt 0 Z) 1 Z)) (sM Z Z (sC func238 uu Z (kf (H2.mine 2 Z) (H2.nodup1 (i:=2) Z) (by constructor<;>omega)) (fun v1 w3 r1=>?_)))))))))))));obtain ⟨rfl,mx1,mm1,ml1⟩:=r1;obtain ⟨fp1,H3⟩:=H2.mut 2 Z mm1
  try dsimp only[lNA,lCA,lSZ,lSS] at H3
  refine sA Z Z (aa (an (sM Z Z (sV Z (aB Z Z iO) (sA Z Z (aa ?_))))));have okz:(⟨decide ((k+bt (fun i=>bf (xs.getD i default)) i).tmod 3=0),mx1⟩:Drive).Ok:=trivial;obtain ⟨fp2,H4⟩:=Drive.fill H3 0 2 Z Z Z okz
  try dsimp only[lNA,lCA,lSZ,lSS] at H4
  refine ⟨(i+1,_,_),⟨Z,eqI (by omega),Z,trivial⟩,⟨(H4.dtake 1),mZ hI hiL (by rw [← hci]; unfold bf; dsimp only; rw [ml1.2.1]) ⟨Z,ml1.2.2⟩,trivial⟩,by dsimp only; omega⟩
 ·refine aO (ab (sR 2 Z (rN hQ results148 Z ?_)));obtain rfl:i=xs.length:=by omega
  exact ⟨Z,_,H1.done,oU hI⟩
theorem jO {w:World}{xs:List (List Drive)}{xsA:Option Addr}{xsC:Nat}{k:Int}{fp:List Nat}(o:own true w [.slice xsA xs.length xsC] xs fp) (nd:fp.Nodup) (hk:0≤k∧k+mkL (mkL bf) xs≤4611686018427387904):Ret Tryz.prog 75 #[.slice xsA xs.length xsC,.int .i64 k] w fun v w'=>(v = .int .i64 (k+mkL (mkL bf) xs)∧∃ xs',Mut w w' fp [.slice xsA xs.length xsC] xs'∧(xs'.length=xs.length∧mkL (mkL bf) xs'=mkL (mkL bf) xs∧MkL (MkL MkDrive bf) (mkL bf) xs' k)):=by
 have len:=oL o;refine aF (vs:=[.slice xsA xs.length xsC,.int .i64 k]) func75 Z ntmps75 Z (fun Q hQ hN=>?_);have H0:=Sep.begin o nd;refine ab (sA Z Z (aa (ac (ab (sA Z Z (aa (ao (bw (γ:=Nat × List (List Drive) × List Nat) (fun (i,ys,f)=>[(0,.slice xsA xs.length xsC),(1,.int .i64 (k+bt (fun i=>(mkL bf) (xs.getD i default)) i)),(5,.int .i64 i)]) (fun (i,ys,f) w'=>Sep (· ∈ fp) w [mine [.slice xsA xs.length xsC] ys f] [] w'∧MkInv (MkL MkDrive bf) (mkL bf) xs k i ys∧True) (fun (i,ys,f)=>xs.length-i) (0,xs,fp) ⟨Z,eqI (by simp [bt]),Z,trivial⟩ ⟨H0,kC,trivial⟩ (fun (i,ys,f) w1 H1=>?_)))))))));obtain ⟨H1,hI,_⟩:=H1;refine ac (ac ?_);have hiB:=hI.1;have hys:=hI.2.1;refine an (sR 2 Z (sV Z (aC cV Z) (sV Z (aS Z Z) (aa (au Z (fun c1=>?_) (fun c1=>?_))))))
 ·refine aj (ac (ao ?_));have hiL:i<xs.length:=by omega
  have hat:=te hI;obtain ⟨sg,sl⟩:=iE (c:=(mkL bf)) hiL;have hci:(mkL bf) (ys.getD i default)=(mkL bf) (xs.getD i default):=hI.2.2.1 i;have hcu:mkL bf (ys.getD i default)=mkL bf (ys.getD i []):=Z;obtain ⟨eb1,eo1,eT1,eF1,eG1,ea1,ek1,eg1,ee1,eH1⟩:=H1.focusL 0 Z i (by omega)
  try dsimp only[lNA,lCA,lSZ,lSS] at eH1
  refine an (sR 2 Z (sV Z (az cV il Z Z ee1 i (by omega) (by omega)) (sV Z (ah cg Z Z (be (eH1.holAt 0 Z) 0 Z)) (sM Z Z (sC func148 tE Z (kh (eH1.mine 1 Z) (eH1.nodup1 (i:=1) Z) (by constructor<;>omega)) (fun v1 w2 r1=>?_))))));obtain ⟨rfl,mx1,mm1,ml1⟩:=r1;obtain ⟨fp1,H2⟩:=eH1.mut 1 Z mm1
  try dsimp only[lNA,lCA,lSZ,lSS] at H2
  refine sA Z Z (aa (an (sM Z Z (sV Z (aB Z Z iO) (sA Z Z (aa ?_))))));obtain ⟨fp2,H3⟩:=H2.fill 0 1 Z Z Z
  try dsimp only[lNA,lCA,lSZ,lSS] at H3
  refine ⟨(i+1,_,_),⟨Z,eqI (by omega),Z,trivial⟩,⟨(H3.dtake 1),mZ hI hiL (by rw [← hci]; exact ml1.2.1) ml1.2.2,trivial⟩,by dsimp only; omega⟩
 ·refine aO (ab (sR 2 Z (rN hQ results75 Z ?_)));obtain rfl:i=xs.length:=by omega
  exact ⟨Z,_,H1.done,oU hI⟩
theorem gT {w:World}{k:Int}(hk : -1000≤k∧k≤4611686018427388904):Ret Tryz.prog 172 #[.int .i64 k] w fun v w'=>Ext No w w'∧(v = .string (mx k)∧(mx k).size≤maxLen):=by
 refine aF (vs:=[.int .i64 k]) func172 Z ntmps172 Z (fun Q hQ hN=>?_);have H0:=Sep.start (w:=w) (F:=[]) (by simp);refine ab (sA Z Z (aa (ac (ab (sR 2 Z (aa (au Z (fun c1=>?_) (fun c1=>?_))))))))
 ·refine ab (rA hQ results172 Z ?_);exact ⟨H0.ext,by rw [mx,if_pos (by omega)],by rw [mx,if_pos (by omega)]; exact Nat.le_of_ble_eq_true Z⟩
 ·refine aj (ab (sA Z Z (aa (ac (ao (bB (γ:=Nat × Nat × ByteArray) H0 [(2,_)] ⟨Z,trivial⟩ (fun (f,m,out)=>[(0,.int .i64 (m:Nat)),(3,.string out)]) (fun (f,m,out)=>(m:Int)≤k∧m<10^f∧out.size+f≤30∧digits 30 k.toNat ⟨#[]⟩=digits f m out) (fun (f,m,out)=>m) (30,k.toNat,⟨#[]⟩) ⟨eqI (by omega),Z,trivial⟩ ⟨by omega,xk (by omega),by decide,Z⟩ (fun (f,m,out) w1 H1 ⟨hm,hf,ho,hd⟩=>?_)))))));dsimp only[lCA,lNA];refine ac (ab (sR 2 Z (aa (au Z (fun c2=>?_) (fun c2=>?_)))))
  ·refine aj (ao (ac ?_));have hb:=zH (a:=(m:Int)) (b:=10) (by omega) (by omega);refine an (sM Z Z (sV Z (pg Z Z (by omega)) (sV Z (aB Z Z iO) (sV Z (pD tu3 tu5 Z) (jh (wn Z) Z bj eV Z Z Z Z H1 (fun b1 w2 e1 g1 H2=>?_))))));have H3:=H2.litW 0 Z (uz (x:=qs (48+(m:Int).tmod 10)))
   try dsimp only[lNA,lCA,lSZ,lSS] at H3
   refine sV Z (tH bj tu5 tu9 Z (H3.mine 0 Z)) ((sM Z Z (sV Z (wd Z Z (by rw [qK]; simp only [List.length_cons,List.length_nil]; omega)) (sA Z Z (aa ?_)))));have hb2:=Ac (a:=(m:Int)) (b:=10) (by omega) (by omega);refine an (sM Z Z (sV Z (uG Z Z (by omega) iO) (sA Z Z (aa ?_))))
   rcases f with _ | f
   ·simp at hf; omega
   ·refine ⟨(f,m / 10,strB [UInt8.ofNat (48+m % 10)]++out),⟨eqI (by rw [Int.tdiv_eq_ediv_of_nonneg (by omega)]; dsimp only; omega),BL (by rw [AJ]),Z,trivial⟩,⟨(H3.dtake 0),by dsimp only; omega,by rw [Nat.pow_succ] at hf; dsimp only; omega,by dsimp only; rw [ByteArray.size_append,qK]; simp only [List.length_cons,List.length_nil]; omega,hd.trans (tx (by omega))⟩,by dsimp only; omega⟩
  ·refine aO (ac ?_);have h1z:(⟨#[109]⟩:ByteArray).size=1:=Z;refine an (sM Z Z (sV Z (wd Z Z (by omega)) (rA hQ results172 Z ?_)));obtain rfl:m=0:=by omega
   have hq:mx k=⟨#[109]⟩++out:=by rw [mx,if_neg (by omega),hd,tm]
   exact ⟨H1.ext,by rw [hq],by rw [hq,ByteArray.size_append]; unfold maxLen; omega⟩
theorem lV {w:World}{xs:List Rec}{xsA:Option Addr}{xsC:Nat}{k:Int}{fp:List Nat}(o:own true w [.slice xsA xs.length xsC] xs fp) (nd:fp.Nodup) (hk:0≤k∧k+mkL bN xs≤4611686018427387904):Ret Tryz.prog 90 #[.slice xsA xs.length xsC,.int .i64 k] w fun v w'=>(v = .int .i64 (k+mkL bN xs)∧∃ xs',Mut w w' fp [.slice xsA xs.length xsC] xs'∧(xs'.length=xs.length∧mkL bN xs'=mkL bN xs∧MkL MkRec bN xs' k)):=by
 have len:=oL o;refine aF (vs:=[.slice xsA xs.length xsC,.int .i64 k]) func90 Z ntmps90 Z (fun Q hQ hN=>?_);have H0:=Sep.begin o nd;refine ab (sA Z Z (aa (ac (ab (sA Z Z (aa (ao (bw (γ:=Nat × List Rec × List Nat) (fun (i,ys,f)=>[(0,.slice xsA xs.length xsC),(1,.int .i64 (k+bt (fun i=>bN (xs.getD i default)) i)),(5,.int .i64 i)]) (fun (i,ys,f) w'=>Sep (· ∈ fp) w [mine [.slice xsA xs.length xsC] ys f] [] w'∧MkInv MkRec bN xs k i ys∧True) (fun (i,ys,f)=>xs.length-i) (0,xs,fp) ⟨Z,eqI (by simp [bt]),Z,trivial⟩ ⟨H0,kC,trivial⟩ (fun (i,ys,f) w1 H1=>?_)))))))));obtain ⟨H1,hI,_⟩:=H1;refine ac (ac ?_);have hiB:=hI.1;have hys:=hI.2.1;refine an (sR 2 Z (sV Z (aC aQ Z) (sV Z (aS Z Z) (aa (au Z (fun c1=>?_) (fun c1=>?_))))))
 ·refine aj (ac (ao (ac ?_)));have hiL:i<xs.length:=by omega
  have hat:=te hI;obtain ⟨sg,sl⟩:=iE (c:=bN) hiL;have hci:bN (ys.getD i default)=bN (xs.getD i default):=hI.2.2.1 i;have hcu:bN (ys.getD i default)=6+(ys.getD i default).Rows.length+(ys.getD i default).Data.length+(ys.getD i default).Delta.length:=Z;obtain ⟨eb1,eo1,eT1,eF1,eG1,ea1,ek1,ea2,ek2,ea3,ek3,eg1,eg2,eg3,ee1,eK1,eH1⟩:=Rec.focus H1 0 Z i (by omega);have eK1U:=eK1;unfold Rec.Ok at eK1U
  try unfold I64ok at eK1U
  try unfold maxLen at eK1U
  try dsimp only[lNA,lCA,lSZ,lSS] at eH1
  refine an (sR 3 Z (sV Z (az aQ aJ Z Z ee1 i (by omega) (by omega)) (sF ay Z ts2 (gx (wn Z) ts2 eH1 0 0 Z Z Z Z Z (fun w2 H2=>?_)))));dsimp only[lNA,lCA,lSZ,lSS,aL] at H2;refine aa (ab (sM Z Z (sV Z (aB Z Z iO) (sA Z Z (aa (ab (sR 3 Z (sV Z (az aQ aJ Z Z ee1 i (by omega) (by omega)) (sF ay Z ts2 (gx (wn Z) ts2 H2 0 1 Z Z Z Z Z (fun w3 H3=>?_)))))))))));dsimp only[lNA,lCA,lSZ,lSS,aL] at H3;refine aa (ab (sM Z Z (sV Z (aB Z Z iO) (sA Z Z (aa (ab (sR 3 Z (sC func172 pU Z (gT (by omega)) (fun v1 w4 r1=>?_)))))))));obtain ⟨e3,rfl,mt1⟩:=r1;have H4:=H3.to e3;refine sV Z (az aQ aJ Z Z ee1 i (by omega) (by omega)) (sF ay Z ts9 (gx (wn Z) ts9 H4 0 2 Z Z Z Z Z (fun w5 H5=>?_)));dsimp only[lNA,lCA,lSZ,lSS,aL] at H5;refine aa (ab (sM Z Z (sV Z (aB Z Z iO) (sA Z Z (aa (ab (sR 3 Z (sV Z (az aQ aJ Z Z ee1 i (by omega) (by omega)) (sF ay Z ts2 (gx (wn Z) ts2 H5 0 3 Z Z Z Z Z (fun w6 H6=>?_)))))))))));dsimp only[lNA,lCA,lSZ,lSS,aL] at H6;refine aa (ab (sM Z Z (sV Z (aB Z Z iO) (sA Z Z (aa (ab (sR 3 Z (sV Z (az aQ aJ Z Z ee1 i (by omega) (by omega)) (sF ay Z ts2 (gx (wn Z) ts2 H6 0 4 Z Z Z Z Z (fun w7 H7=>?_)))))))))));dsimp only[lNA,lCA,lSZ,lSS,aL] at H7;refine aa (ab (sM Z Z (sV Z (aB Z Z iO) (sA Z Z (aa (ab (sR 3 Z (sV Z (az aQ aJ Z Z ee1 i (by omega) (by omega)) (sF ay Z ts2 (gx (wn Z) ts2 H7 0 5 Z Z Z Z Z (fun w8 H8=>?_)))))))))));dsimp only[lNA,lCA,lSZ,lSS,aL] at H8;refine aa (ab (sM Z Z (sV Z (aB Z Z iO) (sA Z Z (aa (ab (sR 2 Z (sV Z (az aQ aJ Z Z ee1 i (by omega) (by omega)) (sF ay Z bz (sV Z (ah bm Z Z (be (H8.holAt 0 Z) 6 Z)) (sM Z Z (sC func76 rp Z (gd (H8.mine 2 Z) (H8.nodup1 (i:=2) Z) (by constructor<;>omega)) (fun v2 w9 r2=>?_)))))))))))));obtain ⟨rfl,mx1,mm1,ml1,mk1⟩:=r2;obtain ⟨fp1,H9⟩:=H8.mut 2 Z mm1
  try dsimp only[lNA,lCA,lSZ,lSS] at H9
  refine sA Z Z (aa (ab (sR 2 Z (sV Z (az aQ aJ Z Z ee1 i (by omega) (by omega)) (sF ay Z bd (sV Z (ah bj Z Z (be (H9.holAt 0 Z) 7 Z)) (sM Z Z (sC func39 nI Z (eL (H9.mine 3 Z) (H9.nodup1 (i:=3) Z) (by constructor<;>omega)) (fun v3 w10 r3=>?_)))))))));obtain ⟨rfl,mx2,mm2,ml2,mk2⟩:=r3;obtain ⟨fp2,H10⟩:=H9.mut 3 Z mm2
  try dsimp only[lNA,lCA,lSZ,lSS] at H10
  refine sA Z Z (aa (an (sR 2 Z (sV Z (az aQ aJ Z Z ee1 i (by omega) (by omega)) (sF ay Z bd (sV Z (ah bj Z Z (be (H10.holAt 0 Z) 8 Z)) (sM Z Z (sC func39 nI Z (eL (H10.mine 4 Z) (H10.nodup1 (i:=4) Z) (by constructor<;>omega)) (fun v4 w11 r4=>?_)))))))));obtain ⟨rfl,mx3,mm3,ml3,mk3⟩:=r4;obtain ⟨fp3,H11⟩:=H10.mut 4 Z mm3
  try dsimp only[lNA,lCA,lSZ,lSS] at H11
  refine sA Z Z (aa (an (sM Z Z (sV Z (aB Z Z iO) (sA Z Z (aa ?_))))));have okz:(⟨(k+bt (fun i=>bN (xs.getD i default)) i),(k+bt (fun i=>bN (xs.getD i default)) i)+1,mx ((k+bt (fun i=>bN (xs.getD i default)) i)+1+1),(k+bt (fun i=>bN (xs.getD i default)) i)+1+1+1,(k+bt (fun i=>bN (xs.getD i default)) i)+1+1+1+1,(k+bt (fun i=>bN (xs.getD i default)) i)+1+1+1+1+1,mx1,mx2,mx3⟩:Rec).Ok:=by unfold Rec.Ok I64ok; dsimp only; omega
  obtain ⟨fp4,H12⟩:=Rec.fill H11 0 2 3 4 Z Z Z Z Z Z Z Z Z Z okz
  try dsimp only[lNA,lCA,lSZ,lSS] at H12
  refine ⟨(i+1,_,_),⟨Z,eqI (by omega),Z,trivial⟩,⟨(H12.dtake 1),mZ hI hiL (by rw [← hci]; unfold bN; dsimp only; omega) (by
   refine ⟨Z,Z,?_,by dsimp only; omega,by dsimp only; omega,by dsimp only; omega,?_,?_,?_⟩
   ·dsimp only; congr 1; omega
   ·have:=mk1; dsimp only; rwa [show (k+bt (fun i=>bN (xs.getD i default)) i)+1+1+1+1+1+1=(k+bt (fun i=>bN (xs.getD i default)) i)+6 by omega] at this
   ·have:=mk2; dsimp only; rwa [show (k+bt (fun i=>bN (xs.getD i default)) i)+1+1+1+1+1+1+((ys.getD i default).Rows.length:Int)=(k+bt (fun i=>bN (xs.getD i default)) i)+6+mx1.length by omega] at this
   ·have:=mk3; dsimp only; rwa [show (k+bt (fun i=>bN (xs.getD i default)) i)+1+1+1+1+1+1+((ys.getD i default).Rows.length:Int)+((ys.getD i default).Data.length:Int)=(k+bt (fun i=>bN (xs.getD i default)) i)+6+mx1.length+mx2.length by omega] at this),trivial⟩,by dsimp only; omega⟩
 ·refine aO (ab (sR 2 Z (rN hQ results90 Z ?_)));obtain rfl:i=xs.length:=by omega
  exact ⟨Z,_,H1.done,oU hI⟩
theorem li {w:World}{xs:List Tape}{xsA:Option Addr}{xsC:Nat}{k:Int}{fp:List Nat}(o:own true w [.slice xsA xs.length xsC] xs fp) (nd:fp.Nodup) (hk:0≤k∧k+mkL cx xs≤4611686018427387904):Ret Tryz.prog 77 #[.slice xsA xs.length xsC,.int .i64 k] w fun v w'=>(v = .int .i64 (k+mkL cx xs)∧∃ xs',Mut w w' fp [.slice xsA xs.length xsC] xs'∧(xs'.length=xs.length∧mkL cx xs'=mkL cx xs∧MkL MkTape cx xs' k)):=by
 have len:=oL o;refine aF (vs:=[.slice xsA xs.length xsC,.int .i64 k]) func77 Z ntmps77 Z (fun Q hQ hN=>?_);have H0:=Sep.begin o nd;refine ab (sA Z Z (aa (ac (ab (sA Z Z (aa (ao (bw (γ:=Nat × List Tape × List Nat) (fun (i,ys,f)=>[(0,.slice xsA xs.length xsC),(1,.int .i64 (k+bt (fun i=>cx (xs.getD i default)) i)),(5,.int .i64 i)]) (fun (i,ys,f) w'=>Sep (· ∈ fp) w [mine [.slice xsA xs.length xsC] ys f] [] w'∧MkInv MkTape cx xs k i ys∧True) (fun (i,ys,f)=>xs.length-i) (0,xs,fp) ⟨Z,eqI (by simp [bt]),Z,trivial⟩ ⟨H0,kC,trivial⟩ (fun (i,ys,f) w1 H1=>?_)))))))));obtain ⟨H1,hI,_⟩:=H1;refine ac (ac ?_);have hiB:=hI.1;have hys:=hI.2.1;refine an (sR 2 Z (sV Z (aC bA Z) (sV Z (aS Z Z) (aa (au Z (fun c1=>?_) (fun c1=>?_))))))
 ·refine aj (ac (ao (ac ?_)));have hiL:i<xs.length:=by omega
  have hat:=te hI;obtain ⟨sg,sl⟩:=iE (c:=cx) hiL;have hci:cx (ys.getD i default)=cx (xs.getD i default):=hI.2.2.1 i;have hcu:cx (ys.getD i default)=1+mkL bN (ys.getD i default).Recs:=Z;obtain ⟨eb1,eo1,eT1,eF1,eG1,ea1,ek1,eg1,ee1,eK1,eH1⟩:=Tape.focus H1 0 Z i (by omega);have eK1U:=eK1;unfold Tape.Ok at eK1U
  try unfold I64ok at eK1U
  try unfold maxLen at eK1U
  try dsimp only[lNA,lCA,lSZ,lSS] at eH1
  refine an (sR 3 Z (sV Z (pg Z Z (by omega)) (sV Z (bW Z Z) (sV Z (az bA bR Z Z ee1 i (by omega) (by omega)) (sF bI Z ts4 (gx (wn Z) ts4 eH1 0 0 Z Z Z Z Z (fun w2 H2=>?_)))))));dsimp only[lNA,lCA,lSZ,lSS,aL] at H2;refine aa (ab (sM Z Z (sV Z (aB Z Z iO) (sA Z Z (aa (an (sR 2 Z (sV Z (az bA bR Z Z ee1 i (by omega) (by omega)) (sF bI Z dv (sV Z (ah aQ Z Z (be (H2.holAt 0 Z) 1 Z)) (sM Z Z (sC func90 wI Z (lV (H2.mine 2 Z) (H2.nodup1 (i:=2) Z) (by constructor<;>omega)) (fun v1 w3 r1=>?_)))))))))))));obtain ⟨rfl,mx1,mm1,ml1⟩:=r1;obtain ⟨fp1,H3⟩:=H2.mut 2 Z mm1
  try dsimp only[lNA,lCA,lSZ,lSS] at H3
  refine sA Z Z (aa (an (sM Z Z (sV Z (aB Z Z iO) (sA Z Z (aa ?_))))));have okz:(⟨decide ((k+bt (fun i=>cx (xs.getD i default)) i).tmod 3=0),mx1⟩:Tape).Ok:=trivial;obtain ⟨fp2,H4⟩:=Tape.fill H3 0 2 Z Z Z okz
  try dsimp only[lNA,lCA,lSZ,lSS] at H4
  refine ⟨(i+1,_,_),⟨Z,eqI (by omega),Z,trivial⟩,⟨(H4.dtake 1),mZ hI hiL (by rw [← hci]; unfold cx; dsimp only; rw [ml1.2.1]) ⟨Z,ml1.2.2⟩,trivial⟩,by dsimp only; omega⟩
 ·refine aO (ab (sR 2 Z (rN hQ results77 Z ?_)));obtain rfl:i=xs.length:=by omega
  exact ⟨Z,_,H1.done,oU hI⟩
end Go.Wk
namespace Go.Wk
open Go.Proofs Rp Go.Proofs.Tryz
set_option maxRecDepth 10000
theorem gz {w:World}{x:Wld}{xA9 xA10 xA11:Option Addr}{xC9 xC10 xC11:Nat}{k:Int}{fp:List Nat}(xK:x.Ok) (o:own true w [.int .i64 x.Shape.Groups,.int .i64 x.Shape.Column,.int .i64 x.Shape.Data,.int .i64 x.Shape.Spare,.int .i64 x.Shape.Rows,.int .i64 x.Shape.Cap,.int .i64 x.Shape.Batch,.int .i64 x.Shape.Queue,.int .i64 x.Shape.Stage,.slice xA9 x.Groups.length xC9,.slice xA10 x.On.length xC10,.slice xA11 x.Tapes.length xC11,.int .i64 x.Writes,.int .i64 x.Stop,.bool x.Down] x fp) (nd:fp.Nodup) (hk:0≤k∧k+ce x≤4611686018427387904):Ret Tryz.prog 21 #[x.val xA9 xC9 xA10 xC10 xA11 xC11,.int .i64 k] w fun v w'=>(v = .int .i64 (k+ce x)∧∃ x':Wld,Mut w w' fp [.int .i64 x.Shape.Groups,.int .i64 x.Shape.Column,.int .i64 x.Shape.Data,.int .i64 x.Shape.Spare,.int .i64 x.Shape.Rows,.int .i64 x.Shape.Cap,.int .i64 x.Shape.Batch,.int .i64 x.Shape.Queue,.int .i64 x.Shape.Stage,.slice xA9 x.Groups.length xC9,.slice xA10 x.On.length xC10,.slice xA11 x.Tapes.length xC11,.int .i64 x.Writes,.int .i64 x.Stop,.bool x.Down] x'∧(x'.Groups.length=x.Groups.length∧x'.On.length=x.On.length∧x'.Tapes.length=x.Tapes.length∧ce x'=ce x∧MkWld x' k∧x'.Shape=x.Shape∧x'.Writes=x.Writes∧x'.Stop=x.Stop∧x'.Down=x.Down)):=by
 unfold ce at hk;refine aF (vs:=[x.val xA9 xC9 xA10 xC10 xA11 xC11,.int .i64 k]) func21 Z ntmps21 Z (fun Q hQ hN=>?_);obtain ⟨f9,f10,f11,ef,ok,o9,o10,o11⟩:=dX o;have H0:=(Sep.begin o nd).part 0 Z [mine [.slice xA9 x.Groups.length xC9] x.Groups f9,mine [.slice xA10 x.On.length xC10] x.On f10,mine [.slice xA11 x.Tapes.length xC11] x.Tapes f11] (ae o9 (ae o10 (ae o11 (by simp)))) (by simp [blocks,mine,ef])
 try dsimp only[lNA,lCA,lSZ,lSS] at H0
 refine ab (aY (wn Z) Z Z H0 (fun b1 w1 e1 g1 H1=>sA Z Z (aa (ab (sF aW Z fF (sLd cV (H1.box 4 Z) Z (sM Z Z (sC func75 wG Z (jO (H1.mine 1 Z) (H1.nodup1 (i:=1) Z) (by constructor<;>omega)) (fun v1 w2 r1=>?_)))))))));obtain ⟨rfl,mx1,mm1,ml1⟩:=r1;obtain ⟨fp1,H2⟩:=H1.mut 1 Z mm1
 try dsimp only[lNA,lCA,lSZ,lSS] at H2
 refine sA Z Z (aa (ab (sF aW Z bz (sLd bm (H2.box 4 Z) Z (sM Z Z (sC func76 rp Z (gd (H2.mine 2 Z) (H2.nodup1 (i:=2) Z) (by constructor<;>omega)) (fun v2 w3 r2=>?_)))))));obtain ⟨rfl,mx2,mm2,ml2,mk1⟩:=r2;obtain ⟨fp2,H3⟩:=H2.mut 2 Z mm2
 try dsimp only[lNA,lCA,lSZ,lSS] at H3
 refine sA Z Z (aa (ab (sF aW Z cQ (sLd bA (H3.box 4 Z) Z (sM Z Z (sC func77 xc Z (li (H3.mine 3 Z) (H3.nodup1 (i:=3) Z) (by constructor<;>omega)) (fun v3 w4 r3=>?_)))))));obtain ⟨rfl,mx3,mm3,ml3⟩:=r3;obtain ⟨fp3,H4⟩:=H3.mut 3 Z mm3
 try dsimp only[lNA,lCA,lSZ,lSS] at H4
 refine sA Z Z (aa (ab (sR 2 Z (rN hQ results21 Z ?_))));exact ⟨congrArg (Value.int .i64) (by unfold ce; omega),Wld.mkOut ok (H4.dtake 4) ml1 ml2 mk1 ml3⟩
end Go.Wk
namespace Go.Wk
open Go.Proofs Rp Go.Proofs.Tryz
set_option maxRecDepth 10000
theorem km {w:World}{xs:List Block}{xsA:Option Addr}{xsC:Nat}{k:Int}(xsS:Sees w [.slice xsA xs.length xsC] xs) (hk:0≤k∧k+mkL cr xs≤4611686018427387904) (hm:MkL MkBlock cr xs k):Ret Tryz.prog 305 #[.slice xsA xs.length xsC,.int .i64 k] w fun v w'=>Ext No w w'∧(v = .int .i64 (k+mkL cr xs)):=by
 have xsL:=sL xsS;obtain ⟨xsF,xsO⟩:=xsS;refine aF (vs:=[.slice xsA xs.length xsC,.int .i64 k]) func305 Z ntmps305 Z (fun Q hQ hN=>?_);have H0:=Sep.start (w:=w) (F:=[seen false [.slice xsA xs.length xsC] xs xsF]) (ae xsO (by simp));refine ab (sA Z Z (aa (ac (ab (sA Z Z (aa (ao (bB (γ:=Nat) H0 [(0,_)] ⟨Z,trivial⟩ (fun i=>[(1,.int .i64 (k+bt (fun i=>cr (xs.getD i default)) i)),(5,.int .i64 i)]) (fun i=>i≤xs.length∧True) (fun i=>xs.length-i) 0 ⟨eqI (by simp [bt]),Z,trivial⟩ ⟨by omega,trivial⟩ (fun i w1 H1 ⟨hi,_⟩=>?_)))))))));dsimp only[lCA,lNA];refine ac (ab (sR 2 Z (sV Z (aC cz Z) (sV Z (aS Z Z) (aa (au Z (fun c1=>?_) (fun c1=>?_)))))))
 ·refine aj (ac (ao (ac (ac ?_))));have hmi:=hm i (by omega);obtain ⟨sg,sl⟩:=iE (c:=cr) (xs:=xs) (i:=i) (by omega);have hcu:cr (xs.getD i default)=1+(xs.getD i default).Bytes.length:=Z;obtain ⟨hm1,hm2⟩:=hmi;obtain ⟨eb1,eo1,es1,ef1,ee1,ec1,eO1,eH1,em1⟩:=aU (H1.seen 0 Z) i (by omega);obtain ⟨ea1,ek1,eg1,rfl,eq1,eK1,eo2⟩:=dA eO1;have eK1U:=eK1;unfold Block.Ok at eK1U
  try unfold I64ok at eK1U
  try unfold maxLen at eK1U
  have eP1:=H1.look1 0 Z eo2 (fun b hb=>eH1 b (by rw [eq1]; simp [hb]));have eL1:=oL eo2;refine an (sR 2 Z (sV Z (az cz dZ Z Z ee1 i (by omega) (by omega)) (sF dG Z ts2 (sV Z (ah tu2 Z Z (be ec1 0 Z)) (sR 2 Z (aa (au Z (fun c2=>?_) (fun c2=>?_))))))))
  ·exact absurd hm1 c2
  ·refine aj (ab (sM Z Z (sV Z (aB Z Z iO) (sA Z Z (aa (ac ?_))))));obtain ⟨eb2,eo3,es2,ef2,ee2,ec2,eO2,eH2,em2⟩:=aU (eP1.seen 0 Z) i (by omega);obtain ⟨ea2,ek2,eg2,rfl,eq2,eK2,eo4⟩:=dA eO2;have eK2U:=eK2;unfold Block.Ok at eK2U
   try unfold I64ok at eK2U
   try unfold maxLen at eK2U
   have eP2:=eP1.look1 0 Z eo4 (fun b hb=>eH2 b (by rw [eq2]; simp [hb]));have eL2:=oL eo4;refine an (sR 2 Z (sV Z (az cz dZ Z Z ee2 i (by omega) (by omega)) (sF dG Z bd (sV Z (ah bj Z Z (be ec2 1 Z)) (sM Z Z (sE func115 lG Z (eM (eP2.sees 2 Z) (by constructor<;>omega) (by assumption)) eP2 (fun w2 e1 H2=>sA Z Z (aa (ab (sR 2 Z (aa (au Z (fun c3=>?_) (fun c3=>?_)))))))))))))
   ·exact absurd c3 (by omega)
   ·refine aj (an (sM Z Z (sV Z (aB Z Z iO) (sA Z Z (aa (⟨i+1,⟨eqI (by omega),Z,Z,trivial⟩,⟨(H2.ftake 1),by omega,trivial⟩,by dsimp only; omega⟩))))))
 ·refine aO (ab (sR 2 Z (rN hQ results305 Z ?_)));obtain rfl:i=xs.length:=by omega
  exact ⟨H1.ext,Z⟩
theorem kb {w:World}{xs:List Drive}{xsA:Option Addr}{xsC:Nat}{k:Int}(xsS:Sees w [.slice xsA xs.length xsC] xs) (hk:0≤k∧k+mkL bf xs≤4611686018427387904) (hm:MkL MkDrive bf xs k):Ret Tryz.prog 239 #[.slice xsA xs.length xsC,.int .i64 k] w fun v w'=>Ext No w w'∧(v = .int .i64 (k+mkL bf xs)):=by
 have xsL:=sL xsS;obtain ⟨xsF,xsO⟩:=xsS;refine aF (vs:=[.slice xsA xs.length xsC,.int .i64 k]) func239 Z ntmps239 Z (fun Q hQ hN=>?_);have H0:=Sep.start (w:=w) (F:=[seen false [.slice xsA xs.length xsC] xs xsF]) (ae xsO (by simp));refine ab (sA Z Z (aa (ac (ab (sA Z Z (aa (ao (bB (γ:=Nat) H0 [(0,_)] ⟨Z,trivial⟩ (fun i=>[(1,.int .i64 (k+bt (fun i=>bf (xs.getD i default)) i)),(5,.int .i64 i)]) (fun i=>i≤xs.length∧True) (fun i=>xs.length-i) 0 ⟨eqI (by simp [bt]),Z,trivial⟩ ⟨by omega,trivial⟩ (fun i w1 H1 ⟨hi,_⟩=>?_)))))))));dsimp only[lCA,lNA];refine ac (ab (sR 2 Z (sV Z (aC cg Z) (sV Z (aS Z Z) (aa (au Z (fun c1=>?_) (fun c1=>?_)))))))
 ·refine aj (ac (ao (ac (ac ?_))));have hmi:=hm i (by omega);obtain ⟨sg,sl⟩:=iE (c:=bf) (xs:=xs) (i:=i) (by omega);have hcu:bf (xs.getD i default)=1+mkL cr (xs.getD i default).Blocks:=Z;obtain ⟨hm1,hm2⟩:=hmi;obtain ⟨eb1,eo1,es1,ef1,ee1,ec1,eO1,eH1,em1⟩:=aU (H1.seen 0 Z) i (by omega);obtain ⟨ea1,ek1,eg1,rfl,eq1,eK1,eo2⟩:=cY eO1;have eP1:=H1.look1 0 Z eo2 (fun b hb=>eH1 b (by rw [eq1]; simp [hb]));have eL1:=oL eo2;refine an (sR 2 Z (sV Z (az cg di Z Z ee1 i (by omega) (by omega)) (sF cX Z ts4 (sV Z (ah tu4 Z Z (be ec1 0 Z)) (sM Z Z (sV Z (pg Z Z (by omega)) (sV Z (bW Z Z) (sV Z (mB tu4 Z Z) (aa (bJ Z (fun c2=>?_) (fun c2=>?_)))))))))))
  ·exfalso; rw [hm1] at c2; simp at c2
  ·refine aj (ab (sM Z Z (sV Z (aB Z Z iO) (sA Z Z (aa (ac ?_))))));obtain ⟨eb2,eo3,es2,ef2,ee2,ec2,eO2,eH2,em2⟩:=aU (eP1.seen 0 Z) i (by omega);obtain ⟨ea2,ek2,eg2,rfl,eq2,eK2,eo4⟩:=cY eO2;have eP2:=eP1.look1 0 Z eo4 (fun b hb=>eH2 b (by rw [eq2]; simp [hb]));have eL2:=oL eo4;refine an (sR 2 Z (sV Z (az cg di Z Z ee2 i (by omega) (by omega)) (sF cX Z fM (sV Z (ah cz Z Z (be ec2 1 Z)) (sM Z Z (sE func305 ue Z (km (eP2.sees 2 Z) (by constructor<;>omega) (by assumption)) eP2 (fun w2 e1 H2=>sA Z Z (aa (ab (sR 2 Z (aa (au Z (fun c3=>?_) (fun c3=>?_)))))))))))))
   ·exact absurd c3 (by omega)
   ·refine aj (an (sM Z Z (sV Z (aB Z Z iO) (sA Z Z (aa (⟨i+1,⟨eqI (by omega),Z,Z,trivial⟩,⟨(H2.ftake 1),by omega,trivial⟩,by dsimp only; omega⟩))))))
 ·refine aO (ab (sR 2 Z (rN hQ results239 Z ?_)));obtain rfl:i=xs.length:=by omega
  exact ⟨H1.ext,Z⟩
theorem jT {w:World}{xs:List (List Drive)}{xsA:Option Addr}{xsC:Nat}{k:Int}(xsS:Sees w [.slice xsA xs.length xsC] xs) (hk:0≤k∧k+mkL (mkL bf) xs≤4611686018427387904) (hm:MkL (MkL MkDrive bf) (mkL bf) xs k):Ret Tryz.prog 149 #[.slice xsA xs.length xsC,.int .i64 k] w fun v w'=>Ext No w w'∧(v = .int .i64 (k+mkL (mkL bf) xs)):=by
 have xsL:=sL xsS;obtain ⟨xsF,xsO⟩:=xsS;refine aF (vs:=[.slice xsA xs.length xsC,.int .i64 k]) func149 Z ntmps149 Z (fun Q hQ hN=>?_);have H0:=Sep.start (w:=w) (F:=[seen false [.slice xsA xs.length xsC] xs xsF]) (ae xsO (by simp));refine ab (sA Z Z (aa (ac (ab (sA Z Z (aa (ao (bB (γ:=Nat) H0 [(0,_)] ⟨Z,trivial⟩ (fun i=>[(1,.int .i64 (k+bt (fun i=>(mkL bf) (xs.getD i default)) i)),(5,.int .i64 i)]) (fun i=>i≤xs.length∧True) (fun i=>xs.length-i) 0 ⟨eqI (by simp [bt]),Z,trivial⟩ ⟨by omega,trivial⟩ (fun i w1 H1 ⟨hi,_⟩=>?_)))))))));dsimp only[lCA,lNA];refine ac (ab (sR 2 Z (sV Z (aC cV Z) (sV Z (aS Z Z) (aa (au Z (fun c1=>?_) (fun c1=>?_)))))))
 ·refine aj (ac (ao (ac ?_)));have hmi:=hm i (by omega);obtain ⟨sg,sl⟩:=iE (c:=(mkL bf)) (xs:=xs) (i:=i) (by omega);have hcu:mkL bf (xs.getD i default)=mkL bf (xs.getD i []):=Z;have hm2:MkL MkDrive bf (xs.getD i []) ((k+bt (fun i=>(mkL bf) (xs.getD i default)) i)):=hmi;obtain ⟨eb1,eo1,ea1,ek1,ef1,ee1,ec1,eO1,eH1⟩:=eA (H1.seen 0 Z) i (by omega);have eP1:=H1.look1 0 Z eO1 eH1;refine an (sR 2 Z (sV Z (az cV il Z Z ee1 i (by omega) (by omega)) (sV Z (ah cg Z Z ec1) (sM Z Z (sE func239 vB Z (kb (eP1.sees 1 Z) (by constructor<;>omega) (by assumption)) eP1 (fun w2 e1 H2=>sA Z Z (aa (ab (sR 2 Z (aa (au Z (fun c2=>?_) (fun c2=>?_))))))))))))
  ·exact absurd c2 (by omega)
  ·refine aj (an (sM Z Z (sV Z (aB Z Z iO) (sA Z Z (aa (⟨i+1,⟨eqI (by omega),Z,Z,trivial⟩,⟨(H2.ftake 1),by omega,trivial⟩,by dsimp only; omega⟩))))))
 ·refine aO (ab (sR 2 Z (rN hQ results149 Z ?_)));obtain rfl:i=xs.length:=by omega
  exact ⟨H1.ext,Z⟩
set_option maxHeartbeats 1000000 in
theorem lF {w:World}{xs:List Rec}{xsA:Option Addr}{xsC:Nat}{k:Int}(xsS:Sees w [.slice xsA xs.length xsC] xs) (hk:0≤k∧k+mkL bN xs≤4611686018427387904) (hm:MkL MkRec bN xs k):Ret Tryz.prog 91 #[.slice xsA xs.length xsC,.int .i64 k] w fun v w'=>Ext No w w'∧(v = .int .i64 (k+mkL bN xs)):=by
 have xsL:=sL xsS;obtain ⟨xsF,xsO⟩:=xsS;refine aF (vs:=[.slice xsA xs.length xsC,.int .i64 k]) func91 Z ntmps91 Z (fun Q hQ hN=>?_);have H0:=Sep.start (w:=w) (F:=[seen false [.slice xsA xs.length xsC] xs xsF]) (ae xsO (by simp));refine ab (sA Z Z (aa (ac (ab (sA Z Z (aa (ao (bB (γ:=Nat) H0 [(0,_)] ⟨Z,trivial⟩ (fun i=>[(1,.int .i64 (k+bt (fun i=>bN (xs.getD i default)) i)),(5,.int .i64 i)]) (fun i=>i≤xs.length∧True) (fun i=>xs.length-i) 0 ⟨eqI (by simp [bt]),Z,trivial⟩ ⟨by omega,trivial⟩ (fun i w1 H1 ⟨hi,_⟩=>?_)))))))));dsimp only[lCA,lNA];refine ac (ab (sR 2 Z (sV Z (aC aQ Z) (sV Z (aS Z Z) (aa (au Z (fun c1=>?_) (fun c1=>?_)))))))
 ·refine aj (ac (ao (ac (ac ?_))));have hmi:=hm i (by omega);obtain ⟨sg,sl⟩:=iE (c:=bN) (xs:=xs) (i:=i) (by omega);have hcu:bN (xs.getD i default)=6+(xs.getD i default).Rows.length+(xs.getD i default).Data.length+(xs.getD i default).Delta.length:=Z;obtain ⟨m1,m2,m3,m4,m5,m6,m7,m8,m9⟩:=hmi;have n3:(xs.getD i default).Name=mx ((k+bt (fun i=>bN (xs.getD i default)) i)+1+1):=by rw [m3]; congr 1; omega
  have n7:MarkI (xs.getD i default).Rows ((k+bt (fun i=>bN (xs.getD i default)) i)+1+1+1+1+1+1):=by rwa [show (k+bt (fun i=>bN (xs.getD i default)) i)+1+1+1+1+1+1=(k+bt (fun i=>bN (xs.getD i default)) i)+6 by omega]
  have n8:MarkB (xs.getD i default).Data ((k+bt (fun i=>bN (xs.getD i default)) i)+1+1+1+1+1+1+(xs.getD i default).Rows.length):=by rwa [show (k+bt (fun i=>bN (xs.getD i default)) i)+1+1+1+1+1+1=(k+bt (fun i=>bN (xs.getD i default)) i)+6 by omega]
  have n9:MarkB (xs.getD i default).Delta ((k+bt (fun i=>bN (xs.getD i default)) i)+1+1+1+1+1+1+(xs.getD i default).Rows.length+(xs.getD i default).Data.length):=by rwa [show (k+bt (fun i=>bN (xs.getD i default)) i)+1+1+1+1+1+1=(k+bt (fun i=>bN (xs.getD i default)) i)+6 by omega]
  obtain ⟨eb1,eo1,es1,ef1,ee1,ec1,eO1,eH1,em1⟩:=aU (H1.seen 0 Z) i (by omega);obtain ⟨ea1,ek1,ea2,ek2,ea3,ek3,eg1,eg2,eg3,rfl,eq1,eK1,eo2,eo3,eo4⟩:=cq eO1;have eK1U:=eK1;unfold Rec.Ok at eK1U
  try unfold I64ok at eK1U
  try unfold maxLen at eK1U
  refine an (sR 2 Z (sV Z (az aQ aJ Z Z ee1 i (by omega) (by omega)) (sF ay Z ts2 (sV Z (ah tu2 Z Z (be ec1 0 Z)) (sR 2 Z (aa (au Z (fun c2=>?_) (fun c2=>?_))))))))
  ·exact absurd c2 (by omega)
  ·refine aj (ab (sM Z Z (sV Z (aB Z Z iO) (sA Z Z (aa (ac (ac ?_)))))));obtain ⟨eb2,eo5,es2,ef2,ee2,ec2,eO2,eH2,em2⟩:=aU (H1.seen 0 Z) i (by omega);obtain ⟨ea4,ek4,ea5,ek5,ea6,ek6,eg4,eg5,eg6,rfl,eq2,eK2,eo6,eo7,eo8⟩:=cq eO2;have eK2U:=eK2;unfold Rec.Ok at eK2U
   try unfold I64ok at eK2U
   try unfold maxLen at eK2U
   refine an (sR 2 Z (sV Z (az aQ aJ Z Z ee2 i (by omega) (by omega)) (sF ay Z ts2 (sV Z (ah tu2 Z Z (be ec2 1 Z)) (sR 2 Z (aa (au Z (fun c3=>?_) (fun c3=>?_))))))))
   ·exact absurd c3 (by omega)
   ·refine aj (ab (sM Z Z (sV Z (aB Z Z iO) (sA Z Z (aa (ac (ac ?_)))))));obtain ⟨eb3,eo9,es3,ef3,ee3,ec3,eO3,eH3,em3⟩:=aU (H1.seen 0 Z) i (by omega);obtain ⟨ea7,ek7,ea8,ek8,ea9,ek9,eg7,eg8,eg9,rfl,eq3,eK3,eo10,eo11,eo12⟩:=cq eO3;have eK3U:=eK3;unfold Rec.Ok at eK3U
    try unfold I64ok at eK3U
    try unfold maxLen at eK3U
    refine bE (S:=Ext No _) (oQ [1,3,5,7,9,11,12,14]) (by kernel_rfl) (by kernel_rfl) (by kernel_rfl) Z (fun _=>Ext.refl.drawn _) (fun q1=>?_);have H2:=H1.drawn q1;refine dR 2 Z (dV Z Z (fun zw hx=>az aQ aJ Z Z ee3 i (by omega) (by omega)) (dV Z Z (fun zw hx=>ag ay Z ts9 Z Z) (dV Z Z (fun zw hx=>ah tu9 Z Z (be (hx.at ec3) 2 Z)) (dM Z Z Z (dC func172 pU Z (gT (by omega)) (fun v1 w2 r1=>?_))))));obtain ⟨e1,rfl,mt1⟩:=r1;have H3:=H2.to e1;refine aP Z (wn Z) Z Z (wc Z Z) (aT (bJ Z (fun c4=>?_) (fun c4=>?_)))
    ·exfalso; rw [n3] at c4; simp at c4
    ·refine aj (ab (sM Z Z (sV Z (aB Z Z iO) (sA Z Z (aa (ac (ac ?_)))))));obtain ⟨eb4,eo13,es4,ef4,ee4,ec4,eO4,eH4,em4⟩:=aU (H3.seen 0 Z) i (by omega);obtain ⟨ea10,ek10,ea11,ek11,ea12,ek12,eg10,eg11,eg12,rfl,eq4,eK4,eo14,eo15,eo16⟩:=cq eO4;have eK4U:=eK4;unfold Rec.Ok at eK4U
     try unfold I64ok at eK4U
     try unfold maxLen at eK4U
     refine an (sR 2 Z (sV Z (az aQ aJ Z Z ee4 i (by omega) (by omega)) (sF ay Z ts2 (sV Z (ah tu2 Z Z (be ec4 3 Z)) (sR 2 Z (aa (au Z (fun c5=>?_) (fun c5=>?_))))))))
     ·exact absurd c5 (by omega)
     ·refine aj (ab (sM Z Z (sV Z (aB Z Z iO) (sA Z Z (aa (ac (ac ?_)))))));obtain ⟨eb5,eo17,es5,ef5,ee5,ec5,eO5,eH5,em5⟩:=aU (H3.seen 0 Z) i (by omega);obtain ⟨ea13,ek13,ea14,ek14,ea15,ek15,eg13,eg14,eg15,rfl,eq5,eK5,eo18,eo19,eo20⟩:=cq eO5;have eK5U:=eK5;unfold Rec.Ok at eK5U
      try unfold I64ok at eK5U
      try unfold maxLen at eK5U
      refine an (sR 2 Z (sV Z (az aQ aJ Z Z ee5 i (by omega) (by omega)) (sF ay Z ts2 (sV Z (ah tu2 Z Z (be ec5 4 Z)) (sR 2 Z (aa (au Z (fun c6=>?_) (fun c6=>?_))))))))
      ·exact absurd c6 (by omega)
      ·refine aj (ab (sM Z Z (sV Z (aB Z Z iO) (sA Z Z (aa (ac (ac ?_)))))));obtain ⟨eb6,eo21,es6,ef6,ee6,ec6,eO6,eH6,em6⟩:=aU (H3.seen 0 Z) i (by omega);obtain ⟨ea16,ek16,ea17,ek17,ea18,ek18,eg16,eg17,eg18,rfl,eq6,eK6,eo22,eo23,eo24⟩:=cq eO6;have eK6U:=eK6;unfold Rec.Ok at eK6U
       try unfold I64ok at eK6U
       try unfold maxLen at eK6U
       refine an (sR 2 Z (sV Z (az aQ aJ Z Z ee6 i (by omega) (by omega)) (sF ay Z ts2 (sV Z (ah tu2 Z Z (be ec6 5 Z)) (sR 2 Z (aa (au Z (fun c7=>?_) (fun c7=>?_))))))))
       ·exact absurd c7 (by omega)
       ·refine aj (ab (sM Z Z (sV Z (aB Z Z iO) (sA Z Z (aa (ac ?_))))));obtain ⟨eb7,eo25,es7,ef7,ee7,ec7,eO7,eH7,em7⟩:=aU (H3.seen 0 Z) i (by omega);obtain ⟨ea19,ek19,ea20,ek20,ea21,ek21,eg19,eg20,eg21,rfl,eq7,eK7,eo26,eo27,eo28⟩:=cq eO7;have eK7U:=eK7;unfold Rec.Ok at eK7U
        try unfold I64ok at eK7U
        try unfold maxLen at eK7U
        have eP1:=H3.look1 0 Z eo26 (fun b hb=>eH7 b (by rw [eq7]; simp [hb]));have eL1:=oL eo26;refine an (sR 2 Z (sV Z (az aQ aJ Z Z ee7 i (by omega) (by omega)) (sF ay Z bz (sV Z (ah bm Z Z (be ec7 6 Z)) (sM Z Z (sE func150 pp Z (gr (eP1.sees 1 Z) (by constructor<;>omega) (by assumption)) eP1 (fun w3 e2 H4=>sA Z Z (aa (ac (ab (sR 2 Z (aa (au Z (fun c8=>?_) (fun c8=>?_))))))))))))))
        ·exact absurd c8 (by omega)
        ·refine aj (ac ?_);obtain ⟨eb8,eo29,es8,ef8,ee8,ec8,eO8,eH8,em8⟩:=aU (H4.seen 0 Z) i (by omega);obtain ⟨ea22,ek22,ea23,ek23,ea24,ek24,eg22,eg23,eg24,rfl,eq8,eK8,eo30,eo31,eo32⟩:=cq eO8;have eK8U:=eK8;unfold Rec.Ok at eK8U
         try unfold I64ok at eK8U
         try unfold maxLen at eK8U
         have eP2:=H4.look1 0 Z eo31 (fun b hb=>eH8 b (by rw [eq8]; simp [hb]));have eL2:=oL eo31;refine an (sR 2 Z (sV Z (az aQ aJ Z Z ee8 i (by omega) (by omega)) (sF ay Z bd (sV Z (ah bj Z Z (be ec8 7 Z)) (sM Z Z (sE func115 lG Z (eM (eP2.sees 2 Z) (by constructor<;>omega) (by assumption)) eP2 (fun w4 e3 H5=>sA Z Z (aa (ac (ab (sR 2 Z (aa (au Z (fun c9=>?_) (fun c9=>?_))))))))))))))
         ·exact absurd c9 (by omega)
         ·refine aj (ac ?_);obtain ⟨eb9,eo33,es9,ef9,ee9,ec9,eO9,eH9,em9⟩:=aU (H5.seen 0 Z) i (by omega);obtain ⟨ea25,ek25,ea26,ek26,ea27,ek27,eg25,eg26,eg27,rfl,eq9,eK9,eo34,eo35,eo36⟩:=cq eO9;have eK9U:=eK9;unfold Rec.Ok at eK9U
          try unfold I64ok at eK9U
          try unfold maxLen at eK9U
          have eP3:=H5.look1 0 Z eo36 (fun b hb=>eH9 b (by rw [eq9]; simp [hb]));have eL3:=oL eo36;refine an (sR 2 Z (sV Z (az aQ aJ Z Z ee9 i (by omega) (by omega)) (sF ay Z bd (sV Z (ah bj Z Z (be ec9 8 Z)) (sM Z Z (sE func115 lG Z (eM (eP3.sees 3 Z) (by constructor<;>omega) (by assumption)) eP3 (fun w5 e4 H6=>sA Z Z (aa (ab (sR 2 Z (aa (au Z (fun c10=>?_) (fun c10=>?_)))))))))))))
          ·exact absurd c10 (by omega)
          ·refine aj (an (sM Z Z (sV Z (aB Z Z iO) (sA Z Z (aa (⟨i+1,⟨eqI (by omega),Z,Z,trivial⟩,⟨(H6.ftake 1),by omega,trivial⟩,by dsimp only; omega⟩))))))
 ·refine aO (ab (sR 2 Z (rN hQ results91 Z ?_)));obtain rfl:i=xs.length:=by omega
  exact ⟨H1.ext,Z⟩
theorem kZ {w:World}{xs:List Tape}{xsA:Option Addr}{xsC:Nat}{k:Int}(xsS:Sees w [.slice xsA xs.length xsC] xs) (hk:0≤k∧k+mkL cx xs≤4611686018427387904) (hm:MkL MkTape cx xs k):Ret Tryz.prog 151 #[.slice xsA xs.length xsC,.int .i64 k] w fun v w'=>Ext No w w'∧(v = .int .i64 (k+mkL cx xs)):=by
 have xsL:=sL xsS;obtain ⟨xsF,xsO⟩:=xsS;refine aF (vs:=[.slice xsA xs.length xsC,.int .i64 k]) func151 Z ntmps151 Z (fun Q hQ hN=>?_);have H0:=Sep.start (w:=w) (F:=[seen false [.slice xsA xs.length xsC] xs xsF]) (ae xsO (by simp));refine ab (sA Z Z (aa (ac (ab (sA Z Z (aa (ao (bB (γ:=Nat) H0 [(0,_)] ⟨Z,trivial⟩ (fun i=>[(1,.int .i64 (k+bt (fun i=>cx (xs.getD i default)) i)),(5,.int .i64 i)]) (fun i=>i≤xs.length∧True) (fun i=>xs.length-i) 0 ⟨eqI (by simp [bt]),Z,trivial⟩ ⟨by omega,trivial⟩ (fun i w1 H1 ⟨hi,_⟩=>?_)))))))));dsimp only[lCA,lNA];refine ac (ab (sR 2 Z (sV Z (aC bA Z) (sV Z (aS Z Z) (aa (au Z (fun c1=>?_) (fun c1=>?_)))))))
 ·refine aj (ac (ao (ac (ac ?_))));have hmi:=hm i (by omega);obtain ⟨sg,sl⟩:=iE (c:=cx) (xs:=xs) (i:=i) (by omega);have hcu:cx (xs.getD i default)=1+mkL bN (xs.getD i default).Recs:=Z;obtain ⟨hm1,hm2⟩:=hmi;obtain ⟨eb1,eo1,es1,ef1,ee1,ec1,eO1,eH1,em1⟩:=aU (H1.seen 0 Z) i (by omega);obtain ⟨ea1,ek1,eg1,rfl,eq1,eK1,eo2⟩:=bL eO1;have eP1:=H1.look1 0 Z eo2 (fun b hb=>eH1 b (by rw [eq1]; simp [hb]));have eL1:=oL eo2;refine an (sR 2 Z (sV Z (az bA bR Z Z ee1 i (by omega) (by omega)) (sF bI Z ts4 (sV Z (ah tu4 Z Z (be ec1 0 Z)) (sM Z Z (sV Z (pg Z Z (by omega)) (sV Z (bW Z Z) (sV Z (mB tu4 Z Z) (aa (bJ Z (fun c2=>?_) (fun c2=>?_)))))))))))
  ·exfalso; rw [hm1] at c2; simp at c2
  ·refine aj (ab (sM Z Z (sV Z (aB Z Z iO) (sA Z Z (aa (ac ?_))))));obtain ⟨eb2,eo3,es2,ef2,ee2,ec2,eO2,eH2,em2⟩:=aU (eP1.seen 0 Z) i (by omega);obtain ⟨ea2,ek2,eg2,rfl,eq2,eK2,eo4⟩:=bL eO2;have eP2:=eP1.look1 0 Z eo4 (fun b hb=>eH2 b (by rw [eq2]; simp [hb]));have eL2:=oL eo4;refine an (sR 2 Z (sV Z (az bA bR Z Z ee2 i (by omega) (by omega)) (sF bI Z dv (sV Z (ah aQ Z Z (be ec2 1 Z)) (sM Z Z (sE func91 wH Z (lF (eP2.sees 2 Z) (by constructor<;>omega) (by assumption)) eP2 (fun w2 e1 H2=>sA Z Z (aa (ab (sR 2 Z (aa (au Z (fun c3=>?_) (fun c3=>?_)))))))))))))
   ·exact absurd c3 (by omega)
   ·refine aj (an (sM Z Z (sV Z (aB Z Z iO) (sA Z Z (aa (⟨i+1,⟨eqI (by omega),Z,Z,trivial⟩,⟨(H2.ftake 1),by omega,trivial⟩,by dsimp only; omega⟩))))))
 ·refine aO (ab (sR 2 Z (rN hQ results151 Z ?_)));obtain rfl:i=xs.length:=by omega
  exact ⟨H1.ext,Z⟩
theorem lk {w:World}{x:Wld}{s0 s1 s2 s3 s4 s5 s6 s7 s8 wr sp k:Int}{dn:Bool}{A9 A10 A11:Option Addr}{n9 C9 n10 C10 n11 C11:Nat}(e9:Sees w [.slice A9 n9 C9] x.Groups) (e10:Sees w [.slice A10 n10 C10] x.On) (e11:Sees w [.slice A11 n11 C11] x.Tapes) (hk:0≤k∧k+ce x≤4611686018427387904) (hm:MkWld x k):Ret Tryz.prog 78 #[.agg #[.int .i64 s0,.int .i64 s1,.int .i64 s2,.int .i64 s3,.int .i64 s4,.int .i64 s5,.int .i64 s6,.int .i64 s7,.int .i64 s8,.slice A9 n9 C9,.slice A10 n10 C10,.slice A11 n11 C11,.int .i64 wr,.int .i64 sp,.bool dn],.int .i64 k] w fun v w'=>Ext No w w'∧(v = .int .i64 (k+ce x)):=by
 obtain ⟨f9,o9⟩:=e9;obtain rfl:=dO o9;obtain ⟨f10,o10⟩:=e10;obtain rfl:=dO o10;obtain ⟨f11,o11⟩:=e11;obtain rfl:=dO o11;have hcu:ce x=mkL (mkL bf) x.Groups+x.On.length+mkL cx x.Tapes:=Z;obtain ⟨m1,m2,m3⟩:=hm;refine aF (vs:=[.agg #[.int .i64 s0,.int .i64 s1,.int .i64 s2,.int .i64 s3,.int .i64 s4,.int .i64 s5,.int .i64 s6,.int .i64 s7,.int .i64 s8,.slice A9 x.Groups.length C9,.slice A10 x.On.length C10,.slice A11 x.Tapes.length C11,.int .i64 wr,.int .i64 sp,.bool dn],.int .i64 k]) func78 Z ntmps78 Z (fun Q hQ hN=>?_);have H0:=Sep.start (w:=w) (F:=[seen false [.slice A9 x.Groups.length C9] x.Groups f9,seen false [.slice A10 x.On.length C10] x.On f10,seen false [.slice A11 x.Tapes.length C11] x.Tapes f11]) (ae o9 (ae o10 (ae o11 (by simp))));refine ab (aY (wn Z) Z Z H0 (fun b1 w1 e1 g1 H1=>sA Z Z (aa (ab (sF aW Z fF (sLd cV (H1.box 0 Z) Z (sM Z Z (sE func149 vM Z (jT (H1.sees 0 Z) (by constructor<;>omega) (by assumption)) H1 (fun w2 e2 H2=>sA Z Z (aa (ac (ab (sR 2 Z (aa (au Z (fun c1=>?_) (fun c1=>?_))))))))))))))))
 ·exact absurd c1 (by omega)
 ·refine aj (ab (sF aW Z bz (sLd bm (H2.box 0 Z) Z (sM Z Z (sE func150 pp Z (gr (H2.sees 1 Z) (by constructor<;>omega) (by assumption)) H2 (fun w3 e3 H3=>sA Z Z (aa (ac (ab (sR 2 Z (aa (au Z (fun c2=>?_) (fun c2=>?_)))))))))))))
  ·exact absurd c2 (by omega)
  ·refine aj (ab (sF aW Z cQ (sLd bA (H3.box 0 Z) Z (sM Z Z (sE func151 vg Z (kZ (H3.sees 2 Z) (by constructor<;>omega) (by assumption)) H3 (fun w4 e4 H4=>sA Z Z (aa (ac (ab (sR 2 Z (aa (au Z (fun c3=>?_) (fun c3=>?_)))))))))))))
   ·exact absurd c3 (by omega)
   ·refine aj (ab (sR 2 Z (rN hQ results78 Z ?_)));exact ⟨H4.ext,congrArg (Value.int .i64) (by omega)⟩
theorem eG {w:World}{x:Wld}{c s0 s1 s2 s3 s4 s5 s6 s7 s8 wr sp k:Int}{dn:Bool}{A9 A10 A11:Option Addr}{n9 C9 n10 C10 n11 C11:Nat}(e9:Sees w [.slice A9 n9 C9] x.Groups) (e10:Sees w [.slice A10 n10 C10] x.On) (e11:Sees w [.slice A11 n11 C11] x.Tapes) (hk:0≤k∧k+ce x≤4611686018427387904) (hm:MkWld x k):Ret Tryz.prog 23 #[.agg #[.int .i64 c,.int .i64 s0,.int .i64 s1,.int .i64 s2,.int .i64 s3,.int .i64 s4,.int .i64 s5,.int .i64 s6,.int .i64 s7,.int .i64 s8,.slice A9 n9 C9,.slice A10 n10 C10,.slice A11 n11 C11,.int .i64 wr,.int .i64 sp,.bool dn],.int .i64 k] w fun v w'=>Ext No w w'∧(v = .int .i64 (k+ce x)):=by
 obtain ⟨f9,o9⟩:=e9;obtain rfl:=dO o9;obtain ⟨f10,o10⟩:=e10;obtain rfl:=dO o10;obtain ⟨f11,o11⟩:=e11;obtain rfl:=dO o11
 skip
 refine aF (vs:=[.agg #[.int .i64 c,.int .i64 s0,.int .i64 s1,.int .i64 s2,.int .i64 s3,.int .i64 s4,.int .i64 s5,.int .i64 s6,.int .i64 s7,.int .i64 s8,.slice A9 x.Groups.length C9,.slice A10 x.On.length C10,.slice A11 x.Tapes.length C11,.int .i64 wr,.int .i64 sp,.bool dn],.int .i64 k]) func23 Z ntmps23 Z (fun Q hQ hN=>?_);have H0:=Sep.start (w:=w) (F:=[seen false [.slice A9 x.Groups.length C9] x.Groups f9,seen false [.slice A10 x.On.length C10] x.On f10,seen false [.slice A11 x.Tapes.length C11] x.Tapes f11]) (ae o9 (ae o10 (ae o11 (by simp))));refine ab (aY (wn Z) Z Z H0 (fun b1 w1 e1 g1 H1=>sA Z Z (aa (ab (sF fe Z cH (sV Z (ak aW Z cH Z Z (At.sub (H1.box 0 Z) 15)) (sM Z Z (sE func78 xn Z (lk (H1.sees 0 Z) (H1.sees 1 Z) (H1.sees 2 Z) (by constructor<;>omega) (by assumption)) H1 (fun w2 e2 H2=>sA Z Z (aa (ac (ab (sR 2 Z (aa (au Z (fun c1=>?_) (fun c1=>?_))))))))))))))))
 ·exact absurd c1 (by omega)
 ·refine aj (ab (sR 2 Z (rN hQ results23 Z ?_)));exact ⟨H2.ext,Z⟩
theorem im {w:World}{y:WldResult}{yA10 yA11 yA12:Option Addr}{yC10 yC11 yC12:Nat}{k:Int}{fp:List Nat}(o:own true w [.int .i64 y.Code,.int .i64 y.Wd.Shape.Groups,.int .i64 y.Wd.Shape.Column,.int .i64 y.Wd.Shape.Data,.int .i64 y.Wd.Shape.Spare,.int .i64 y.Wd.Shape.Rows,.int .i64 y.Wd.Shape.Cap,.int .i64 y.Wd.Shape.Batch,.int .i64 y.Wd.Shape.Queue,.int .i64 y.Wd.Shape.Stage,.slice yA10 y.Wd.Groups.length yC10,.slice yA11 y.Wd.On.length yC11,.slice yA12 y.Wd.Tapes.length yC12,.int .i64 y.Wd.Writes,.int .i64 y.Wd.Stop,.bool y.Wd.Down] y fp) (nd:fp.Nodup) (hk:0≤k∧k+ce y.Wd≤4611686018427387904):Ret Tryz.prog 22 #[y.val yA10 yC10 yA11 yC11 yA12 yC12,.int .i64 k] w fun v w'=>(v = .int .i64 (k+ce y.Wd)∧∃ x':Wld,Mut w w' fp [.int .i64 y.Code,.int .i64 y.Wd.Shape.Groups,.int .i64 y.Wd.Shape.Column,.int .i64 y.Wd.Shape.Data,.int .i64 y.Wd.Shape.Spare,.int .i64 y.Wd.Shape.Rows,.int .i64 y.Wd.Shape.Cap,.int .i64 y.Wd.Shape.Batch,.int .i64 y.Wd.Shape.Queue,.int .i64 y.Wd.Shape.Stage,.slice yA10 y.Wd.Groups.length yC10,.slice yA11 y.Wd.On.length yC11,.slice yA12 y.Wd.Tapes.length yC12,.int .i64 y.Wd.Writes,.int .i64 y.Wd.Stop,.bool y.Wd.Down] (⟨y.Code,x'⟩:WldResult)∧(x'.Groups.length=y.Wd.Groups.length∧x'.On.length=y.Wd.On.length∧x'.Tapes.length=y.Wd.Tapes.length∧ce x'=ce y.Wd∧MkWld x' k∧x'.Shape=y.Wd.Shape∧x'.Writes=y.Wd.Writes∧x'.Stop=y.Wd.Stop∧x'.Down=y.Wd.Down)):=by
 refine aF (vs:=[y.val yA10 yC10 yA11 yC11 yA12 yC12,.int .i64 k]) func22 Z ntmps22 Z (fun Q hQ hN=>?_);obtain ⟨f10,f11,f12,ef,ok,o10,o11,o12⟩:=dH o;have H0:=(Sep.begin o nd).conv 0 (mine [.int .i64 y.Wd.Shape.Groups,.int .i64 y.Wd.Shape.Column,.int .i64 y.Wd.Shape.Data,.int .i64 y.Wd.Shape.Spare,.int .i64 y.Wd.Shape.Rows,.int .i64 y.Wd.Shape.Cap,.int .i64 y.Wd.Shape.Batch,.int .i64 y.Wd.Shape.Queue,.int .i64 y.Wd.Shape.Stage,.slice yA10 y.Wd.Groups.length yC10,.slice yA11 y.Wd.On.length yC11,.slice yA12 y.Wd.Tapes.length yC12,.int .i64 y.Wd.Writes,.int .i64 y.Wd.Stop,.bool y.Wd.Down] y.Wd (f10++(f11++f12))) Z (Wld.own_mk ok.2 o10 o11 o12) (fun b hb=>by rw [ef]; exact hb) (by rw [← ef]; exact nd)
 try dsimp only[lNA,lCA,lSZ,lSS] at H0
 have okW:=ok.2;refine ab (aY (wn Z) Z Z H0 (fun b1 w1 e1 g1 H1=>sA Z Z (aa (ab (sF fe Z cH (sV Z (ak aW Z cH Z Z (At.sub (H1.box 1 Z) 15)) (sM Z Z (sC func21 qH Z (gz (by assumption) (H1.mine 0 Z) (H1.nodup1 (i:=0) Z) (by constructor<;>omega)) (fun v1 w2 r1=>?_)))))))));obtain ⟨rfl,mx1,mm1,ml1⟩:=r1;obtain ⟨fp1,H2⟩:=H1.mut 0 Z mm1
 try dsimp only[lNA,lCA,lSZ,lSS] at H2
 refine sA Z Z (aa (ab (sR 2 Z (rN hQ results22 Z ?_))));exact ⟨Z,mx1,WldResult.mutW ok (H2.dtake 1),ml1⟩
theorem dB {w:World}{a:WldResult}{aA10 aA11 aA12:Option Addr}{aC10 aC11 aC12:Nat}{b:WldResult}{bA10 bA11 bA12:Option Addr}{bC10 bC11 bC12:Nat}(aK:a.Ok) (aS10:Sees w [.slice aA10 a.Wd.Groups.length aC10] a.Wd.Groups) (aS11:Sees w [.slice aA11 a.Wd.On.length aC11] a.Wd.On) (aS12:Sees w [.slice aA12 a.Wd.Tapes.length aC12] a.Wd.Tapes) (bK:b.Ok) (bS10:Sees w [.slice bA10 b.Wd.Groups.length bC10] b.Wd.Groups) (bS11:Sees w [.slice bA11 b.Wd.On.length bC11] b.Wd.On) (bS12:Sees w [.slice bA12 b.Wd.Tapes.length bC12] b.Wd.Tapes):Ret Tryz.prog 19 #[a.val aA10 aC10 aA11 aC11 aA12 aC12,b.val bA10 bC10 bA11 bC11 bA12 bC12] w fun v w'=>Ext No w w'∧(v = .bool (decide (a=b))):=by
 have aK2:=aK;unfold WldResult.Ok Wld.Ok Shape.Ok at aK2
 try unfold I64ok at aK2
 try unfold maxLen at aK2
 have aL10:=sL aS10;obtain ⟨aF10,aO10⟩:=aS10;have aL11:=sL aS11;obtain ⟨aF11,aO11⟩:=aS11;have aL12:=sL aS12;obtain ⟨aF12,aO12⟩:=aS12;have bK2:=bK;unfold WldResult.Ok Wld.Ok Shape.Ok at bK2
 try unfold I64ok at bK2
 try unfold maxLen at bK2
 have bL10:=sL bS10;obtain ⟨bF10,bO10⟩:=bS10;have bL11:=sL bS11;obtain ⟨bF11,bO11⟩:=bS11;have bL12:=sL bS12;obtain ⟨bF12,bO12⟩:=bS12;have aK3:=aK.2;have bK3:=bK.2;refine aF (vs:=[a.val aA10 aC10 aA11 aC11 aA12 aC12,b.val bA10 bC10 bA11 bC11 bA12 bC12]) func19 Z ntmps19 Z (fun Q hQ hN=>?_);have H0:=Sep.start (w:=w) (F:=[seen false [.slice aA10 a.Wd.Groups.length aC10] a.Wd.Groups aF10,seen false [.slice aA11 a.Wd.On.length aC11] a.Wd.On aF11,seen false [.slice aA12 a.Wd.Tapes.length aC12] a.Wd.Tapes aF12,seen false [.slice bA10 b.Wd.Groups.length bC10] b.Wd.Groups bF10,seen false [.slice bA11 b.Wd.On.length bC11] b.Wd.On bF11,seen false [.slice bA12 b.Wd.Tapes.length bC12] b.Wd.Tapes bF12]) (ae aO10 (ae aO11 (ae aO12 (ae bO10 (ae bO11 (ae bO12 (by simp)))))));refine ab (aY (wn Z) Z Z H0 (fun b1 w1 e1 g1 H1=>aY (wn Z) Z Z H1 (fun b2 w2 e2 g2 H2=>sA Z Z (aa (ac (ab (sF fe Z ts2 (sLd tu2 (H2.box 0 Z) Z (sF fe Z ts2 (sLd tu2 (H2.box 1 Z) Z (sV Z (bn Z Z) (aa (au Z (fun c1=>?_) (fun c1=>?_))))))))))))))
 ·refine ab (sA Z Z (aa (rT hQ results19 Z (⟨H2.ext,?_⟩))));rw [decide_eq_false (fun e=>by subst e; first | exact c1 rfl | simp at c1)]
 ·refine aj (ac (ab (sF fe Z cH (sV Z (ak aW Z cH Z Z (At.sub (H2.box 0 Z) 15)) (sF fe Z cH (sV Z (ak aW Z cH Z Z (At.sub (H2.box 1 Z) 15)) (sE func20 qZ Z (iu (by assumption) (H2.sees 0 Z) (H2.sees 1 Z) (H2.sees 2 Z) (by assumption) (H2.sees 3 Z) (H2.sees 4 Z) (H2.sees 5 Z)) H2 (fun w3 e3 H3=>sV Z (aX Z) (aa (bJ Z (fun c2=>?_) (fun c2=>?_)))))))))))
  ·refine ab (sA Z Z (aa (rT hQ results19 Z (⟨H3.ext,?_⟩))));rw [decide_eq_false (fun e=>by subst e; first | exact c2 rfl | simp at c2)]
  ·refine aj (ab (sA Z Z (aa (rT hQ results19 Z (⟨H3.ext,?_⟩)))));rw [decide_eq_true];cases a; cases b; simp_all
end Go.Wk
namespace Go.Wk
open Go.Proofs Rp Go.Proofs.Tryz
set_option maxRecDepth 10000
theorem gc {w:World}{zb zC9 zC10 zC11:Nat}{z:Wld}{zA9 zA10 zA11:Option Addr}(zB:w.heap[zb]? = some (.cells [.int .i64 z.Shape.Groups,.int .i64 z.Shape.Column,.int .i64 z.Shape.Data,.int .i64 z.Shape.Spare,.int .i64 z.Shape.Rows,.int .i64 z.Shape.Cap,.int .i64 z.Shape.Batch,.int .i64 z.Shape.Queue,.int .i64 z.Shape.Stage,.slice zA9 z.Groups.length zC9,.slice zA10 z.On.length zC10,.slice zA11 z.Tapes.length zC11,.int .i64 z.Writes,.int .i64 z.Stop,.bool z.Down].toArray 34)) (zK:z.Ok) (zS9:Sees w [.slice zA9 z.Groups.length zC9] z.Groups) (zS10:Sees w [.slice zA10 z.On.length zC10] z.On) (zS11:Sees w [.slice zA11 z.Tapes.length zC11] z.Tapes) (hT:z.Tapes.length=2):Ret Tryz.prog 197 #[.pointer (some ⟨zb,0,none⟩)] w fun v w'=>Ext No w w'∧(v = .int .i64 (ru z)):=by
 have zK2:=zK;unfold Wld.Ok Shape.Ok at zK2
 try unfold I64ok at zK2
 try unfold maxLen at zK2
 have zL9:=sL zS9;obtain ⟨zF9,zO9⟩:=zS9;have zL10:=sL zS10;obtain ⟨zF10,zO10⟩:=zS10;have zL11:=sL zS11;obtain ⟨zF11,zO11⟩:=zS11;refine aF (vs:=[.pointer (some ⟨zb,0,none⟩)]) func197 Z ntmps197 Z (fun Q hQ hN=>?_);have H0:=Sep.start (w:=w) (F:=[box zb (.cells [.int .i64 z.Shape.Groups,.int .i64 z.Shape.Column,.int .i64 z.Shape.Data,.int .i64 z.Shape.Spare,.int .i64 z.Shape.Rows,.int .i64 z.Shape.Cap,.int .i64 z.Shape.Batch,.int .i64 z.Shape.Queue,.int .i64 z.Shape.Stage,.slice zA9 z.Groups.length zC9,.slice zA10 z.On.length zC10,.slice zA11 z.Tapes.length zC11,.int .i64 z.Writes,.int .i64 z.Stop,.bool z.Down].toArray 34),seen false [.slice zA9 z.Groups.length zC9] z.Groups zF9,seen false [.slice zA10 z.On.length zC10] z.On zF10,seen false [.slice zA11 z.Tapes.length zC11] z.Tapes zF11]) (ae (by exact zB) (ae zO9 (ae zO10 (ae zO11 (by simp)))));refine ab (sA Z Z (aa (ac ?_)));obtain ⟨eb1,eo1,es1,ef1,ee1,ec1,eO1,eH1,em1⟩:=aU (H0.seen 3 Z) 0 (by omega);obtain ⟨ea1,ek1,eg1,rfl,eq1,eK1,eo2⟩:=bL eO1;have eP1:=H0.look1 3 Z eo2 (fun b hb=>eH1 b (by rw [eq1]; simp [hb]));have eL1:=oL eo2;obtain ⟨eb2,eo3,es2,ef2,ee2,ec2,eO2,eH2,em2⟩:=aU (eP1.seen 3 Z) 1 (by omega);obtain ⟨ea2,ek2,eg2,rfl,eq2,eK2,eo4⟩:=bL eO2;have eP2:=eP1.look1 3 Z eo4 (fun b hb=>eH2 b (by rw [eq2]; simp [hb]));have eL2:=oL eo4;refine bE (S:=Ext No _) (oQ [1,3,5,7,9,11,13,17,19,21,23,25,27,29,14,30,33,35,36]) (by kernel_rfl) (by kernel_rfl) (by kernel_rfl) Z (fun _=>Ext.refl.drawn _) (fun q1=>?_);have H1:=eP2.drawn q1;refine dR 2 Z (dV Z Z (fun zw hx=>ag aW Z cQ Z Z) (dV Z Z (fun zw hx=>ah bA Z Z (al (hx.heap (H1.fbox 0 Z)) Z)) (dV Z Z (fun zw hx=>az bA bR Z Z ee1 0 (by omega) (by omega)) (dV Z Z (fun zw hx=>ag bI Z dv Z Z) (dV Z Z (fun zw hx=>ah aQ Z Z (be (hx.at ec1) 1 Z)) (dR 2 Z (dV Z Z (fun zw hx=>ag aW Z cQ Z Z) (dV Z Z (fun zw hx=>ah bA Z Z (al (hx.heap (H1.fbox 0 Z)) Z)) (dV Z Z (fun zw hx=>az bA bR Z Z ee2 1 (by omega) (by omega)) (dV Z Z (fun zw hx=>ag bI Z dv Z Z) (dV Z Z (fun zw hx=>ah aQ Z Z (be (hx.at ec2) 1 Z)) (dC func208 pG Z (lu (H1.sees 4 Z)) (fun v1 w1 r1=>?_)))))))))))));obtain ⟨e1,rfl⟩:=r1;have H2:=H1.to e1;refine dC func208 pG Z (lu (H2.sees 5 Z)) (fun v2 w2 r2=>?_);obtain ⟨e2,rfl⟩:=r2;have H3:=H2.to e2;refine dV Z Z (fun zw hx=>AX Z Z) (dV Z Z (fun zw hx=>bu Z Z iO) (aP Z (wn Z) Z Z (bv Z) (aT (rT hQ results197 Z ?_))));exact ⟨H3.ext,congrArg (Value.int .i64) (by unfold ru; split<;>omega)⟩
theorem nH {w:World}{zb zC9 zC10 zC11:Nat}{z:Wld}{zA9 zA10 zA11:Option Addr}{m:Int}(zB:w.heap[zb]? = some (.cells [.int .i64 z.Shape.Groups,.int .i64 z.Shape.Column,.int .i64 z.Shape.Data,.int .i64 z.Shape.Spare,.int .i64 z.Shape.Rows,.int .i64 z.Shape.Cap,.int .i64 z.Shape.Batch,.int .i64 z.Shape.Queue,.int .i64 z.Shape.Stage,.slice zA9 z.Groups.length zC9,.slice zA10 z.On.length zC10,.slice zA11 z.Tapes.length zC11,.int .i64 z.Writes,.int .i64 z.Stop,.bool z.Down].toArray 34)) (zK:z.Ok) (zS9:Sees w [.slice zA9 z.Groups.length zC9] z.Groups) (zS10:Sees w [.slice zA10 z.On.length zC10] z.On) (zS11:Sees w [.slice zA11 z.Tapes.length zC11] z.Tapes) (hT:z.Tapes.length=2) (hm:0≤m∧m≤10) (hr:(z.Tapes.getD 0 default).Recs.length≤1000∧(z.Tapes.getD 1 default).Recs.length≤1000):Ret Tryz.prog 134 #[.pointer (some ⟨zb,0,none⟩),.int .i64 m] w fun v w'=>Ext No w w'∧(v = .bool (wo z m)):=by
 have zK2:=zK;unfold Wld.Ok Shape.Ok at zK2
 try unfold I64ok at zK2
 try unfold maxLen at zK2
 have zL9:=sL zS9;obtain ⟨zF9,zO9⟩:=zS9;have zL10:=sL zS10;obtain ⟨zF10,zO10⟩:=zS10;have zL11:=sL zS11;obtain ⟨zF11,zO11⟩:=zS11;refine aF (vs:=[.pointer (some ⟨zb,0,none⟩),.int .i64 m]) func134 Z ntmps134 Z (fun Q hQ hN=>?_);have H0:=Sep.start (w:=w) (F:=[box zb (.cells [.int .i64 z.Shape.Groups,.int .i64 z.Shape.Column,.int .i64 z.Shape.Data,.int .i64 z.Shape.Spare,.int .i64 z.Shape.Rows,.int .i64 z.Shape.Cap,.int .i64 z.Shape.Batch,.int .i64 z.Shape.Queue,.int .i64 z.Shape.Stage,.slice zA9 z.Groups.length zC9,.slice zA10 z.On.length zC10,.slice zA11 z.Tapes.length zC11,.int .i64 z.Writes,.int .i64 z.Stop,.bool z.Down].toArray 34),seen false [.slice zA9 z.Groups.length zC9] z.Groups zF9,seen false [.slice zA10 z.On.length zC10] z.On zF10,seen false [.slice zA11 z.Tapes.length zC11] z.Tapes zF11]) (ae (by exact zB) (ae zO9 (ae zO10 (ae zO11 (by simp)))));refine ab (sA Z Z (aa (ac ?_)));obtain ⟨eb1,eo1,es1,ef1,ee1,ec1,eO1,eH1,em1⟩:=aU (H0.seen 3 Z) 0 (by omega);obtain ⟨ea1,ek1,eg1,rfl,eq1,eK1,eo2⟩:=bL eO1;have eP1:=H0.look1 3 Z eo2 (fun b hb=>eH1 b (by rw [eq1]; simp [hb]));have eL1:=oL eo2;refine an (sR 2 Z (sF aW Z cQ (sLd bA (eP1.fbox 0 Z) Z (sV Z (az bA bR Z Z ee1 0 (by omega) (by omega)) (sF bI Z dv (sV Z (ah aQ Z Z (be ec1 1 Z)) (sV Z (aC aQ Z) (sM Z Z (sV Z (aB Z Z iO) (sR 2 Z (cI (t:=16) Z (fun hg1=>?_) (fun hg1=>?_))))))))))))
 ·try simp only [decide_eq_true_eq,decide_eq_false_iff_not] at hg1
  refine sR 11 Z (sV Z (aH Z Z) (rA hQ results134 Z ?_));exact ⟨eP1.ext,congrArg Value.bool (by unfold wo; rw [decide_eq_true (p:=200<((z.Tapes.getD 0 default).Recs.length:Int)+m) hg1]; rfl)⟩
 ·try simp only [decide_eq_true_eq,decide_eq_false_iff_not] at hg1
  refine am (wg Z Z Z) Z Z (aM Z) (am (wg Z Z Z) Z Z (ej Z) (am (wg Z Z Z) Z Z (ag aW Z cQ Z Z) (am (wg Z Z Z) Z Z (ah bA Z Z (al (eP1.fbox 0 Z) Z)) ?_)));obtain ⟨eb2,eo3,es2,ef2,ee2,ec2,eO2,eH2,em2⟩:=aU (eP1.seen 3 Z) 1 (by omega);obtain ⟨ea2,ek2,eg2,rfl,eq2,eK2,eo4⟩:=bL eO2;have eP2:=eP1.look1 3 Z eo4 (fun b hb=>eH2 b (by rw [eq2]; simp [hb]));have eL2:=oL eo4;refine am (wg Z Z Z) Z Z (az bA bR Z Z ee2 1 (by omega) (by omega)) (am (wg Z Z Z) Z Z (ag bI Z dv Z Z) (am (wg Z Z Z) Z Z (ah aQ Z Z (be ec2 1 Z)) (am (wg Z Z Z) Z Z (aC aQ Z) (am (wg Z Z Z) Z Z (aM Z) (am (wg Z Z Z) Z Z (aB Z Z iO) (am (wg Z Z Z) Z Z (dm Z Z) (sV Z (aN Z Z) (rA hQ results134 Z ?_))))))));exact ⟨eP2.ext,congrArg Value.bool (by unfold wo; rw [decide_eq_false (p:=200<((z.Tapes.getD 0 default).Recs.length:Int)+m) hg1]; rfl)⟩
theorem iU {w:World}{d:Bool}  : Ret Tryz.prog 236 #[.bool d] w fun v w'=>Ext No w w'∧(v = .int .i64 (if d=true then 0 else 9)):=by
 refine aF (vs:=[.bool d]) func236 Z ntmps236 Z (fun Q hQ hN=>?_);have H0:=Sep.start (w:=w) (F:=[]) (by simp);refine ab (sA Z Z (aa (ac (ab (sM Z Z (sV Z (aX Z) (aa (bJ Z (fun c1=>?_) (fun c1=>?_)))))))))
 ·refine ab (rA hQ results236 Z ?_);exact ⟨H0.ext,by simp_all⟩
 ·refine aj (ab (rA hQ results236 Z ?_));exact ⟨H0.ext,by simp_all⟩
theorem kU {w:World}{z:Wld}{zb:Nat}{fp:List Nat}(o:OwnW w zb 34 z fp) (nd:fp.Nodup):Ret Tryz.prog 308 #[.pointer (some ⟨zb,0,none⟩)] w fun v w'=>(MutW w w' fp zb 34 (rU z)):=by
 refine aF (vs:=[.pointer (some ⟨zb,0,none⟩)]) func308 Z ntmps308 Z (fun Q hQ hN=>?_);have H0:=Sep.beginW o nd;obtain ⟨wA1,wC1,wA2,wC2,wA3,wC3,wf1,wf2,wf3,wok1,H1⟩:=H0.openW 0 Z
 try dsimp only[lNA,lCA,lSZ,lSS] at H1
 have wok1U:=wok1;unfold Wld.Ok Shape.Ok I64ok at wok1U;have wL1:=oL (H1.mine 2 Z);have wL2:=oL (H1.mine 3 Z);have wL3:=oL (H1.mine 4 Z);refine an (sR 3 Z (sF aW Z ts4 (bx (wn Z) ts4 Z Z Z H1 0 Z Z (fun w1 e1 H2=>?_))));dsimp only[lNA,lCA,lSZ,lSS,aL] at H2;refine sV Z (ej Z) (sF aW Z bz (bx (wn Z) bz Z Z Z H2 0 Z Z (fun w2 e2 H3=>?_)));dsimp only[lNA,lCA,lSZ,lSS,aL] at H3;refine aa (hN _ _ (kB results308 ?_));have H4:=H3.nilW (α:=Int)
 try dsimp only[lNA,lCA,lSZ,lSS] at H4
 obtain ⟨fp1,H5⟩:=H4.closeW 0 2 5 4 (rU z) Z Z Z Z Z Z Z Z Z Z (oP wok1)
 try dsimp only[lNA,lCA,lSZ,lSS] at H5
 have hz:=H5.doneW;exact hz
theorem kX {w:World}{z y:Wld}{zb:Nat}{fp:List Nat}{dof:FuncId}{doL:List Value}{doF:Func}(o:OwnW w zb 34 z fp) (nd:fp.Nodup) (doH:Tryz.prog.funcs[dof]? = some doF) (doB:doF.body.isNone=false) (doN:NG doF) (doC:∀ w1 fp1,OwnW w1 zb 34 z fp1→fp1.Nodup→(∀ x∈fp1,x∈fp∨w.heap.size≤x)→Ext (· ∈ fp) w w1→Ret Tryz.prog dof doL.toArray w1 fun v w'=>MutW w1 w' fp1 zb 34 y) (hy:y.Writes≤2000000000):Ret Tryz.prog 242 #[.pointer (some ⟨zb,0,none⟩),.func (.func dof) #[] doL.toArray] w fun v w'=>(v = .bool (!bP z)∧MutW w w' fp zb 34 (qv z y)):=by
 refine aF (vs:=[.pointer (some ⟨zb,0,none⟩),.func (.func dof) #[] doL.toArray]) func242 Z ntmps242 Z (fun Q hQ hN=>?_);have H0:=Sep.beginW o nd;refine ab (sA Z Z (aa (ac (ac ?_))));obtain ⟨wA1,wC1,wA2,wC2,wA3,wC3,wf1,wf2,wf3,wok1,H1⟩:=H0.openW 0 Z
 try dsimp only[lNA,lCA,lSZ,lSS] at H1
 have wok1U:=wok1;unfold Wld.Ok Shape.Ok I64ok at wok1U;have wL1:=oL (H1.mine 2 Z);have wL2:=oL (H1.mine 3 Z);have wL3:=oL (H1.mine 4 Z);refine bE (S:=Ext No _) (oQ [1,3,5,7,9,11,13,15,17,19,21,23,25,27,29,30]) (by kernel_rfl) (by kernel_rfl) (by kernel_rfl) Z (fun _=>Ext.refl.drawn _) (fun q1=>?_);have H2:=H1.drawn q1;refine dR 2 Z (dV Z Z (fun zw hx=>ag aW Z ts2 Z Z) (dV Z Z (fun zw hx=>ah tu2 Z Z (al (hx.heap (H2.box 0 Z)) Z)) (dR 2 Z (cb (t:=10) Z (fun hg1=>?_) (fun hg1=>?_)))))
 ·try simp only [decide_eq_true_eq,decide_eq_false_iff_not] at hg1
  refine aG Z (wg Z Z Z) Z Z (fun zw hx=>aM Z) (aG Z (wg Z Z Z) Z Z (fun zw hx=>ej Z) (aG Z (wg Z Z Z) Z Z (fun zw hx=>ag aW Z ts2 Z Z) (aG Z (wg Z Z Z) Z Z (fun zw hx=>ah tu2 Z Z (al (hx.heap (H2.box 0 Z)) Z)) (aG Z (wg Z Z Z) Z Z (fun zw hx=>aM Z) (aG Z (wg Z Z Z) Z Z (fun zw hx=>ej Z) (aG Z (wg Z Z Z) Z Z (fun zw hx=>ag aW Z ts2 Z Z) (aG Z (wg Z Z Z) Z Z (fun zw hx=>ah tu2 Z Z (al (hx.heap (H2.box 0 Z)) Z)) (aG Z (wg Z Z Z) Z Z (fun zw hx=>rP Z Z) (aP Z (wn Z) Z Z (aH Z Z) (aT (au Z (fun c1=>?_) (fun c1=>?_))))))))))))
  ·refine ac ?_;have hnp:bP z=true:=oo (by omega) (by omega);refine an (sM Z Z ?_);obtain ⟨fp1,H3⟩:=H2.closeW 0 2 3 4 z Z Z Z Z Z Z Z Z Z Z wok1
   try dsimp only[lNA,lCA,lSZ,lSS] at H3
   refine sC func308 tP Z (kU (H3.wldAt 0 Z) (H3.nodup1 (i:=0) Z)) (fun v1 w1 r1=>?_);have mm1:=r1;obtain ⟨fp2,H4⟩:=H3.mutW 0 Z mm1
   try dsimp only[lNA,lCA,lSZ,lSS] at H4
   refine aa (ab (rA hQ results242 Z ?_));have hz:=H4.doneW;rw [← mT (y:=y) hnp] at hz;exact ⟨(by rw [hnp]; rfl),hz⟩
  ·refine aj (ac ?_);have hnp:bP z=false:=jn (.inr (by omega));refine an (sM Z Z ?_);obtain ⟨fp3,H5⟩:=H2.closeW 0 2 3 4 z Z Z Z Z Z Z Z Z Z Z wok1
   try dsimp only[lNA,lCA,lSZ,lSS] at H5
   refine dE (wn Z) Z Z (eS (lb:=doL) Z doH doB doN Z) (doC _ _ (H5.wldAt 0 Z) (H5.nodup1 (i:=0) Z) (fun x hx=>H5.new x (H5.inB 0 Z hx)) H5.ext) (fun v2 w2 r2=>?_);obtain ⟨fp4,H6⟩:=H5.mutW 0 Z r2
   try dsimp only[lNA,lCA,lSZ,lSS] at H6
   refine aa (ac ?_);obtain ⟨wA4,wC4,wA5,wC5,wA6,wC6,wf4,wf5,wf6,wok2,H7⟩:=H6.openW 0 Z
   try dsimp only[lNA,lCA,lSZ,lSS] at H7
   have wok2U:=wok2;unfold Wld.Ok Shape.Ok I64ok at wok2U;have wL4:=oL (H7.mine 6 Z);have wL5:=oL (H7.mine 7 Z);have wL6:=oL (H7.mine 8 Z);refine an (sR 2 Z (sF aW Z ts2 (sLd tu2 (H7.box 0 Z) Z (sV Z (aB Z Z iO) (sV Z (ej Z) (sF aW Z ts2 (bx (wn Z) ts2 Z Z Z H7 0 Z Z (fun w3 e2 H8=>?_))))))));dsimp only[lNA,lCA,lSZ,lSS,aL] at H8;refine aa (ab (rA hQ results242 Z ?_));obtain ⟨fp5,H9⟩:=H8.closeW 0 6 7 8 (lp y) Z Z Z Z Z Z Z Z Z Z (kc wok2 hy)
   try dsimp only[lNA,lCA,lSZ,lSS] at H9
   have hz:=H9.doneW;rw [← fH hnp] at hz;exact ⟨(by rw [hnp]; rfl),hz⟩
 ·try simp only [decide_eq_true_eq,decide_eq_false_iff_not] at hg1
  refine dR 9 Z (aP Z (wn Z) Z Z (aN Z Z) (aT (ja Z (aj (ac ?_)))));have hnp:bP z=false:=jn (.inl (by omega));refine an (sM Z Z ?_);obtain ⟨fp6,H10⟩:=H2.closeW 0 2 3 4 z Z Z Z Z Z Z Z Z Z Z wok1
  try dsimp only[lNA,lCA,lSZ,lSS] at H10
  refine dE (wn Z) Z Z (eS (lb:=doL) Z doH doB doN Z) (doC _ _ (H10.wldAt 0 Z) (H10.nodup1 (i:=0) Z) (fun x hx=>H10.new x (H10.inB 0 Z hx)) H10.ext) (fun v3 w4 r3=>?_);obtain ⟨fp7,H11⟩:=H10.mutW 0 Z r3
  try dsimp only[lNA,lCA,lSZ,lSS] at H11
  refine aa (ac ?_);obtain ⟨wA7,wC7,wA8,wC8,wA9,wC9,wf7,wf8,wf9,wok3,H12⟩:=H11.openW 0 Z
  try dsimp only[lNA,lCA,lSZ,lSS] at H12
  have wok3U:=wok3;unfold Wld.Ok Shape.Ok I64ok at wok3U;have wL7:=oL (H12.mine 6 Z);have wL8:=oL (H12.mine 7 Z);have wL9:=oL (H12.mine 8 Z);refine an (sR 2 Z (sF aW Z ts2 (sLd tu2 (H12.box 0 Z) Z (sV Z (aB Z Z iO) (sV Z (ej Z) (sF aW Z ts2 (bx (wn Z) ts2 Z Z Z H12 0 Z Z (fun w5 e3 H13=>?_))))))));dsimp only[lNA,lCA,lSZ,lSS,aL] at H13;refine aa (ab (rA hQ results242 Z ?_));obtain ⟨fp8,H14⟩:=H13.closeW 0 6 7 8 (lp y) Z Z Z Z Z Z Z Z Z Z (kc wok3 hy)
  try dsimp only[lNA,lCA,lSZ,lSS] at H14
  have hz:=H14.doneW;rw [← fH hnp] at hz;exact ⟨(by rw [hnp]; rfl),hz⟩
theorem gI {w:World}{z:Wld}{zb t b1 b2 b3 rC6 rC7 rC8:Nat}{fp rF6 rF7 rF8:List Nat}{r:Rec}{rA6 rA7 rA8:Option Addr}(o:OwnW w zb 34 z fp) (nd:fp.Nodup) (h1:w.heap[b1]? = some (.cells [.pointer (some ⟨zb,0,none⟩)].toArray 76)) (d1:b1 ∉ fp) (h2:w.heap[b2]? = some (.cells [.int .i64 (t:Nat)].toArray 2)) (d2:b2 ∉ fp) (h3:w.heap[b3]? = some (.cells [.int .i64 r.Kind,.int .i64 r.Seq,.string r.Name,.int .i64 r.Length,.int .i64 r.Group,.int .i64 r.Row,.slice rA6 r.Rows.length rC6,.slice rA7 r.Data.length rC7,.slice rA8 r.Delta.length rC8].toArray 94)) (d3:b3 ∉ fp) (rO6:own false w [.slice rA6 r.Rows.length rC6] r.Rows rF6) (rD6:∀ b∈rF6,b ∉ fp) (rO7:own false w [.slice rA7 r.Data.length rC7] r.Data rF7) (rD7:∀ b∈rF7,b ∉ fp) (rO8:own false w [.slice rA8 r.Delta.length rC8] r.Delta rF8) (rD8:∀ b∈rF8,b ∉ fp) (rK:r.Ok) (ht:t<z.Tapes.length) (hb:cn r≤1048576) (hl:(z.Tapes.getD t default).Recs.length≤100000):Ret Tryz.prog 243 #[.pointer (some ⟨b1,0,none⟩),.pointer (some ⟨b2,0,none⟩),.pointer (some ⟨b3,0,none⟩)] w fun v w'=>(MutW w w' fp zb 34 (lf t r z)):=by
 have rK2:=rK;unfold Rec.Ok at rK2
 try unfold I64ok at rK2
 try unfold maxLen at rK2
 have rN2:r.Name.size≤maxLen:=by unfold maxLen; omega
 have rL6:=oL rO6;have rL7:=oL rO7;have rL8:=oL rO8;refine aF (vs:=[.pointer (some ⟨b1,0,none⟩),.pointer (some ⟨b2,0,none⟩),.pointer (some ⟨b3,0,none⟩)]) func243 Z ntmps243 Z (fun Q hQ hN=>?_);have H0:=(((((((Sep.beginW o nd).boxF h1 d1).boxF h2 d2).boxF h3 d3).seeF rO6 rD6).seeF rO7 rD7).seeF rO8 rD8)
 try dsimp only[lNA,lCA,lSZ,lSS] at H0
 refine ac ?_;obtain ⟨wA1,wC1,wA2,wC2,wA3,wC3,wf1,wf2,wf3,wok1,H1⟩:=H0.openW 0 Z
 try dsimp only[lNA,lCA,lSZ,lSS] at H1
 have wok1U:=wok1;unfold Wld.Ok Shape.Ok I64ok at wok1U;have wL1:=oL (H1.mine 2 Z);have wL2:=oL (H1.mine 3 Z);have wL3:=oL (H1.mine 4 Z);obtain ⟨eb1,eo1,eT1,eF1,eG1,ea1,ek1,eg1,ee1,eK1,eH1⟩:=Tape.focus H1 4 Z t (by omega);have eK1U:=eK1;unfold Tape.Ok at eK1U
 try unfold I64ok at eK1U
 try unfold maxLen at eK1U
 try dsimp only[lNA,lCA,lSZ,lSS] at eH1
 refine bE (S:=Ext No _) (oQ [1,3,5,7,9,11,12]) (by kernel_rfl) (by kernel_rfl) (by kernel_rfl) Z (fun _=>Ext.refl.drawn _) (fun q1=>?_);have H2:=eH1.drawn q1;refine dV Z Z (fun zw hx=>ah Bm Z Z (al (hx.heap (H2.fbox 0 Z)) Z)) (dV Z Z (fun zw hx=>ej Z) (dV Z Z (fun zw hx=>ag aW Z cQ Z Z) (dV Z Z (fun zw hx=>ah bA Z Z (al (hx.heap (H2.box 0 Z)) Z)) (dV Z Z (fun zw hx=>ah tu2 Z Z (al (hx.heap (H2.fbox 1 Z)) Z)) (dV Z Z (fun zw hx=>az bA bR Z Z ee1 t (by omega) (by omega)) (aP Z (wn Z) Z Z (bv Z) (aT (bE (S:=H2.S2 4 6) (oQ [1,3,5,7,9,13,2020,10,14,16,18,21,23,24,27,29,30,14,2018,10,16,18,21,23,24,27,29,30,16,10,18,21,23,24,27,29,30]) (by kernel_rfl) (by kernel_rfl) (by kernel_rfl) Z (fun _=>show H2.S2 4 6 _ from Ext.refl.drawn _) (fun q2=>?_)))))))));have H3:=H2.drawn q2;refine dR 4 Z (dV Z Z (fun zw hx=>ag bI Z dv Z Z) (dV Z Z (fun zw hx=>ak ay Z aJ Z Z (At.whole (H2.s2FBox hx 2 Z Z Z))) (dF Z ?_ ?_)))
 ·refine aP Z (wn Z) Z Z (ah aQ Z Z (be (H3.holAt 4 Z) 1 Z)) (bU Z (wn Z) Z Z (aV func88 Z nA Z) (fa (by assumption) (H3.sees 3 Z) (H3.sees 4 Z) (H3.sees 5 Z) (by first | assumption | omega)) (fun hS _ _ r _=>H2.s2Call hS r.1) (fun v1 w1 r1=>?_));obtain ⟨e1,sa1,sk1,sa2,sk2,sa3,sk3,rfl,r1⟩:=r1;obtain ⟨fp1,H4⟩:=H3.res e1 r1;refine eO Z (wn Z) Z aQ aR Z Z Z Z H4 (fun _ h e=>H2.s2Call h e) (fun b1 w2 e2 g1 H5=>iH Z (wn Z) Z aQ aR Z Z Z H5 6 8 7 Z Z Z Z (by unfold maxLen; omega) (by omega) (fun _ h e=>H2.s2In h 6 Z (.inr Z) e (fun _ hb=>hb)) (fun v2 w3 fp2 H6=>dV Z Z (fun zw hx=>ej Z) (dV Z Z (fun zw hx=>ag bI Z dv Z Z) ?_)));obtain ⟨a1,k1,q3⟩:=aA (H6.mine 6 Z);cases q3;refine jG Z (wn Z) dv H6 4 1 Z Z Z Z Z (fun _ h e _=>H2.s2In h 4 Z (.inl Z) e (fun _ hb=>by rw [hb]; exact List.mem_cons_self)) (fun w4 H7=>?_);dsimp only[lNA,lCA,lSZ,lSS,aL] at H7;refine dV Z Z (fun zw hx=>ej Z) (dV Z Z (fun zw hx=>ag bI Z ts4 Z Z) (jG Z (wn Z) ts4 H7 4 0 Z Z Z Z Z (fun _ h e _=>H2.s2In h 4 Z (.inl Z) e (fun _ hb=>by rw [hb]; exact List.mem_cons_self)) (fun w5 H8=>?_)));dsimp only[lNA,lCA,lSZ,lSS,aL] at H8;refine aT (hN _ _ (kB results243 ?_));obtain ⟨fp3,H9⟩:=Tape.fill H8 4 6 Z Z Z trivial
  try dsimp only[lNA,lCA,lSZ,lSS] at H9
  obtain ⟨fp4,H10⟩:=H9.closeW 0 2 3 4 (lf t r z) Z Z Z Z Z Z Z Z Z Z (ju wok1)
  try dsimp only[lNA,lCA,lSZ,lSS] at H10
  have hz:=H10.doneW;exact hz
 ·refine bU Z (wn Z) Z Z (aV func88 Z nA Z) (fa (by assumption) (H3.sees 3 Z) (H3.sees 4 Z) (H3.sees 5 Z) (by first | assumption | omega)) (fun hS _ _ r _=>H2.s2Call hS r.1) (fun v3 w6 r2=>?_);obtain ⟨e5,sa4,sk4,sa5,sk5,sa6,sk6,rfl,r2⟩:=r2;obtain ⟨fp5,H11⟩:=H3.res e5 r2;refine dF Z ?_ ?_
  ·refine aP Z (wn Z) Z Z (ah aQ Z Z (be (H11.holAt 4 Z) 1 Z)) (eO Z (wn Z) Z aQ aR Z Z Z Z H11 (fun _ h e=>H2.s2Call h e) (fun b2 w7 e6 g2 H12=>iH Z (wn Z) Z aQ aR Z Z Z H12 6 8 7 Z Z Z Z (by unfold maxLen; omega) (by omega) (fun _ h e=>H2.s2In h 6 Z (.inr Z) e (fun _ hb=>hb)) (fun v4 w8 fp6 H13=>dV Z Z (fun zw hx=>ej Z) (dV Z Z (fun zw hx=>ag bI Z dv Z Z) ?_))));obtain ⟨a2,k2,q4⟩:=aA (H13.mine 6 Z);cases q4;refine jG Z (wn Z) dv H13 4 1 Z Z Z Z Z (fun _ h e _=>H2.s2In h 4 Z (.inl Z) e (fun _ hb=>by rw [hb]; exact List.mem_cons_self)) (fun w9 H14=>?_);dsimp only[lNA,lCA,lSZ,lSS,aL] at H14;refine dV Z Z (fun zw hx=>ej Z) (dV Z Z (fun zw hx=>ag bI Z ts4 Z Z) (jG Z (wn Z) ts4 H14 4 0 Z Z Z Z Z (fun _ h e _=>H2.s2In h 4 Z (.inl Z) e (fun _ hb=>by rw [hb]; exact List.mem_cons_self)) (fun w10 H15=>?_)));dsimp only[lNA,lCA,lSZ,lSS,aL] at H15;refine aT (hN _ _ (kB results243 ?_));obtain ⟨fp7,H16⟩:=Tape.fill H15 4 6 Z Z Z trivial
   try dsimp only[lNA,lCA,lSZ,lSS] at H16
   obtain ⟨fp8,H17⟩:=H16.closeW 0 2 3 4 (lf t r z) Z Z Z Z Z Z Z Z Z Z (ju wok1)
   try dsimp only[lNA,lCA,lSZ,lSS] at H17
   have hz:=H17.doneW;exact hz
  ·refine eO Z (wn Z) Z aQ aR Z Z Z Z H11 (fun _ h e=>H2.s2Call h e) (fun b3 w11 e9 g3 H18=>aP Z (wn Z) Z Z (ah aQ Z Z (be (H18.holAt 4 Z) 1 Z)) (iH Z (wn Z) Z aQ aR Z Z Z H18 6 8 7 Z Z Z Z (by unfold maxLen; omega) (by omega) (fun _ h e=>H2.s2In h 6 Z (.inr Z) e (fun _ hb=>hb)) (fun v5 w12 fp9 H19=>dV Z Z (fun zw hx=>ej Z) (dV Z Z (fun zw hx=>ag bI Z dv Z Z) ?_))));obtain ⟨a3,k3,q5⟩:=aA (H19.mine 6 Z);cases q5;refine jG Z (wn Z) dv H19 4 1 Z Z Z Z Z (fun _ h e _=>H2.s2In h 4 Z (.inl Z) e (fun _ hb=>by rw [hb]; exact List.mem_cons_self)) (fun w13 H20=>?_);dsimp only[lNA,lCA,lSZ,lSS,aL] at H20;refine dV Z Z (fun zw hx=>ej Z) (dV Z Z (fun zw hx=>ag bI Z ts4 Z Z) (jG Z (wn Z) ts4 H20 4 0 Z Z Z Z Z (fun _ h e _=>H2.s2In h 4 Z (.inl Z) e (fun _ hb=>by rw [hb]; exact List.mem_cons_self)) (fun w14 H21=>?_)));dsimp only[lNA,lCA,lSZ,lSS,aL] at H21;refine aT (hN _ _ (kB results243 ?_));obtain ⟨fp10,H22⟩:=Tape.fill H21 4 6 Z Z Z trivial
   try dsimp only[lNA,lCA,lSZ,lSS] at H22
   obtain ⟨fp11,H23⟩:=H22.closeW 0 2 3 4 (lf t r z) Z Z Z Z Z Z Z Z Z Z (ju wok1)
   try dsimp only[lNA,lCA,lSZ,lSS] at H23
   have hz:=H23.doneW;exact hz
theorem eH {w:World}{z:Wld}{zb t rC6 rC7 rC8:Nat}{fp rF6 rF7 rF8:List Nat}{r:Rec}{rA6 rA7 rA8:Option Addr}(o:OwnW w zb 34 z fp) (nd:fp.Nodup) (rK:r.Ok) (rO6:own false w [.slice rA6 r.Rows.length rC6] r.Rows rF6) (rD6:∀ b∈rF6,b ∉ fp) (rO7:own false w [.slice rA7 r.Data.length rC7] r.Data rF7) (rD7:∀ b∈rF7,b ∉ fp) (rO8:own false w [.slice rA8 r.Delta.length rC8] r.Delta rF8) (rD8:∀ b∈rF8,b ∉ fp) (ht:t<z.Tapes.length) (hb:cn r≤1048576) (hl:(z.Tapes.getD t default).Recs.length≤100000) (hw:z.Writes≤2000000000):Ret Tryz.prog 155 #[.pointer (some ⟨zb,0,none⟩),.int .i64 t,r.val rA6 rC6 rA7 rC7 rA8 rC8] w fun v w'=>(v = .bool (!bP z)∧MutW w w' fp zb 34 (eI t r z)):=by
 have rK2:=rK;unfold Rec.Ok at rK2
 try unfold I64ok at rK2
 try unfold maxLen at rK2
 have rN2:r.Name.size≤maxLen:=by unfold maxLen; omega
 have rL6:=oL rO6;have rL7:=oL rO7;have rL8:=oL rO8;refine aF (vs:=[.pointer (some ⟨zb,0,none⟩),.int .i64 t,r.val rA6 rC6 rA7 rC7 rA8 rC8]) func155 Z ntmps155 Z (fun Q hQ hN=>?_);have H0:=(((Sep.beginW o nd).seeF (rO6) rD6).seeF (rO7) rD7).seeF (rO8) rD8
 try dsimp only[lNA,lCA,lSZ,lSS] at H0
 refine ab (aY (wn Z) Z Z H0 (fun b1 w1 e1 g1 H1=>aY (wn Z) Z Z H1 (fun b2 w2 e2 g2 H2=>aY (wn Z) Z Z H2 (fun b3 w3 e3 g3 H3=>sA Z Z (aa (ab (sLd Bm (H3.box 1 Z) Z (sV Z (oJ Z) (sC func242 tY Z (kX (H3.wldAt 0 Z) (H3.nodup1 (i:=0) Z) (y:=lf t r z) func243 Z vr (fun w1 fp1 o1 n1 s1 e1=>gI o1 n1 (H3.boxFar 0 1 Z Z Z s1 e1).1 (H3.boxFar 0 1 Z Z Z s1 e1).2 (H3.boxFar 0 2 Z Z Z s1 e1).1 (H3.boxFar 0 2 Z Z Z s1 e1).2 (H3.boxFar 0 3 Z Z Z s1 e1).1 (H3.boxFar 0 3 Z Z Z s1 e1).2 (H3.seeFar 0 0 Z Z s1 e1).1 (H3.seeFar 0 0 Z Z s1 e1).2 (H3.seeFar 0 1 Z Z s1 e1).1 (H3.seeFar 0 1 Z Z s1 e1).2 (H3.seeFar 0 2 Z Z s1 e1).1 (H3.seeFar 0 2 Z Z s1 e1).2 rK ht hb hl) (by first | assumption | omega)) (fun v1 w4 r1=>?_))))))))));obtain ⟨rfl,mm1⟩:=r1;obtain ⟨fp1,H4⟩:=H3.mutW 0 Z mm1
 try dsimp only[lNA,lCA,lSZ,lSS] at H4
 refine rA hQ results155 Z ?_;exact ⟨Z,H4.doneW⟩
theorem jV {w:World}{z:Wld}{zb rC6 rC7 rC8:Nat}{fp rF6 rF7 rF8:List Nat}{r:Rec}{rA6 rA7 rA8:Option Addr}(o:OwnW w zb 34 z fp) (nd:fp.Nodup) (rK:r.Ok) (rO6:own false w [.slice rA6 r.Rows.length rC6] r.Rows rF6) (rD6:∀ b∈rF6,b ∉ fp) (rO7:own false w [.slice rA7 r.Data.length rC7] r.Data rF7) (rD7:∀ b∈rF7,b ∉ fp) (rO8:own false w [.slice rA8 r.Delta.length rC8] r.Delta rF8) (rD8:∀ b∈rF8,b ∉ fp) (hf:df z=true) (hT:z.Tapes.length=2) (hb:cn r≤1048576) (hw:z.Writes≤1500000000):Ret Tryz.prog 144 #[.pointer (some ⟨zb,0,none⟩),r.val rA6 rC6 rA7 rC7 rA8 rC8] w fun v w'=>(v = .int .i64 2∧MutW w w' fp zb 34 (z)):=by
 have rK2:=rK;unfold Rec.Ok at rK2
 try unfold I64ok at rK2
 try unfold maxLen at rK2
 have rN2:r.Name.size≤maxLen:=by unfold maxLen; omega
 have rL6:=oL rO6;have rL7:=oL rO7;have rL8:=oL rO8;refine aF (vs:=[.pointer (some ⟨zb,0,none⟩),r.val rA6 rC6 rA7 rC7 rA8 rC8]) func144 Z ntmps144 Z (fun Q hQ hN=>?_);have H0:=(((Sep.beginW o nd).seeF (rO6) rD6).seeF (rO7) rD7).seeF (rO8) rD8
 try dsimp only[lNA,lCA,lSZ,lSS] at H0
 refine ab (aY (wn Z) Z Z H0 (fun b1 w1 e1 g1 H1=>sA Z Z (aa (ac (ac ?_)))));obtain ⟨wA1,wC1,wA2,wC2,wA3,wC3,wf1,wf2,wf3,wok1,H2⟩:=H1.openW 0 Z
 try dsimp only[lNA,lCA,lSZ,lSS] at H2
 have wok1U:=wok1;unfold Wld.Ok Shape.Ok I64ok at wok1U;have wL1:=oL (H2.mine 3 Z);have wL2:=oL (H2.mine 4 Z);have wL3:=oL (H2.mine 5 Z);refine an (sM Z Z (sE func197 pm Z (gc (H2.box 0 Z) (by assumption) (H2.msees 3 Z) (H2.msees 4 Z) (H2.msees 5 Z) (by first | assumption | omega)) H2 (fun w2 e2 H3=>sV Z (aS Z Z) (aa (au Z (fun c1=>?_) (fun c1=>?_))))))
 ·refine ab (rA hQ results144 Z ?_);obtain ⟨fp1,H4⟩:=H3.closeW 0 3 4 5 z Z Z Z Z Z Z Z Z Z Z wok1
  try dsimp only[lNA,lCA,lSZ,lSS] at H4
  have hz:=H4.doneW;exact ⟨Z,hz⟩
 ·exact absurd (zf c1) (by simp [hf])
theorem kT {w:World}{z:Wld}{zb rC6 rC7 rC8:Nat}{fp rF6 rF7 rF8:List Nat}{r:Rec}{rA6 rA7 rA8:Option Addr}(o:OwnW w zb 34 z fp) (nd:fp.Nodup) (rK:r.Ok) (rO6:own false w [.slice rA6 r.Rows.length rC6] r.Rows rF6) (rD6:∀ b∈rF6,b ∉ fp) (rO7:own false w [.slice rA7 r.Data.length rC7] r.Data rF7) (rD7:∀ b∈rF7,b ∉ fp) (rO8:own false w [.slice rA8 r.Delta.length rC8] r.Delta rF8) (rD8:∀ b∈rF8,b ∉ fp) (hf:df z=false) (hT:z.Tapes.length=2) (hb:cn r≤1048576) (hw:z.Writes≤1500000000):Ret Tryz.prog 144 #[.pointer (some ⟨zb,0,none⟩),r.val rA6 rC6 rA7 rC7 rA8 rC8] w fun v w'=>(v = .int .i64 (if lr z r=true then 0 else 9)∧MutW w w' fp zb 34 (kr z r)):=by
 have rK2:=rK;unfold Rec.Ok at rK2
 try unfold I64ok at rK2
 try unfold maxLen at rK2
 have rN2:r.Name.size≤maxLen:=by unfold maxLen; omega
 have rL6:=oL rO6;have rL7:=oL rO7;have rL8:=oL rO8;have aw:=(gi (t:=0) (r:=r) (z:=z)).2;have at_:=ie (t:=0) (r:=r) (z:=z);have ar:=rh (t:=0) (u:=1) (r:=r) (z:=z);have fn_:=su hf;refine aF (vs:=[.pointer (some ⟨zb,0,none⟩),r.val rA6 rC6 rA7 rC7 rA8 rC8]) func144 Z ntmps144 Z (fun Q hQ hN=>?_);have H0:=(((Sep.beginW o nd).seeF (rO6) rD6).seeF (rO7) rD7).seeF (rO8) rD8
 try dsimp only[lNA,lCA,lSZ,lSS] at H0
 refine ab (aY (wn Z) Z Z H0 (fun b1 w1 e1 g1 H1=>sA Z Z (aa (ac (ac ?_)))));obtain ⟨wA1,wC1,wA2,wC2,wA3,wC3,wf1,wf2,wf3,wok1,H2⟩:=H1.openW 0 Z
 try dsimp only[lNA,lCA,lSZ,lSS] at H2
 have wok1U:=wok1;unfold Wld.Ok Shape.Ok I64ok at wok1U;have wL1:=oL (H2.mine 3 Z);have wL2:=oL (H2.mine 4 Z);have wL3:=oL (H2.mine 5 Z);refine an (sM Z Z (sE func197 pm Z (gc (H2.box 0 Z) (by assumption) (H2.msees 3 Z) (H2.msees 4 Z) (H2.msees 5 Z) (by first | assumption | omega)) H2 (fun w2 e2 H3=>sV Z (aS Z Z) (aa (au Z (fun c1=>?_) (fun c1=>?_))))))
 ·exact absurd (xf c1) (by simp [hf])
 ·refine aj (ab (sM Z Z (sV Z (ak ay Z aJ Z Z (At.whole (H3.box 1 Z))) ?_)));obtain ⟨fp1,H4⟩:=H3.closeW 0 3 4 5 z Z Z Z Z Z Z Z Z Z Z wok1
  try dsimp only[lNA,lCA,lSZ,lSS] at H4
  refine sC func155 ql Z (eH (H4.wldAt 0 Z) (H4.nodup1 (i:=0) Z) (by assumption) (aZ (H4.seen 0 Z)) (fun b hb=>H4.off 0 Z 0 Z hb) (aZ (H4.seen 1 Z)) (fun b hb=>H4.off 1 Z 0 Z hb) (aZ (H4.seen 2 Z)) (fun b hb=>H4.off 2 Z 0 Z hb) (by first | assumption | omega) (by first | assumption | omega) (by first | assumption | omega) (by first | assumption | omega) (t:=0)) (fun v2 w3 r2=>?_);obtain ⟨rfl,mm1⟩:=r2;obtain ⟨fp2,H5⟩:=H4.mutW 0 Z mm1
  try dsimp only[lNA,lCA,lSZ,lSS] at H5
  refine sM Z Z (cI (t:=11) Z (fun hg1=>?_) (fun hg1=>?_))
  ·try simp only [decide_eq_true_eq,decide_eq_false_iff_not] at hg1
   refine am (wg Z Z Z) Z Z (aM Z) (am (wg Z Z Z) Z Z (ak ay Z aJ Z Z (At.whole (H5.box 1 Z))) (dE (wg Z Z Z) Z Z (aV func155 Z ql Z) (eH (H5.wldAt 0 Z) (H5.nodup1 (i:=0) Z) (by assumption) (aZ (H5.seen 0 Z)) (fun b hb=>H5.off 0 Z 0 Z hb) (aZ (H5.seen 1 Z)) (fun b hb=>H5.off 1 Z 0 Z hb) (aZ (H5.seen 2 Z)) (fun b hb=>H5.off 2 Z 0 Z hb) (by first | assumption | omega) (by first | assumption | omega) (by first | assumption | omega) (by first | assumption | omega) (t:=1)) (fun v3 w4 r3=>?_)));obtain ⟨rfl,mm2⟩:=r3;obtain ⟨fp3,H6⟩:=H5.mutW 0 Z mm2
   try dsimp only[lNA,lCA,lSZ,lSS] at H6
   refine sV Z (aH Z Z) (sE func236 oY Z iU H6 (fun w5 e5 H7=>rA hQ results144 Z ?_));have hnp:bP z=false:=by simpa using hg1
   have hz:=H7.doneW;rw [← (mI (r:=r) hnp).1] at hz;exact ⟨(by rw [(mI (r:=r) hnp).2]),hz⟩
  ·try simp only [decide_eq_true_eq,decide_eq_false_iff_not] at hg1
   refine sR 3 Z (sV Z (aN Z Z) (sE func236 oY Z iU H5 (fun w6 e6 H8=>rA hQ results144 Z ?_)));have hnp:bP z=true:=by simpa using hg1
   have hz:=H8.doneW;rw [← (oR (r:=r) hnp).1] at hz;exact ⟨(by rw [(oR (r:=r) hnp).2]),hz⟩
theorem kD {w:World}{x:Wld}{xA9 xA10 xA11:Option Addr}{xC9 xC10 xC11:Nat}{c:Int}(xK:x.Ok) (xS9:Sees w [.slice xA9 x.Groups.length xC9] x.Groups) (xS10:Sees w [.slice xA10 x.On.length xC10] x.On) (xS11:Sees w [.slice xA11 x.Tapes.length xC11] x.Tapes) (hc:c≠0∧c≠9):Ret Tryz.prog 70 #[x.val xA9 xC9 xA10 xC10 xA11 xC11,.int .i64 c] w fun v w'=>Ext No w w'∧(v=(⟨c,noWld⟩:WldResult).val none 0 none 0 none 0):=by
 have xK2:=xK;unfold Wld.Ok Shape.Ok at xK2
 try unfold I64ok at xK2
 try unfold maxLen at xK2
 have xL9:=sL xS9;obtain ⟨xF9,xO9⟩:=xS9;have xL10:=sL xS10;obtain ⟨xF10,xO10⟩:=xS10;have xL11:=sL xS11;obtain ⟨xF11,xO11⟩:=xS11;refine aF (vs:=[x.val xA9 xC9 xA10 xC10 xA11 xC11,.int .i64 c]) func70 Z ntmps70 Z (fun Q hQ hN=>?_);have H0:=Sep.start (w:=w) (F:=[seen false [.slice xA9 x.Groups.length xC9] x.Groups xF9,seen false [.slice xA10 x.On.length xC10] x.On xF10,seen false [.slice xA11 x.Tapes.length xC11] x.Tapes xF11]) (ae xO9 (ae xO10 (ae xO11 (by simp))));refine ab (aY (wn Z) Z Z H0 (fun b1 w1 e1 g1 H1=>bG (wn Z) Z zeroValue36 H1 (fun b2 w2 e2 g2 H2=>aa (ac (ab (sR 3 Z (cI (t:=7) Z (fun hg1=>?_) (fun hg1=>?_))))))))
 ·try simp only [decide_eq_true_eq,decide_eq_false_iff_not] at hg1
  refine am (wg Z Z Z) Z Z (aM Z) (am (wg Z Z Z) Z Z (bn Z Z) (sV Z (aH Z Z) (aa (au Z (fun c1=>?_) (fun c1=>?_)))))
  ·refine ab (sM Z Z (sV Z (bT dD Z Z) (ba (wn Z) dt Z Z Z Z H2 1 Z Z (fun w3 e3 H3=>?_))));dsimp only[lNA,lCA,lSZ,lSS,aL] at H3;refine aa (bH (hQ _ _ (db results70 Z (aI fe Z dt Z (At.whole (H3.box 1 Z))) ?_)));exact ⟨H3.ext,Z⟩
  ·exfalso; simp_all
 ·exfalso; simp_all
theorem jP {w:World}{x:Wld}{xA9 xA10 xA11:Option Addr}{xC9 xC10 xC11:Nat}{c:Int}(xK:x.Ok) (xS9:Sees w [.slice xA9 x.Groups.length xC9] x.Groups) (xS10:Sees w [.slice xA10 x.On.length xC10] x.On) (xS11:Sees w [.slice xA11 x.Tapes.length xC11] x.Tapes) (hc:c=0∨c=9):Ret Tryz.prog 70 #[x.val xA9 xC9 xA10 xC10 xA11 xC11,.int .i64 c] w fun v w'=>Ext No w w'∧(v=(⟨c,x⟩:WldResult).val xA9 xC9 xA10 xC10 xA11 xC11):=by
 have xK2:=xK;unfold Wld.Ok Shape.Ok at xK2
 try unfold I64ok at xK2
 try unfold maxLen at xK2
 have xL9:=sL xS9;obtain ⟨xF9,xO9⟩:=xS9;have xL10:=sL xS10;obtain ⟨xF10,xO10⟩:=xS10;have xL11:=sL xS11;obtain ⟨xF11,xO11⟩:=xS11;refine aF (vs:=[x.val xA9 xC9 xA10 xC10 xA11 xC11,.int .i64 c]) func70 Z ntmps70 Z (fun Q hQ hN=>?_);have H0:=Sep.start (w:=w) (F:=[seen false [.slice xA9 x.Groups.length xC9] x.Groups xF9,seen false [.slice xA10 x.On.length xC10] x.On xF10,seen false [.slice xA11 x.Tapes.length xC11] x.Tapes xF11]) (ae xO9 (ae xO10 (ae xO11 (by simp))));refine ab (aY (wn Z) Z Z H0 (fun b1 w1 e1 g1 H1=>bG (wn Z) Z zeroValue36 H1 (fun b2 w2 e2 g2 H2=>aa (ac (ab (sR 3 Z (cI (t:=7) Z (fun hg1=>?_) (fun hg1=>?_))))))))
 ·try simp only [decide_eq_true_eq,decide_eq_false_iff_not] at hg1
  refine am (wg Z Z Z) Z Z (aM Z) (am (wg Z Z Z) Z Z (bn Z Z) (sV Z (aH Z Z) (aa (au Z (fun c1=>?_) (fun c1=>?_)))))
  ·exfalso; simp_all
  ·refine aj (ab (sM Z Z (sV Z (ak aW Z cH Z Z (At.whole (H2.box 0 Z))) (sV Z (bT dD Z Z) (ba (wn Z) dt Z Z Z Z H2 1 Z Z (fun w3 e3 H3=>?_))))));dsimp only[lNA,lCA,lSZ,lSS,aL] at H3;refine aa (bH (hQ _ _ (db results70 Z (aI fe Z dt Z (At.whole (H3.box 1 Z))) ?_)));exact ⟨H3.ext,Z⟩
 ·try simp only [decide_eq_true_eq,decide_eq_false_iff_not] at hg1
  refine sR 2 Z (sV Z (aN Z Z) (aa (ja Z (aj (ab (sM Z Z (sV Z (ak aW Z cH Z Z (At.whole (H2.box 0 Z))) (sV Z (bT dD Z Z) (ba (wn Z) dt Z Z Z Z H2 1 Z Z (fun w4 e4 H4=>?_))))))))));dsimp only[lNA,lCA,lSZ,lSS,aL] at H4;refine aa (bH (hQ _ _ (db results70 Z (aI fe Z dt Z (At.whole (H4.box 1 Z))) ?_)));exact ⟨H4.ext,Z⟩
theorem oC {w:World}{z:Wld}{zb:Nat}{fp:List Nat}(o:OwnW w zb 34 z fp) (nd:fp.Nodup) (hd:z.Down=false) (hw:z.Writes≤2000000000):Ret Tryz.prog 204 #[.pointer (some ⟨zb,0,none⟩)] w fun v w'=>(v = .bool (!bP z)∧MutW w w' fp zb 34 (qv z z)):=by
 refine aF (vs:=[.pointer (some ⟨zb,0,none⟩)]) func204 Z ntmps204 Z (fun Q hQ hN=>?_);have H0:=Sep.beginW o nd;refine ab (sA Z Z (aa (ac (ac ?_))));obtain ⟨wA1,wC1,wA2,wC2,wA3,wC3,wf1,wf2,wf3,wok1,H1⟩:=H0.openW 0 Z
 try dsimp only[lNA,lCA,lSZ,lSS] at H1
 have wok1U:=wok1;unfold Wld.Ok Shape.Ok I64ok at wok1U;have wL1:=oL (H1.mine 2 Z);have wL2:=oL (H1.mine 3 Z);have wL3:=oL (H1.mine 4 Z);refine an (sR 2 Z (sF aW Z ts4 (sLd tu4 (H1.box 0 Z) Z (aa (bJ Z (fun c1=>?_) (fun c1=>?_))))))
 ·exfalso; simp_all
 ·refine aj (ac (ac (bE (S:=Ext No _) (oQ [1,3,5,7,9,11,13,15,17,19,21,23,25,27,29,30]) (by kernel_rfl) (by kernel_rfl) (by kernel_rfl) Z (fun _=>Ext.refl.drawn _) (fun q1=>?_))));have H2:=H1.drawn q1;refine dR 2 Z (dV Z Z (fun zw hx=>ag aW Z ts2 Z Z) (dV Z Z (fun zw hx=>ah tu2 Z Z (al (hx.heap (H2.box 0 Z)) Z)) (dR 2 Z (cb (t:=12) Z (fun hg1=>?_) (fun hg1=>?_)))))
  ·try simp only [decide_eq_true_eq,decide_eq_false_iff_not] at hg1
   refine aG Z (wg Z Z Z) Z Z (fun zw hx=>aM Z) (aG Z (wg Z Z Z) Z Z (fun zw hx=>ej Z) (aG Z (wg Z Z Z) Z Z (fun zw hx=>ag aW Z ts2 Z Z) (aG Z (wg Z Z Z) Z Z (fun zw hx=>ah tu2 Z Z (al (hx.heap (H2.box 0 Z)) Z)) (aG Z (wg Z Z Z) Z Z (fun zw hx=>aM Z) (aG Z (wg Z Z Z) Z Z (fun zw hx=>ej Z) (aG Z (wg Z Z Z) Z Z (fun zw hx=>ag aW Z ts2 Z Z) (aG Z (wg Z Z Z) Z Z (fun zw hx=>ah tu2 Z Z (al (hx.heap (H2.box 0 Z)) Z)) (aG Z (wg Z Z Z) Z Z (fun zw hx=>rP Z Z) (aP Z (wn Z) Z Z (aH Z Z) (aT (au Z (fun c2=>?_) (fun c2=>?_))))))))))))
   ·refine ac ?_;have hnp:bP z=true:=oo (by omega) (by omega);refine an (sR 2 Z (sF aW Z ts4 (bx (wn Z) ts4 Z Z Z H2 0 Z Z (fun w1 e1 H3=>?_))));dsimp only[lNA,lCA,lSZ,lSS,aL] at H3;refine aa (ab (sR 2 Z (sF aW Z bz (bx (wn Z) bz Z Z Z H3 0 Z Z (fun w2 e2 H4=>?_)))));dsimp only[lNA,lCA,lSZ,lSS,aL] at H4;refine aa (ab (rA hQ results204 Z ?_));have H5:=H4.nilW (α:=Int)
    try dsimp only[lNA,lCA,lSZ,lSS] at H5
    obtain ⟨fp1,H6⟩:=H5.closeW 0 2 5 4 (rU z) Z Z Z Z Z Z Z Z Z Z (oP wok1)
    try dsimp only[lNA,lCA,lSZ,lSS] at H6
    have hz:=H6.doneW;rw [← mT (y:=z) hnp] at hz;exact ⟨(by rw [hnp]; rfl),hz⟩
   ·refine aj (ac ?_);have hnp:bP z=false:=jn (.inr (by omega));refine an (sR 3 Z (sF aW Z ts2 (sLd tu2 (H2.box 0 Z) Z (sV Z (aB Z Z iO) (sV Z (ej Z) (sF aW Z ts2 (bx (wn Z) ts2 Z Z Z H2 0 Z Z (fun w3 e3 H7=>?_))))))));dsimp only[lNA,lCA,lSZ,lSS,aL] at H7;refine aa (ab (rA hQ results204 Z ?_));obtain ⟨fp2,H8⟩:=H7.closeW 0 2 3 4 (lp z) Z Z Z Z Z Z Z Z Z Z (kc wok1 hw)
    try dsimp only[lNA,lCA,lSZ,lSS] at H8
    have hz:=H8.doneW;rw [← fH hnp] at hz;exact ⟨(by rw [hnp]; rfl),hz⟩
  ·try simp only [decide_eq_true_eq,decide_eq_false_iff_not] at hg1
   refine dR 9 Z (aP Z (wn Z) Z Z (aN Z Z) (aT (ja Z (aj (ac ?_)))));have hnp:bP z=false:=jn (.inl (by omega));refine an (sR 3 Z (sF aW Z ts2 (sLd tu2 (H2.box 0 Z) Z (sV Z (aB Z Z iO) (sV Z (ej Z) (sF aW Z ts2 (bx (wn Z) ts2 Z Z Z H2 0 Z Z (fun w4 e4 H9=>?_))))))));dsimp only[lNA,lCA,lSZ,lSS,aL] at H9;refine aa (ab (rA hQ results204 Z ?_));obtain ⟨fp3,H10⟩:=H9.closeW 0 2 3 4 (lp z) Z Z Z Z Z Z Z Z Z Z (kc wok1 hw)
   try dsimp only[lNA,lCA,lSZ,lSS] at H10
   have hz:=H10.doneW;rw [← fH hnp] at hz;exact ⟨(by rw [hnp]; rfl),hz⟩
theorem ib {w:World}{z:Wld}{zb t rC6 rC7 rC8:Nat}{fp rF6 rF7 rF8:List Nat}{r:Rec}{rA6 rA7 rA8:Option Addr}(o:OwnW w zb 34 z fp) (nd:fp.Nodup) (rK:r.Ok) (rO6:own false w [.slice rA6 r.Rows.length rC6] r.Rows rF6) (rD6:∀ b∈rF6,b ∉ fp) (rO7:own false w [.slice rA7 r.Data.length rC7] r.Data rF7) (rD7:∀ b∈rF7,b ∉ fp) (rO8:own false w [.slice rA8 r.Delta.length rC8] r.Delta rF8) (rD8:∀ b∈rF8,b ∉ fp) (hd:z.Down=false) (ht:t<z.Tapes.length) (hb:cn r≤1048576) (hl:(z.Tapes.getD t default).Recs.length≤100000) (hw:z.Writes≤2000000000):Ret Tryz.prog 153 #[.pointer (some ⟨zb,0,none⟩),.int .i64 t,r.val rA6 rC6 rA7 rC7 rA8 rC8] w fun v w'=>(v = .bool (!bP z)∧MutW w w' fp zb 34 (eI t r z)):=by
 have rK2:=rK;unfold Rec.Ok at rK2
 try unfold I64ok at rK2
 try unfold maxLen at rK2
 have rN2:r.Name.size≤maxLen:=by unfold maxLen; omega
 have rL6:=oL rO6;have rL7:=oL rO7;have rL8:=oL rO8;refine aF (vs:=[.pointer (some ⟨zb,0,none⟩),.int .i64 t,r.val rA6 rC6 rA7 rC7 rA8 rC8]) func153 Z ntmps153 Z (fun Q hQ hN=>?_);have H0:=(((Sep.beginW o nd).seeF (rO6) rD6).seeF (rO7) rD7).seeF (rO8) rD8
 try dsimp only[lNA,lCA,lSZ,lSS] at H0
 refine ab (aY (wn Z) Z Z H0 (fun b1 w1 e1 g1 H1=>sA Z Z (aa (ac (ab (sM Z Z (sC func204 uN Z (oC (H1.wldAt 0 Z) (H1.nodup1 (i:=0) Z) (by first | assumption | omega) (by first | assumption | omega)) (fun v1 w2 r1=>?_))))))));obtain ⟨rfl,mm1⟩:=r1;obtain ⟨fp1,H2⟩:=H1.mutW 0 Z mm1
 try dsimp only[lNA,lCA,lSZ,lSS] at H2
 refine sV Z (aX Z) (aa (bJ Z (fun c1=>?_) (fun c1=>?_)))
 ·refine ab (rA hQ results153 Z ?_);have hnp:bP z=true:=by simpa using c1
  have hz:=H2.doneW;rw [mT hnp] at hz;exact ⟨(by rw [hnp]; rfl),(by unfold eI; rw [mT hnp]; exact hz)⟩
 ·refine aj (ac ?_);have hnp:bP z=false:=by simpa using c1
  obtain ⟨z1,hz1⟩:∃ z1,z1=lp z:=⟨_,Z⟩;have HZ:=H2;rw [fH hnp,← hz1] at HZ;have ht1:t<z1.Tapes.length:=by rw [hz1]; exact ht
  have hl1:(z1.Tapes.getD t default).Recs.length≤100000:=by rw [hz1]; exact hl
  obtain ⟨wA1,wC1,wA2,wC2,wA3,wC3,wf1,wf2,wf3,wok1,H3⟩:=HZ.openW 0 Z
  try dsimp only[lNA,lCA,lSZ,lSS] at H3
  have wok1U:=wok1;unfold Wld.Ok Shape.Ok I64ok at wok1U;have wL1:=oL (H3.mine 3 Z);have wL2:=oL (H3.mine 4 Z);have wL3:=oL (H3.mine 5 Z);obtain ⟨eb1,eo1,eT1,eF1,eG1,ea1,ek1,eg1,ee1,eK1,eH1⟩:=Tape.focus H3 5 Z t (by omega);have eK1U:=eK1;unfold Tape.Ok at eK1U
  try unfold I64ok at eK1U
  try unfold maxLen at eK1U
  try dsimp only[lNA,lCA,lSZ,lSS] at eH1
  refine bE (S:=eH1.S2 5 7) (oQ [1,3,5,7,9,11,13,15,17,19,21,23,27,2014,24,28,30,32,35,37,38,28,2012,24,30,32,35,37,38,30,24,32,35,37,38]) (by kernel_rfl) (by kernel_rfl) (by kernel_rfl) Z (fun _=>show eH1.S2 5 7 _ from Ext.refl.drawn _) (fun q1=>?_);have H4:=eH1.drawn q1;refine dR 2 Z (dV Z Z (fun zw hx=>ag aW Z cQ Z Z) (dV Z Z (fun zw hx=>ah bA Z Z (al (eH1.s2Box hx 0 Z Z Z Z Z) Z)) (dR 3 Z (dV Z Z (fun zw hx=>ag aW Z cQ Z Z) (dV Z Z (fun zw hx=>ah bA Z Z (al (eH1.s2Box hx 0 Z Z Z Z Z) Z)) (dM Z Z Z (dV Z Z (fun zw hx=>az bA bR Z Z ee1 t (by omega) (by omega)) (dV Z Z (fun zw hx=>ag bI Z dv Z Z) (dV Z Z (fun zw hx=>ak ay Z aJ Z Z (At.whole (eH1.s2Box hx 1 Z Z Z Z Z))) (dF Z ?_ ?_))))))))))
  ·refine aP Z (wn Z) Z Z (ah aQ Z Z (be (H4.holAt 5 Z) 1 Z)) (bU Z (wn Z) Z Z (aV func85 Z nj Z) (eJ (by assumption) (H4.sees 0 Z) (H4.sees 1 Z) (H4.sees 2 Z) (by first | assumption | omega)) (fun hS _ _ r _=>eH1.s2Call hS r.1) (fun v2 w3 r2=>?_));obtain ⟨e3,sa1,sk1,sa2,sk2,sa3,sk3,rfl,r2⟩:=r2;obtain ⟨fp2,H5⟩:=H4.res e3 r2;refine eO Z (wn Z) Z aQ aR Z Z Z Z H5 (fun _ h e=>eH1.s2Call h e) (fun b2 w4 e4 g2 H6=>iH Z (wn Z) Z aQ aR Z Z Z H6 7 9 8 Z Z Z Z (by unfold maxLen; omega) (by omega) (fun _ h e=>eH1.s2In h 7 Z (.inr Z) e (fun _ hb=>hb)) (fun v3 w5 fp3 H7=>dV Z Z (fun zw hx=>az bA bR Z Z ee1 t (by omega) (by omega)) (dV Z Z (fun zw hx=>ag bI Z dv Z Z) ?_)));obtain ⟨a1,k1,q2⟩:=aA (H7.mine 7 Z);cases q2;refine jG Z (wn Z) dv H7 5 1 Z Z Z Z Z (fun _ h e _=>eH1.s2In h 5 Z (.inl Z) e (fun _ hb=>by rw [hb]; exact List.mem_cons_self)) (fun w6 H8=>?_);dsimp only[lNA,lCA,lSZ,lSS,aL] at H8;refine aT (ab (sR 2 Z (sF aW Z cQ (sLd bA (H8.box 0 Z) Z (sM Z Z (sV Z (az bA bR Z Z ee1 t (by omega) (by omega)) (sF bI Z ts4 (gx (wn Z) ts4 H8 5 0 Z Z Z Z Z (fun w7 H9=>?_)))))))));dsimp only[lNA,lCA,lSZ,lSS,aL] at H9;refine aa (ab (rA hQ results153 Z ?_));obtain ⟨fp4,H10⟩:=Tape.fill H9 5 7 Z Z Z trivial
   try dsimp only[lNA,lCA,lSZ,lSS] at H10
   obtain ⟨fp5,H11⟩:=H10.closeW 0 3 4 5 (lf t r z1) Z Z Z Z Z Z Z Z Z Z (ju wok1)
   try dsimp only[lNA,lCA,lSZ,lSS] at H11
   have hz:=H11.doneW;rw [show lf t r z1=eI t r z from by unfold eI; rw [fH hnp,hz1]; rfl] at hz;exact ⟨(by rw [hnp]; rfl),hz⟩
  ·refine bU Z (wn Z) Z Z (aV func85 Z nj Z) (eJ (by assumption) (H4.sees 0 Z) (H4.sees 1 Z) (H4.sees 2 Z) (by first | assumption | omega)) (fun hS _ _ r _=>eH1.s2Call hS r.1) (fun v4 w8 r3=>?_);obtain ⟨e7,sa4,sk4,sa5,sk5,sa6,sk6,rfl,r3⟩:=r3;obtain ⟨fp6,H12⟩:=H4.res e7 r3;refine dF Z ?_ ?_
   ·refine aP Z (wn Z) Z Z (ah aQ Z Z (be (H12.holAt 5 Z) 1 Z)) (eO Z (wn Z) Z aQ aR Z Z Z Z H12 (fun _ h e=>eH1.s2Call h e) (fun b3 w9 e8 g3 H13=>iH Z (wn Z) Z aQ aR Z Z Z H13 7 9 8 Z Z Z Z (by unfold maxLen; omega) (by omega) (fun _ h e=>eH1.s2In h 7 Z (.inr Z) e (fun _ hb=>hb)) (fun v5 w10 fp7 H14=>dV Z Z (fun zw hx=>az bA bR Z Z ee1 t (by omega) (by omega)) (dV Z Z (fun zw hx=>ag bI Z dv Z Z) ?_))));obtain ⟨a2,k2,q3⟩:=aA (H14.mine 7 Z);cases q3;refine jG Z (wn Z) dv H14 5 1 Z Z Z Z Z (fun _ h e _=>eH1.s2In h 5 Z (.inl Z) e (fun _ hb=>by rw [hb]; exact List.mem_cons_self)) (fun w11 H15=>?_);dsimp only[lNA,lCA,lSZ,lSS,aL] at H15;refine aT (ab (sR 2 Z (sF aW Z cQ (sLd bA (H15.box 0 Z) Z (sM Z Z (sV Z (az bA bR Z Z ee1 t (by omega) (by omega)) (sF bI Z ts4 (gx (wn Z) ts4 H15 5 0 Z Z Z Z Z (fun w12 H16=>?_)))))))));dsimp only[lNA,lCA,lSZ,lSS,aL] at H16;refine aa (ab (rA hQ results153 Z ?_));obtain ⟨fp8,H17⟩:=Tape.fill H16 5 7 Z Z Z trivial
    try dsimp only[lNA,lCA,lSZ,lSS] at H17
    obtain ⟨fp9,H18⟩:=H17.closeW 0 3 4 5 (lf t r z1) Z Z Z Z Z Z Z Z Z Z (ju wok1)
    try dsimp only[lNA,lCA,lSZ,lSS] at H18
    have hz:=H18.doneW;rw [show lf t r z1=eI t r z from by unfold eI; rw [fH hnp,hz1]; rfl] at hz;exact ⟨(by rw [hnp]; rfl),hz⟩
   ·refine eO Z (wn Z) Z aQ aR Z Z Z Z H12 (fun _ h e=>eH1.s2Call h e) (fun b4 w13 e11 g4 H19=>aP Z (wn Z) Z Z (ah aQ Z Z (be (H19.holAt 5 Z) 1 Z)) (iH Z (wn Z) Z aQ aR Z Z Z H19 7 9 8 Z Z Z Z (by unfold maxLen; omega) (by omega) (fun _ h e=>eH1.s2In h 7 Z (.inr Z) e (fun _ hb=>hb)) (fun v6 w14 fp10 H20=>dV Z Z (fun zw hx=>az bA bR Z Z ee1 t (by omega) (by omega)) (dV Z Z (fun zw hx=>ag bI Z dv Z Z) ?_))));obtain ⟨a3,k3,q4⟩:=aA (H20.mine 7 Z);cases q4;refine jG Z (wn Z) dv H20 5 1 Z Z Z Z Z (fun _ h e _=>eH1.s2In h 5 Z (.inl Z) e (fun _ hb=>by rw [hb]; exact List.mem_cons_self)) (fun w15 H21=>?_);dsimp only[lNA,lCA,lSZ,lSS,aL] at H21;refine aT (ab (sR 2 Z (sF aW Z cQ (sLd bA (H21.box 0 Z) Z (sM Z Z (sV Z (az bA bR Z Z ee1 t (by omega) (by omega)) (sF bI Z ts4 (gx (wn Z) ts4 H21 5 0 Z Z Z Z Z (fun w16 H22=>?_)))))))));dsimp only[lNA,lCA,lSZ,lSS,aL] at H22;refine aa (ab (rA hQ results153 Z ?_));obtain ⟨fp11,H23⟩:=Tape.fill H22 5 7 Z Z Z trivial
    try dsimp only[lNA,lCA,lSZ,lSS] at H23
    obtain ⟨fp12,H24⟩:=H23.closeW 0 3 4 5 (lf t r z1) Z Z Z Z Z Z Z Z Z Z (ju wok1)
    try dsimp only[lNA,lCA,lSZ,lSS] at H24
    have hz:=H24.doneW;rw [show lf t r z1=eI t r z from by unfold eI; rw [fH hnp,hz1]; rfl] at hz;exact ⟨(by rw [hnp]; rfl),hz⟩
theorem oy {w:World}{z:Wld}{zb rC6 rC7 rC8:Nat}{fp rF6 rF7 rF8:List Nat}{r:Rec}{rA6 rA7 rA8:Option Addr}(o:OwnW w zb 34 z fp) (nd:fp.Nodup) (rK:r.Ok) (rO6:own false w [.slice rA6 r.Rows.length rC6] r.Rows rF6) (rD6:∀ b∈rF6,b ∉ fp) (rO7:own false w [.slice rA7 r.Data.length rC7] r.Data rF7) (rD7:∀ b∈rF7,b ∉ fp) (rO8:own false w [.slice rA8 r.Delta.length rC8] r.Delta rF8) (rD8:∀ b∈rF8,b ∉ fp) (hf:df z=false) (hd:z.Down=false) (hT:z.Tapes.length=2) (hb:cn r≤1048576) (hw:z.Writes≤1500000000):Ret Tryz.prog 135 #[.pointer (some ⟨zb,0,none⟩),r.val rA6 rC6 rA7 rC7 rA8 rC8] w fun v w'=>(v = .bool (lr z r)∧MutW w w' fp zb 34 (kr z r)):=by
 have rK2:=rK;unfold Rec.Ok at rK2
 try unfold I64ok at rK2
 try unfold maxLen at rK2
 have rN2:r.Name.size≤maxLen:=by unfold maxLen; omega
 have rL6:=oL rO6;have rL7:=oL rO7;have rL8:=oL rO8;have aw:=(gi (t:=0) (r:=r) (z:=z)).2;have at_:=ie (t:=0) (r:=r) (z:=z);have ar:=rh (t:=0) (u:=1) (r:=r) (z:=z);have fn_:=su hf;refine aF (vs:=[.pointer (some ⟨zb,0,none⟩),r.val rA6 rC6 rA7 rC7 rA8 rC8]) func135 Z ntmps135 Z (fun Q hQ hN=>?_);have H0:=(((Sep.beginW o nd).seeF (rO6) rD6).seeF (rO7) rD7).seeF (rO8) rD8
 try dsimp only[lNA,lCA,lSZ,lSS] at H0
 refine ab (aY (wn Z) Z Z H0 (fun b1 w1 e1 g1 H1=>sA Z Z (aa (ab (sM Z Z (sV Z (ak ay Z aJ Z Z (At.whole (H1.box 1 Z))) (sC func153 qj Z (ib (H1.wldAt 0 Z) (H1.nodup1 (i:=0) Z) (by assumption) (aZ (H1.seen 0 Z)) (fun b hb=>H1.off 0 Z 0 Z hb) (aZ (H1.seen 1 Z)) (fun b hb=>H1.off 1 Z 0 Z hb) (aZ (H1.seen 2 Z)) (fun b hb=>H1.off 2 Z 0 Z hb) (by first | assumption | omega) (by first | assumption | omega) (by first | assumption | omega) (by first | assumption | omega) (by first | assumption | omega) (t:=0)) (fun v1 w2 r1=>?_))))))));obtain ⟨rfl,mm1⟩:=r1;obtain ⟨fp1,H2⟩:=H1.mutW 0 Z mm1
 try dsimp only[lNA,lCA,lSZ,lSS] at H2
 refine sM Z Z (cI (t:=8) Z (fun hg1=>?_) (fun hg1=>?_))
 ·have hnp0:bP z=false:=by simpa using hg1
  have ad:(eI 0 r z).Down=false:=(xL (t:=0) (r:=r) hnp0).trans hd;refine am (wg Z Z Z) Z Z (aM Z) (am (wg Z Z Z) Z Z (ak ay Z aJ Z Z (At.whole (H2.box 1 Z))) (dE (wg Z Z Z) Z Z (aV func153 Z qj Z) (ib (H2.wldAt 0 Z) (H2.nodup1 (i:=0) Z) (by assumption) (aZ (H2.seen 0 Z)) (fun b hb=>H2.off 0 Z 0 Z hb) (aZ (H2.seen 1 Z)) (fun b hb=>H2.off 1 Z 0 Z hb) (aZ (H2.seen 2 Z)) (fun b hb=>H2.off 2 Z 0 Z hb) (by first | assumption | omega) (by first | assumption | omega) (by first | assumption | omega) (by first | assumption | omega) (by first | assumption | omega) (t:=1)) (fun v2 w3 r2=>?_)));obtain ⟨rfl,mm2⟩:=r2;obtain ⟨fp2,H3⟩:=H2.mutW 0 Z mm2
  try dsimp only[lNA,lCA,lSZ,lSS] at H3
  refine sV Z (aH Z Z) (rA hQ results135 Z ?_);have hnp:bP z=false:=by simpa using hg1
  have hz:=H3.doneW;rw [← (mI (r:=r) hnp).1] at hz;exact ⟨(by rw [(mI (r:=r) hnp).2]),hz⟩
 ·try simp only [decide_eq_true_eq,decide_eq_false_iff_not] at hg1
  refine sR 3 Z (sV Z (aN Z Z) (rA hQ results135 Z ?_));have hnp:bP z=true:=by simpa using hg1
  have hz:=H2.doneW;rw [← (oR (r:=r) hnp).1] at hz;exact ⟨(by rw [(oR (r:=r) hnp).2]),hz⟩
end Go.Wk
namespace Go.Wk
open Go.Proofs Rp Go.Proofs.Tryz
set_option maxRecDepth 10000
theorem ma {w:World}{xs:List Rec}{xsA:Option Addr}{xsC:Nat}{nm:ByteArray}(xsS:Sees w [.slice xsA xs.length xsC] xs):Ret Tryz.prog 84 #[.slice xsA xs.length xsC,.string nm] w fun v w'=>Ext No w w'∧(v = .int .i64 (fj (itP nm) xs)):=by
 have xsL:=sL xsS;obtain ⟨xsF,xsO⟩:=xsS;refine aF (vs:=[.slice xsA xs.length xsC,.string nm]) func84 Z ntmps84 Z (fun Q hQ hN=>?_);have H0:=Sep.start (w:=w) (F:=[seen false [.slice xsA xs.length xsC] xs xsF]) (ae xsO (by simp));refine ab (sA Z Z (aa (ab (sA Z Z (aa (ac (ab (sA Z Z (aa (ao (bB (γ:=Nat) H0 [(0,_),(1,_),(4,_)] ⟨Z,Z,Z,trivial⟩ (fun k=>[(5,.int .i64 (fS (itP nm) xs k)),(6,.int .i64 k)]) (fun k=>k≤xs.length∧True) (fun k=>xs.length-k) 0 ⟨Z,Z,trivial⟩ ⟨by omega,trivial⟩ (fun k w1 H1 ⟨hk,_⟩=>?_))))))))))));dsimp only[lCA,lNA];refine ac (ab (sR 2 Z (sV Z (aC aQ Z) (sV Z (aS Z Z) (aa (au Z (fun c1=>?_) (fun c1=>?_)))))))
 ·refine aj (ac (ao (ac ?_)));obtain ⟨eb1,eo1,es1,ef1,ee1,ec1,eO1,eH1,em1⟩:=aU (H1.seen 0 Z) k (by omega);obtain ⟨ea1,ek1,ea2,ek2,ea3,ek3,eg1,eg2,eg3,rfl,eq1,eK1,eo2,eo3,eo4⟩:=cq eO1;have eK1U:=eK1;unfold Rec.Ok at eK1U
  try unfold I64ok at eK1U
  try unfold maxLen at eK1U
  have eP1:=H1.look1 0 Z eo2 (fun b hb=>eH1 b (by rw [eq1]; simp [hb]));have eL1:=oL eo2;have eP2:=eP1.look1 0 Z eo3 (fun b hb=>eH1 b (by rw [eq1]; simp [hb]));have eL2:=oL eo3;have eP3:=eP2.look1 0 Z eo4 (fun b hb=>eH1 b (by rw [eq1]; simp [hb]));have eL3:=oL eo4;refine an (sR 2 Z (sV Z (az aQ aJ Z Z ee1 k (by omega) (by omega)) (sF ay Z ts2 (sV Z (ah tu2 Z Z (be ec1 0 Z)) (sR 2 Z (bC 7 (j:=6) (want:=true) (t:=26) Z Z Z Z (fun hg1 kk1=>am (wgE Z Z Z hg1) Z Z (aM Z) (am (wgE Z Z Z hg1) Z Z (aM Z) (am (wgE Z Z Z hg1) Z Z (az aQ aJ Z Z ee1 k (by first | omega | (simp only [Bool.or_eq_false_iff,Bool.and_eq_true,Bool.and_eq_false_iff,Bool.or_eq_true,Bool.not_eq_true',Bool.not_eq_false',decide_eq_true_eq,decide_eq_false_iff_not] at hg1; omega)) (by omega)) (am (wgE Z Z Z hg1) Z Z (ag ay Z ts9 Z Z) (am (wgE Z Z Z hg1) Z Z (ah tu9 Z Z (be ec1 2 Z)) (am (wgE Z Z Z hg1) Z Z (aM Z) (am (wgE Z Z Z hg1) Z Z (kH Z Z) (kk1 _ _ (kx Z (kx Z (kx Z (kx Z (kx Z (kx Z (kx Z k0))))))) Z Ext.refl)))))))) (fun w2 e1=>?_)))))));have H2:=eP3.to e1;refine sV Z (br Z Z) (aa (bJ Z (fun c2=>?_) (fun c2=>?_)))
  ·refine an (sR 2 Z (aa (an (sM Z Z (sV Z (aB Z Z iO) (sA Z Z (aa (⟨k+1,⟨eqI (lE (by simpa [itP] using c2)).symm,Z,Z,Z,Z,trivial⟩,⟨(H2.ftake 1),by omega,trivial⟩,by dsimp only; omega⟩))))))))
  ·refine aj (an (sM Z Z (sV Z (aB Z Z iO) (sA Z Z (aa (⟨k+1,⟨eqI (nT (by simpa [itP] using c2)).symm,Z,Z,Z,Z,trivial⟩,⟨(H2.ftake 1),by omega,trivial⟩,by dsimp only; omega⟩))))))
 ·refine aO (ab (sR 2 Z (rN hQ results84 Z ?_)));obtain rfl:k=xs.length:=by omega
  exact ⟨H1.ext,Z⟩
end Go.Wk
namespace Go.Wk
open Rp (sz own)
section
variable {xs rs:List Rec}{r:Rec}{k a:Nat}{z:Wld}{nm:ByteArray}
theorem zp {s:Shape}(h:fJ s r=0) (h1:r.Kind=1) : -1≤r.Length:=by
  unfold fJ ex at h
  rw [if_pos h1] at h
  by_cases c:r.Length = -1
  · omega
  · by_cases q:r.Length<1
    · exfalso
      have hi:eN s r=false:=by unfold eN dl; rw [if_neg c,if_pos q]; rfl
      have hA:(if bg r.Name≠0 then bg r.Name else if eN s r=true then 0 else 3)≠(0:Int):=by
        by_cases n:bg r.Name=0
        · rw [if_neg (by simp [n]),hi]; simp
        · rw [if_pos n]; exact n
      rw [if_pos hA] at h
      split at h
      · split at h
        · exact hA h
        · omega
      · omega
    · omega
theorem yE (hw:dw z=0) (hr:r∈cl z) (h1:r.Kind=1) : -1≤r.Length:=zp (zj hw hr) h1
theorem xq (hw:dw z=0) (h:fj (itP nm) (cl z)<0):itO z nm=false:=(vR (xA h)).1
theorem qt (h:0≤fj (itP nm) (cl z)) (h2:((cl z).getD (fj (itP nm) (cl z)).toNat default).Length<0) (hw:dw z=0):itO z nm=false:=by
  obtain ⟨h3,h4⟩:=wi (nm:=nm) (xs:=cl z) (k:=(fj (itP nm) (cl z)).toNat) (by omega)
  obtain ⟨h5,h6,_⟩:=kO h4
  have:=yE hw h5 h6
  exact (zc h4 (by omega)).1
theorem qz (h:0≤fj (itP nm) (cl z)) (h2:¬ ((cl z).getD (fj (itP nm) (cl z)).toNat default).Length<0):itO z nm=true∧itR z nm=(cl z).getD (fj (itP nm) (cl z)).toNat default:=by
  obtain ⟨h3,h4⟩:=wi (nm:=nm) (xs:=cl z) (k:=(fj (itP nm) (cl z)).toNat) (by omega)
  exact AB h4 (by omega)
end
end Go.Wk
namespace Go.Wk
open Go.Proofs Rp Go.Proofs.Tryz
set_option maxRecDepth 10000
theorem oA {w:World}{z:Wld}{zb rC6 rC7 rC8:Nat}{fp rF6 rF7 rF8:List Nat}{r:Rec}{rA6 rA7 rA8:Option Addr}(o:OwnW w zb 34 z fp) (nd:fp.Nodup) (rK:r.Ok) (rO6:own false w [.slice rA6 r.Rows.length rC6] r.Rows rF6) (rD6:∀ b∈rF6,b ∉ fp) (rO7:own false w [.slice rA7 r.Data.length rC7] r.Data rF7) (rD7:∀ b∈rF7,b ∉ fp) (rO8:own false w [.slice rA8 r.Delta.length rC8] r.Delta rF8) (rD8:∀ b∈rF8,b ∉ fp) (hT:z.Tapes.length=2) (hb:cn r≤1048576) (hw:z.Writes≤1500000000):Ret Tryz.prog 144 #[.pointer (some ⟨zb,0,none⟩),r.val rA6 rC6 rA7 rC7 rA8 rC8] w fun v w'=>(v = .int .i64 (rG z r)∧MutW w w' fp zb 34 (ox z r)):=by
 cases hf:df z
 ·rw [(i9 hf).1,(i9 hf).2]; exact kT o nd rK rO6 rD6 rO7 rD7 rO8 rD8 hf hT hb hw
 ·rw [(gK hf).1,(gK hf).2]; exact jV o nd rK rO6 rD6 rO7 rD7 rO8 rD8 hf hT hb hw
theorem lq {w:World}{x:Wld}{xA9 xA10 xA11:Option Addr}{xC9 xC10 xC11:Nat}{c:Int}(xK:x.Ok) (xS9:Sees w [.slice xA9 x.Groups.length xC9] x.Groups) (xS10:Sees w [.slice xA10 x.On.length xC10] x.On) (xS11:Sees w [.slice xA11 x.Tapes.length xC11] x.Tapes) (hc:c≠0∧c≠9):Ret Tryz.prog 61 #[x.val xA9 xC9 xA10 xC10 xA11 xC11,.int .i64 c] w fun v w'=>Ext No w w'∧(v=(⟨c,noWld⟩:WldResult).val none 0 none 0 none 0):=by
 have xK2:=xK;unfold Wld.Ok Shape.Ok at xK2
 try unfold I64ok at xK2
 try unfold maxLen at xK2
 have xL9:=sL xS9;obtain ⟨xF9,xO9⟩:=xS9;have xL10:=sL xS10;obtain ⟨xF10,xO10⟩:=xS10;have xL11:=sL xS11;obtain ⟨xF11,xO11⟩:=xS11;refine aF (vs:=[x.val xA9 xC9 xA10 xC10 xA11 xC11,.int .i64 c]) func61 Z ntmps61 Z (fun Q hQ hN=>?_);have H0:=Sep.start (w:=w) (F:=[seen false [.slice xA9 x.Groups.length xC9] x.Groups xF9,seen false [.slice xA10 x.On.length xC10] x.On xF10,seen false [.slice xA11 x.Tapes.length xC11] x.Tapes xF11]) (ae xO9 (ae xO10 (ae xO11 (by simp))));refine ab (aY (wn Z) Z Z H0 (fun b1 w1 e1 g1 H1=>bG (wn Z) Z zeroValue36 H1 (fun b2 w2 e2 g2 H2=>aa (ac (ab (sR 3 Z (cI (t:=7) Z (fun hg1=>?_) (fun hg1=>?_))))))))
 ·try simp only [decide_eq_true_eq,decide_eq_false_iff_not] at hg1
  refine am (wg Z Z Z) Z Z (aM Z) (am (wg Z Z Z) Z Z (bn Z Z) (sV Z (aH Z Z) (aa (au Z (fun c1=>?_) (fun c1=>?_)))))
  ·refine ab (sM Z Z (sV Z (bT dD Z Z) (ba (wn Z) dt Z Z Z Z H2 1 Z Z (fun w3 e3 H3=>?_))));dsimp only[lNA,lCA,lSZ,lSS,aL] at H3;refine aa (bH (hQ _ _ (db results61 Z (aI fe Z dt Z (At.whole (H3.box 1 Z))) ?_)));exact ⟨H3.ext,Z⟩
  ·exfalso; simp_all
 ·exfalso; simp_all
theorem pI {w:World}{x:Wld}{xA9 xA10 xA11:Option Addr}{xC9 xC10 xC11:Nat}{c:Int}(xK:x.Ok) (xS9:Sees w [.slice xA9 x.Groups.length xC9] x.Groups) (xS10:Sees w [.slice xA10 x.On.length xC10] x.On) (xS11:Sees w [.slice xA11 x.Tapes.length xC11] x.Tapes) (hc:c=0∨c=9):Ret Tryz.prog 61 #[x.val xA9 xC9 xA10 xC10 xA11 xC11,.int .i64 c] w fun v w'=>Ext No w w'∧(v=(⟨c,x⟩:WldResult).val xA9 xC9 xA10 xC10 xA11 xC11):=by
 have xK2:=xK;unfold Wld.Ok Shape.Ok at xK2
 try unfold I64ok at xK2
 try unfold maxLen at xK2
 have xL9:=sL xS9;obtain ⟨xF9,xO9⟩:=xS9;have xL10:=sL xS10;obtain ⟨xF10,xO10⟩:=xS10;have xL11:=sL xS11;obtain ⟨xF11,xO11⟩:=xS11;refine aF (vs:=[x.val xA9 xC9 xA10 xC10 xA11 xC11,.int .i64 c]) func61 Z ntmps61 Z (fun Q hQ hN=>?_);have H0:=Sep.start (w:=w) (F:=[seen false [.slice xA9 x.Groups.length xC9] x.Groups xF9,seen false [.slice xA10 x.On.length xC10] x.On xF10,seen false [.slice xA11 x.Tapes.length xC11] x.Tapes xF11]) (ae xO9 (ae xO10 (ae xO11 (by simp))));refine ab (aY (wn Z) Z Z H0 (fun b1 w1 e1 g1 H1=>bG (wn Z) Z zeroValue36 H1 (fun b2 w2 e2 g2 H2=>aa (ac (ab (sR 3 Z (cI (t:=7) Z (fun hg1=>?_) (fun hg1=>?_))))))))
 ·try simp only [decide_eq_true_eq,decide_eq_false_iff_not] at hg1
  refine am (wg Z Z Z) Z Z (aM Z) (am (wg Z Z Z) Z Z (bn Z Z) (sV Z (aH Z Z) (aa (au Z (fun c1=>?_) (fun c1=>?_)))))
  ·exfalso; simp_all
  ·refine aj (ab (sM Z Z (sV Z (ak aW Z cH Z Z (At.whole (H2.box 0 Z))) (sV Z (bT dD Z Z) (ba (wn Z) dt Z Z Z Z H2 1 Z Z (fun w3 e3 H3=>?_))))));dsimp only[lNA,lCA,lSZ,lSS,aL] at H3;refine aa (bH (hQ _ _ (db results61 Z (aI fe Z dt Z (At.whole (H3.box 1 Z))) ?_)));exact ⟨H3.ext,Z⟩
 ·try simp only [decide_eq_true_eq,decide_eq_false_iff_not] at hg1
  refine sR 2 Z (sV Z (aN Z Z) (aa (ja Z (aj (ab (sM Z Z (sV Z (ak aW Z cH Z Z (At.whole (H2.box 0 Z))) (sV Z (bT dD Z Z) (ba (wn Z) dt Z Z Z Z H2 1 Z Z (fun w4 e4 H4=>?_))))))))));dsimp only[lNA,lCA,lSZ,lSS,aL] at H4;refine aa (bH (hQ _ _ (db results61 Z (aI fe Z dt Z (At.whole (H4.box 1 Z))) ?_)));exact ⟨H4.ext,Z⟩
end Go.Wk
namespace Go.Wk
open Go.Proofs Rp Go.Proofs.Tryz
set_option maxRecDepth 10000
theorem iP {w:World}{zb zC9 zC10 zC11:Nat}{z:Wld}{zA9 zA10 zA11:Option Addr}{zF9 zF10 zF11:List Nat}(zB:w.heap[zb]? = some (.cells [.int .i64 z.Shape.Groups,.int .i64 z.Shape.Column,.int .i64 z.Shape.Data,.int .i64 z.Shape.Spare,.int .i64 z.Shape.Rows,.int .i64 z.Shape.Cap,.int .i64 z.Shape.Batch,.int .i64 z.Shape.Queue,.int .i64 z.Shape.Stage,.slice zA9 z.Groups.length zC9,.slice zA10 z.On.length zC10,.slice zA11 z.Tapes.length zC11,.int .i64 z.Writes,.int .i64 z.Stop,.bool z.Down].toArray 34)) (zK:z.Ok) (zO9:own false w [.slice zA9 z.Groups.length zC9] z.Groups zF9) (zO10:own false w [.slice zA10 z.On.length zC10] z.On zF10) (zO11:own false w [.slice zA11 z.Tapes.length zC11] z.Tapes zF11) (hq:SeqOK z) (hT:z.Tapes.length=2) (hrl:∀ k,(z.Tapes.getD k default).Recs.length≤200000):Ret Tryz.prog 196 #[.pointer (some ⟨zb,0,none⟩)] w fun v w'=>Ext No w w'∧(v = .tuple #[.int .i64 (nsV z),.int .i64 (nsC z)]):=by
 have zK2:=zK;unfold Wld.Ok Shape.Ok at zK2
 try unfold I64ok at zK2
 try unfold maxLen at zK2
 have zL9:=oL zO9;have zL10:=oL zO10;have zL11:=oL zO11;have hqb:=rZ hq;refine aF (vs:=[.pointer (some ⟨zb,0,none⟩)]) func196 Z ntmps196 Z (fun Q hQ hN=>?_);have H0:=Sep.start (w:=w) (F:=[box zb (.cells [.int .i64 z.Shape.Groups,.int .i64 z.Shape.Column,.int .i64 z.Shape.Data,.int .i64 z.Shape.Spare,.int .i64 z.Shape.Rows,.int .i64 z.Shape.Cap,.int .i64 z.Shape.Batch,.int .i64 z.Shape.Queue,.int .i64 z.Shape.Stage,.slice zA9 z.Groups.length zC9,.slice zA10 z.On.length zC10,.slice zA11 z.Tapes.length zC11,.int .i64 z.Writes,.int .i64 z.Stop,.bool z.Down].toArray 34),seen false [.slice zA9 z.Groups.length zC9] z.Groups zF9,seen false [.slice zA10 z.On.length zC10] z.On zF10,seen false [.slice zA11 z.Tapes.length zC11] z.Tapes zF11]) (ae (by exact zB) (ae zO9 (ae zO10 (ae zO11 (by simp)))));refine ab (sR 2 Z (aa (ab (sM Z Z (sC func173 p3 Z (fi (H0.fbox 0 Z) (by assumption) (aZ (H0.seen 1 Z)) (aZ (H0.seen 2 Z)) (aZ (H0.seen 3 Z)) (by first | assumption | omega) (by first | assumption | omega)) (fun v1 w1 r1=>?_))))));obtain ⟨e1,vs1,r1,hR1,hM1⟩:=r1;obtain ⟨fp1,H1⟩:=H0.res e1 r1;obtain ⟨sa1,sk1,sq1⟩:=aA (H1.mine 0 Z);cases sq1;have hl1:vs1.length=(cl z).length:=by rw [← hM1,List.length_map]
 have hb1:=na (z:=z) (by first | assumption | omega) (by assumption);have hRw1:RdV w zF11 vs1:=hR1.back H1.ext (Rp.lt zO11);refine sR 2 Z (aa (ac (ab (sM Z Z (sV Z (aC aQ Z) (sV Z (dm Z Z) (aa (au Z (fun c1=>?_) (fun c1=>?_)))))))))
 ·have hnx:=AH hM1 (by omega);obtain ⟨eb1,eo1,ee1,ec1,eK1⟩:=H1.viewAt 0 Z (vs1.length-1) (by omega);refine an (sR 2 Z (sV Z (aC aQ Z) (sV Z (bu Z Z iO) (sV Z (az aQ aJ Z Z ee1 (vs1.length-1) (by omega) (by omega)) (sF ay Z ts2 (sV Z (ah tu2 Z Z (be ec1 1 Z)) (sV Z (aB Z Z iO) (sA Z Z (aa (ac (ab (sR 2 Z (aa (au Z (fun c2=>?_) (fun c2=>?_)))))))))))))))
  ·refine ab (sR 2 Z (aa (bH (hQ _ _ (vn results196 Z Z ?_)))));exact ⟨H1.ext,by rw [nsV,nsC,if_pos (by omega),if_pos (by omega)]⟩
  ·refine aj (ab (sR 3 Z (aa (bH (hQ _ _ (vn results196 Z Z ?_))))));have hnm:¬ 1000000000<nxQ z:=by omega
   exact ⟨H1.ext,by rw [nsV,nsC,if_neg hnm,if_neg hnm,hnx]⟩
 ·refine aj (ac (ab (sR 2 Z (aa (au Z (fun c3=>?_) (fun c3=>?_))))))
  ·refine ab (sR 2 Z (aa (bH (hQ _ _ (vn results196 Z Z ?_)))));have hnx:=sW hM1 (by omega);exact ⟨H1.ext,by rw [nsV,nsC,if_pos (by omega),if_pos (by omega)]⟩
  ·refine aj (ab (sR 3 Z (aa (bH (hQ _ _ (vn results196 Z Z ?_))))));have hnx:=sW hM1 (by omega);have hnm:¬ 1000000000<nxQ z:=by omega
   exact ⟨H1.ext,by rw [nsV,nsC,if_neg hnm,if_neg hnm,hnx]⟩
theorem px {w:World}{vs:List RecV}{A:Option Addr}{n C:Nat}(vS:Sees w [.slice A n C] vs) (hb:vs.length≤1000000):Ret Tryz.prog 195 #[.slice A n C] w fun v w'=>Ext No w w'∧(v = .int .i64 (pW (vs.map RecV.r))):=by
 obtain ⟨f0,vO⟩:=vS;obtain rfl:=dO vO;have vL:=oL vO;refine aF (vs:=[.slice A vs.length C]) func195 Z ntmps195 Z (fun Q hQ hN=>?_);have H0:=Sep.start (w:=w) (F:=[seen false [.slice A vs.length C] vs f0]) (ae vO (by simp));refine ab (sA Z Z (aa (ac (ab (sM Z Z (sV Z (aC aQ Z) (sV Z (bW Z Z) (aa (au Z (fun c1=>?_) (fun c1=>?_))))))))))
 ·refine ab (rA hQ results195 Z ?_);exact ⟨H0.ext,congrArg (Value.int .i64) (rd (by omega)).symm⟩
 ·refine aj (ac ?_);obtain ⟨eb1,eo1,ee1,ec1,eK1⟩:=H0.viewSeen 0 Z (vs.length-1) (by omega);refine an (sR 2 Z (sV Z (aC aQ Z) (sV Z (bu Z Z iO) (sV Z (az aQ aJ Z Z ee1 (vs.length-1) (by omega) (by omega)) (sF ay Z ts2 (sV Z (ah tu2 Z Z (be ec1 1 Z)) (rA hQ results195 Z ?_)))))));exact ⟨H0.ext,congrArg (Value.int .i64) (vZ).symm⟩
theorem iM {w:World}{z:Wld}{zb rC6 rC7 rC8:Nat}{fp rF6 rF7 rF8:List Nat}{r:Rec}{rA6 rA7 rA8:Option Addr}(o:OwnW w zb 34 z fp) (nd:fp.Nodup) (rK:r.Ok) (rO6:own false w [.slice rA6 r.Rows.length rC6] r.Rows rF6) (rD6:∀ b∈rF6,b ∉ fp) (rO7:own false w [.slice rA7 r.Data.length rC7] r.Data rF7) (rD7:∀ b∈rF7,b ∉ fp) (rO8:own false w [.slice rA8 r.Delta.length rC8] r.Delta rF8) (rD8:∀ b∈rF8,b ∉ fp) (hq:SeqOK z) (hT:z.Tapes.length=2) (hrl:∀ k,(z.Tapes.getD k default).Recs.length≤200000) (hw:z.Writes≤1500000000) (hb:cn r≤1048576):Ret Tryz.prog 179 #[.pointer (some ⟨zb,0,none⟩),r.val rA6 rC6 rA7 rC7 rA8 rC8] w fun v w'=>(v = .int .i64 (nxC z r)∧MutW w w' fp zb 34 ((nxZ z r))):=by
 have rK2:=rK;unfold Rec.Ok at rK2
 try unfold I64ok at rK2
 try unfold maxLen at rK2
 have rN2:r.Name.size≤maxLen:=by unfold maxLen; omega
 have rL6:=oL rO6;have rL7:=oL rO7;have rL8:=oL rO8;refine aF (vs:=[.pointer (some ⟨zb,0,none⟩),r.val rA6 rC6 rA7 rC7 rA8 rC8]) func179 Z ntmps179 Z (fun Q hQ hN=>?_);have H0:=(((Sep.beginW o nd).seeF (rO6) rD6).seeF (rO7) rD7).seeF (rO8) rD8
 try dsimp only[lNA,lCA,lSZ,lSS] at H0
 refine ab (aY (wn Z) Z Z H0 (fun b1 w1 e1 g1 H1=>sA Z Z (aa (ac ?_))));obtain ⟨wA1,wC1,wA2,wC2,wA3,wC3,wf1,wf2,wf3,wok1,H2⟩:=H1.openW 0 Z
 try dsimp only[lNA,lCA,lSZ,lSS] at H2
 have wok1U:=wok1;unfold Wld.Ok Shape.Ok I64ok at wok1U;have wL1:=oL (H2.mine 3 Z);have wL2:=oL (H2.mine 4 Z);have wL3:=oL (H2.mine 5 Z);refine an (sM Z Z (sE func196 ub Z (iP (H2.box 0 Z) (by assumption) (aZ (H2.mine 3 Z)) (aZ (H2.mine 4 Z)) (aZ (H2.mine 5 Z)) (by first | assumption | omega) (by first | assumption | omega) (by first | assumption | omega)) H2 (fun w2 e2 H3=>sR 5 Z (aa (ac (ab (sR 2 Z (aa (au Z (fun c1=>?_) (fun c1=>?_))))))))))
 ·refine ab (sR 2 Z (rN hQ results179 Z ?_));obtain ⟨fp1,H4⟩:=H3.closeW 0 3 4 5 z Z Z Z Z Z Z Z Z Z Z wok1
  try dsimp only[lNA,lCA,lSZ,lSS] at H4
  have hmany:1000000000<nxQ z:=by
   by_cases q:1000000000<nxQ z
   ·exact q
   ·exfalso; rw [nsC,if_neg q] at c1; exact c1 rfl
  have hz:=H4.doneW;rw [(kI (r:=r) hmany).1,(kI (r:=r) hmany).2];exact ⟨by rw [nsC,if_pos hmany]; rfl,hz⟩
 ·refine aj (ac ?_)
  skip
  refine an (sM Z Z (sF ay Z ts2 (bx (wn Z) ts2 Z Z Z H3 1 Z Z (fun w3 e3 H5=>?_))));dsimp only[lNA,lCA,lSZ,lSS,aL] at H5;refine aa (ac ?_);have hgo:¬ 1000000000<nxQ z:=by intro q; rw [nsC,if_pos q] at c1; exact absurd (by decide) c1
  have hnsv:nsV z=nxQ z:=if_neg hgo;have hqb:=rZ hq;have hxk:(nL r (nsV z)).Ok:=vU rK (by unfold I64ok; omega);refine an (sM Z Z (sV Z (ak ay Z aJ Z Z (At.whole (H5.box 1 Z))) ?_));obtain ⟨fp2,H6⟩:=H5.closeW 0 3 4 5 z Z Z Z Z Z Z Z Z Z Z wok1
  try dsimp only[lNA,lCA,lSZ,lSS] at H6
  refine sC func144 tW Z (oA (H6.wldAt 0 Z) (H6.nodup1 (i:=0) Z) (by assumption) (aZ (H6.seen 0 Z)) (fun b hb=>H6.off 0 Z 0 Z hb) (aZ (H6.seen 1 Z)) (fun b hb=>H6.off 1 Z 0 Z hb) (aZ (H6.seen 2 Z)) (fun b hb=>H6.off 2 Z 0 Z hb) (by first | assumption | omega) (by first | assumption | omega) (by first | assumption | omega) (r:=(nL r (nsV z)))) (fun v2 w4 r2=>?_);obtain ⟨rfl,mm1⟩:=r2;obtain ⟨fp3,H7⟩:=H6.mutW 0 Z mm1
  try dsimp only[lNA,lCA,lSZ,lSS] at H7
  refine rA hQ results179 Z ?_;have hz:=H7.doneW;rw [hnsv] at hz;rw [(lx (r:=r) hgo).1,(lx (r:=r) hgo).2];exact ⟨by rw [hnsv],hz⟩
theorem nU {w:World}{z:Wld}{zb rC6 rC7 rC8:Nat}{fp rF6 rF7 rF8:List Nat}{r:Rec}{rA6 rA7 rA8:Option Addr}(o:OwnW w zb 34 z fp) (nd:fp.Nodup) (rK:r.Ok) (rO6:own false w [.slice rA6 r.Rows.length rC6] r.Rows rF6) (rD6:∀ b∈rF6,b ∉ fp) (rO7:own false w [.slice rA7 r.Data.length rC7] r.Data rF7) (rD7:∀ b∈rF7,b ∉ fp) (rO8:own false w [.slice rA8 r.Delta.length rC8] r.Delta rF8) (rD8:∀ b∈rF8,b ∉ fp) (hd:z.Down=false) (hrr:(z.Tapes.getD 0 default).Recs.length≤1000∧(z.Tapes.getD 1 default).Recs.length≤1000) (hq:SeqOK z) (hT:z.Tapes.length=2) (hrl:∀ k,(z.Tapes.getD k default).Recs.length≤200000) (hw:z.Writes≤1500000000) (hb:cn r≤1048576):Ret Tryz.prog 177 #[.pointer (some ⟨zb,0,none⟩),r.val rA6 rC6 rA7 rC7 rA8 rC8] w fun v w'=>(v = .int .i64 (nxC z r)∧MutW w w' fp zb 34 ((nxZ z r))):=by
 have rK2:=rK;unfold Rec.Ok at rK2
 try unfold I64ok at rK2
 try unfold maxLen at rK2
 have rN2:r.Name.size≤maxLen:=by unfold maxLen; omega
 have rL6:=oL rO6;have rL7:=oL rO7;have rL8:=oL rO8;have hqb0:=rZ hq;have hqe0:nxQ z=pW (cl z)+1:=Z;refine aF (vs:=[.pointer (some ⟨zb,0,none⟩),r.val rA6 rC6 rA7 rC7 rA8 rC8]) func177 Z ntmps177 Z (fun Q hQ hN=>?_);have H0:=(((Sep.beginW o nd).seeF (rO6) rD6).seeF (rO7) rD7).seeF (rO8) rD8
 try dsimp only[lNA,lCA,lSZ,lSS] at H0
 refine ab (aY (wn Z) Z Z H0 (fun b1 w1 e1 g1 H1=>sA Z Z (aa (ac ?_))));obtain ⟨wA1,wC1,wA2,wC2,wA3,wC3,wf1,wf2,wf3,wok1,H2⟩:=H1.openW 0 Z
 try dsimp only[lNA,lCA,lSZ,lSS] at H2
 have wok1U:=wok1;unfold Wld.Ok Shape.Ok I64ok at wok1U;have wL1:=oL (H2.mine 3 Z);have wL2:=oL (H2.mine 4 Z);have wL3:=oL (H2.mine 5 Z);refine an (sM Z Z (sC func83 rt Z (gA (H2.box 0 Z) (by assumption) (aZ (H2.mine 3 Z)) (aZ (H2.mine 4 Z)) (aZ (H2.mine 5 Z)) (by first | assumption | omega) (by first | assumption | omega)) (fun v1 w2 r1=>?_)));obtain ⟨e2,vs1,r1,hR1,hM1⟩:=r1;obtain ⟨fp1,H3⟩:=H2.res e2 r1;obtain ⟨sa1,sk1,sq1⟩:=aA (H3.mine 6 Z);cases sq1;have hl1:vs1.length=(cl z).length:=by rw [← hM1,List.length_map]
 have hb1:=na (z:=z) (by first | assumption | omega) (by assumption);have lt:=px (vs:=vs1) ⟨_,aZ (H3.mine 6 Z)⟩ (by omega);rw [hM1] at lt;refine sE func195 uT Z lt H3 (fun w3 e3 H4=>sV Z (aB Z Z iO) (sF ay Z ts2 (bx (wn Z) ts2 Z Z Z H4 1 Z Z (fun w4 e4 H5=>?_))));dsimp only[lNA,lCA,lSZ,lSS,aL] at H5;refine aa (ac (ab (sF ay Z ts2 (sLd tu2 (H5.box 1 Z) Z (sR 2 Z (cI (t:=13) Z (fun hg1=>?_) (fun hg1=>?_)))))))
 ·try simp only [decide_eq_true_eq,decide_eq_false_iff_not] at hg1
  refine sR 2 Z (sV Z (aH Z Z) (aa (cN Z (ab (rA hQ results177 Z ?_)))));obtain ⟨fp2,H6⟩:=H5.closeW 0 3 4 5 z Z Z Z Z Z Z Z Z Z Z wok1
  try dsimp only[lNA,lCA,lSZ,lSS] at H6
  have hz:=H6.doneW
  by_cases hm:1000000000<nxQ z
  ·rw [(kI (r:=r) hm).1,(kI (r:=r) hm).2]; exact ⟨rfl,hz⟩
  ·have hf:df z=true:=by rw [← oZ]; first | assumption | (exfalso; apply hm; show 1000000000<pW (cl z)+1; omega)
   rw [(lx (r:=r) hm).1,(lx (r:=r) hm).2,(gK hf).1,(gK hf).2]; exact ⟨rfl,hz⟩
 ·try simp only [decide_eq_true_eq,decide_eq_false_iff_not] at hg1
  refine am (wg Z Z Z) Z Z (aM Z) (dE (wg Z Z Z) Z Z (aV func134 Z uf Z) (nH (H5.box 0 Z) (by assumption) (H5.msees 3 Z) (H5.msees 4 Z) (H5.msees 5 Z) (by first | assumption | omega) (by first | assumption | omega) (by first | assumption | omega)) (fun v3 w5 r3=>?_));obtain ⟨e5,rfl⟩:=r3;have H7:=H5.to e5;refine sV Z (aN Z Z) (aa (bJ Z (fun c1=>?_) (fun c1=>?_)))
  ·refine ab (rA hQ results177 Z ?_);obtain ⟨fp3,H8⟩:=H7.closeW 0 3 4 5 z Z Z Z Z Z Z Z Z Z Z wok1
   try dsimp only[lNA,lCA,lSZ,lSS] at H8
   have hz:=H8.doneW
   by_cases hm:1000000000<nxQ z
   ·rw [(kI (r:=r) hm).1,(kI (r:=r) hm).2]; exact ⟨rfl,hz⟩
   ·have hf:df z=true:=by rw [← oZ]; first | assumption | (exfalso; apply hm; show 1000000000<pW (cl z)+1; omega)
    rw [(lx (r:=r) hm).1,(lx (r:=r) hm).2,(gK hf).1,(gK hf).2]; exact ⟨rfl,hz⟩
  ·refine aj (ac (ac ?_));have hm:¬ 1000000000<nxQ z:=by show ¬ 1000000000<pW (cl z)+1; omega
   have hqb:=rZ hq;have hqe:pW (cl z)+1=nxQ z:=Z;have hf:df z=false:=by rw [← oZ]; simpa using c1
   have hxk:(nL r (nxQ z)).Ok:=vU rK (by unfold I64ok; omega);refine an (sM Z Z (sV Z (ak ay Z aJ Z Z (At.whole (H7.box 1 Z))) ?_));obtain ⟨fp4,H9⟩:=H7.closeW 0 3 4 5 z Z Z Z Z Z Z Z Z Z Z wok1
   try dsimp only[lNA,lCA,lSZ,lSS] at H9
   refine sC func135 tS Z (oy (H9.wldAt 0 Z) (H9.nodup1 (i:=0) Z) (by assumption) (aZ (H9.seen 0 Z)) (fun b hb=>H9.off 0 Z 0 Z hb) (aZ (H9.seen 1 Z)) (fun b hb=>H9.off 1 Z 0 Z hb) (aZ (H9.seen 2 Z)) (fun b hb=>H9.off 2 Z 0 Z hb) (by assumption) (by assumption) (by first | assumption | omega) (by first | assumption | omega) (by first | assumption | omega) (r:=(nL r (nxQ z)))) (fun v4 w6 r4=>?_);obtain ⟨rfl,mm1⟩:=r4;obtain ⟨fp5,H10⟩:=H9.mutW 0 Z mm1
   try dsimp only[lNA,lCA,lSZ,lSS] at H10
   refine sV Z (aX Z) (aa (bJ Z (fun c2=>?_) (fun c2=>?_)))
   ·refine ab (rA hQ results177 Z ?_);have hz:=H10.doneW;have hlo:lr z (nL r (nxQ z))=false:=by simpa using c2
    rw [(lx (r:=r) hm).1,(lx (r:=r) hm).2,(i9 hf).1,(i9 hf).2,hlo];exact ⟨Z,hz⟩
   ·refine aj (ab (rA hQ results177 Z ?_));have hz:=H10.doneW;have hlo:lr z (nL r (nxQ z))=true:=by simpa using c2
    rw [(lx (r:=r) hm).1,(lx (r:=r) hm).2,(i9 hf).1,(i9 hf).2,hlo];exact ⟨Z,hz⟩
end Go.Wk
namespace Go.Wk
open Go.Proofs Rp Go.Proofs.Tryz
set_option maxRecDepth 10000
theorem eT {w:World}{z:Wld}{zb:Nat}{fp:List Nat}{nm:ByteArray}(o:OwnW w zb 34 z fp) (nd:fp.Nodup) (hq:SeqOK z) (hT:z.Tapes.length=2) (hrl:∀ k,(z.Tapes.getD k default).Recs.length≤200000) (hw:z.Writes≤1400000000) (hnm:nm.size≤1048576):Ret Tryz.prog 98 #[.pointer (some ⟨zb,0,none⟩),.string nm] w fun v w'=>(v = .int .i64 (drC z nm)∧MutW w w' fp zb 34 ((drZ z nm))):=by
 have hnb:nm.size≤maxLen:=by unfold maxLen; omega
 have hdk:(mr nm).Ok:=by unfold Rec.Ok mr; refine ⟨?_,?_,hnb,?_,?_,?_⟩<;>(unfold I64ok; dsimp only; omega)
 have hdz:cn (mr nm)=nm.size:=by show nm.size+0+0+0=nm.size; omega
 refine aF (vs:=[.pointer (some ⟨zb,0,none⟩),.string nm]) func98 Z ntmps98 Z (fun Q hQ hN=>?_);have H0:=Sep.beginW o nd;refine ab (sA Z Z (aa (ac (ac ?_))));obtain ⟨wA1,wC1,wA2,wC2,wA3,wC3,wf1,wf2,wf3,wok1,H1⟩:=H0.openW 0 Z
 try dsimp only[lNA,lCA,lSZ,lSS] at H1
 have wok1U:=wok1;unfold Wld.Ok Shape.Ok I64ok at wok1U;have wL1:=oL (H1.mine 2 Z);have wL2:=oL (H1.mine 3 Z);have wL3:=oL (H1.mine 4 Z);refine an (sR 2 Z (sC func87 xh Z (jY (H1.box 0 Z) (by assumption) (aZ (H1.mine 2 Z)) (aZ (H1.mine 3 Z)) (aZ (H1.mine 4 Z)) (by first | assumption | omega) (by first | assumption | omega)) (fun v1 w1 r1=>?_)));obtain ⟨e1,pA1,pA2,pA3,pA4,pA5,pA6,rfl,hI1⟩:=r1;have H2:=H1.to e1;refine sR 3 Z (bG (wn Z) Z zeroValue94 H2 (fun b1 w2 e2 g1 H3=>ba (wn Z) aJ Z Z Z Z H3 5 Z Z (fun w3 e3 H4=>?_)));dsimp only[lNA,lCA,lSZ,lSS,aL] at H4;refine sA Z Z (aa (ab (sM Z Z (sV Z (aX Z) (aa (bJ Z (fun c1=>?_) (fun c1=>?_)))))))
 ·refine ab (rA hQ results98 Z ?_);obtain ⟨fp1,H5⟩:=H4.closeW 0 2 3 4 z Z Z Z Z Z Z Z Z Z Z wok1
  try dsimp only[lNA,lCA,lSZ,lSS] at H5
  have hz:=H5.doneW;obtain ⟨d1,d2⟩:=xU (z:=z) (nm:=nm) (by simpa using c1);rw [d1,d2];exact ⟨Z,hz⟩
 ·refine aj (ab (sR 2 Z (sV Z (bT kL Z Z) ?_)));obtain ⟨fp2,H6⟩:=H4.closeW 0 2 3 4 z Z Z Z Z Z Z Z Z Z Z wok1
  try dsimp only[lNA,lCA,lSZ,lSS] at H6
  refine sC func179 vA Z (iM (H6.wldAt 0 Z) (H6.nodup1 (i:=0) Z) (by assumption) (.inr (.inl ⟨Z,Z,Z⟩)) (by simp) (.inr (.inl ⟨Z,Z,Z⟩)) (by simp) (.inr (.inl ⟨Z,Z,Z⟩)) (by simp) (by first | assumption | omega) (by first | assumption | omega) (by first | assumption | omega) (by first | assumption | omega) (by first | assumption | omega) (r:=(mr nm))) (fun v2 w4 r2=>?_);obtain ⟨rfl,mm1⟩:=r2;obtain ⟨fp3,H7⟩:=H6.mutW 0 Z mm1
  try dsimp only[lNA,lCA,lSZ,lSS] at H7
  refine rA hQ results98 Z ?_;have hz:=H7.doneW;obtain ⟨d1,d2⟩:=Ar (z:=z) (nm:=nm) (by simpa using c1);rw [d1,d2];exact ⟨Z,hz⟩
theorem nk {w:World}{z:Wld}{zb:Nat}{fp:List Nat}{nm:ByteArray}(o:OwnW w zb 34 z fp) (nd:fp.Nodup) (nq:bg nm≠0) (hnm:nm.size≤1048576):Ret Tryz.prog 96 #[.pointer (some ⟨zb,0,none⟩),.string nm] w fun v w'=>(v = .int .i64 (bg nm)∧MutW w w' fp zb 34 (z)):=by
 have hnb:nm.size≤maxLen:=by unfold maxLen; omega
 refine aF (vs:=[.pointer (some ⟨zb,0,none⟩),.string nm]) func96 Z ntmps96 Z (fun Q hQ hN=>?_);have H0:=Sep.beginW o nd;refine ab (sA Z Z (aa (ac (ab (sM Z Z (sE func109 lA Z (eQ (by assumption)) H0 (fun w1 e1 H1=>sA Z Z (aa (ab (sR 2 Z (aa (au Z (fun c1=>?_) (fun c1=>?_)))))))))))))
 ·refine ab (sR 2 Z (rN hQ results96 Z ?_));have hz:=H1.doneW;exact ⟨Z,hz⟩
 ·exfalso; omega
theorem kp {w:World}{z:Wld}{zb:Nat}{fp:List Nat}{nm:ByteArray}(o:OwnW w zb 34 z fp) (nd:fp.Nodup) (aq:bg nm=0) (hw0:dw z=0) (hd:z.Down=false) (hrr:(z.Tapes.getD 0 default).Recs.length≤1000∧(z.Tapes.getD 1 default).Recs.length≤1000) (hq:SeqOK z) (hT:z.Tapes.length=2) (hrl:∀ k,(z.Tapes.getD k default).Recs.length≤200000) (hw:z.Writes≤1400000000) (hnm:nm.size≤1048576):Ret Tryz.prog 96 #[.pointer (some ⟨zb,0,none⟩),.string nm] w fun v w'=>(v = .int .i64 (drC z nm)∧MutW w w' fp zb 34 ((drZ z nm))):=by
 have hnb:nm.size≤maxLen:=by unfold maxLen; omega
 have hdk:(mr nm).Ok:=by unfold Rec.Ok mr; refine ⟨?_,?_,hnb,?_,?_,?_⟩<;>(unfold I64ok; dsimp only; omega)
 have hdz:cn (mr nm)=nm.size:=by show nm.size+0+0+0=nm.size; omega
 refine aF (vs:=[.pointer (some ⟨zb,0,none⟩),.string nm]) func96 Z ntmps96 Z (fun Q hQ hN=>?_);have H0:=Sep.beginW o nd;refine ab (sA Z Z (aa (ac (ab (sM Z Z (sE func109 lA Z (eQ (by assumption)) H0 (fun w1 e1 H1=>sA Z Z (aa (ab (sR 2 Z (aa (au Z (fun c1=>?_) (fun c1=>?_)))))))))))))
 ·exfalso; omega
 ·refine aj (ac ?_);obtain ⟨wA1,wC1,wA2,wC2,wA3,wC3,wf1,wf2,wf3,wok1,H2⟩:=H1.openW 0 Z
  try dsimp only[lNA,lCA,lSZ,lSS] at H2
  have wok1U:=wok1;unfold Wld.Ok Shape.Ok I64ok at wok1U;have wL1:=oL (H2.mine 2 Z);have wL2:=oL (H2.mine 3 Z);have wL3:=oL (H2.mine 4 Z);refine an (sM Z Z (sC func83 rt Z (gA (H2.box 0 Z) (by assumption) (aZ (H2.mine 2 Z)) (aZ (H2.mine 3 Z)) (aZ (H2.mine 4 Z)) (by first | assumption | omega) (by first | assumption | omega)) (fun v2 w2 r2=>?_)));obtain ⟨e2,vs1,r2,hR1,hM1⟩:=r2;obtain ⟨fp1,H3⟩:=H2.res e2 r2;obtain ⟨sa1,sk1,sq1⟩:=aA (H3.mine 5 Z);cases sq1;have hl1:vs1.length=(cl z).length:=by rw [← hM1,List.length_map]
  have hb1:=na (z:=z) (by first | assumption | omega) (by assumption);refine sA Z Z (aa (ac ?_));have hlb:=yl (p:=itP nm) (rs:=cl z);refine an (sM Z Z (sM Z Z ?_));have lc5:=ma (xs:=vs1.map RecV.r) (nm:=nm) (by rw [List.length_map]; exact hR1.list (H3.mine 5 Z));rw [List.length_map,hM1] at lc5;refine sE func84 wU Z lc5 H3 (fun w3 e3 H4=>sA Z Z (aa (ac (ab (sR 3 Z (cI (t:=20) Z (fun hg1=>?_) (fun hg1=>?_)))))))
  ·try simp only [decide_eq_true_eq,decide_eq_false_iff_not] at hg1
   refine sR 6 Z (sV Z (aH Z Z) (aa (cN Z (ab (rA hQ results96 Z ?_)))));obtain ⟨fp2,H5⟩:=H4.closeW 0 2 3 4 z Z Z Z Z Z Z Z Z Z Z wok1
   try dsimp only[lNA,lCA,lSZ,lSS] at H5
   have hz:=H5.doneW;obtain ⟨d1,d2⟩:=xU (z:=z) (nm:=nm) (xq hw0 (by omega));rw [d1,d2];exact ⟨Z,hz⟩
  ·try simp only [decide_eq_true_eq,decide_eq_false_iff_not] at hg1
   refine am (wg Z Z Z) Z Z (aM Z) (am (wg Z Z Z) Z Z (aM Z) ?_);obtain ⟨eb1,eo1,ee1,ec1,eK1⟩:=H4.viewAt 5 Z (fj (itP nm) (cl z)).toNat (by omega);refine am (wg Z Z Z) Z Z (az aQ aJ Z Z ee1 (fj (itP nm) (cl z)).toNat (by omega) (by omega)) (am (wg Z Z Z) Z Z (ag ay Z ts2 Z Z) (am (wg Z Z Z) Z Z (ah tu2 Z Z (be ec1 3 Z)) (am (wg Z Z Z) Z Z (aS Z Z) (sV Z (aN Z Z) (aa (au Z (fun c2=>?_) (fun c2=>?_)))))))
   ·refine ab (rA hQ results96 Z ?_);obtain ⟨fp3,H6⟩:=H4.closeW 0 2 3 4 z Z Z Z Z Z Z Z Z Z Z wok1
    try dsimp only[lNA,lCA,lSZ,lSS] at H6
    have hur:(vs1.getD (fj (itP nm) (cl z)).toNat default).r=(cl z).getD (fj (itP nm) (cl z)).toNat default:=dK hM1 (by omega);have hz:=H6.doneW;obtain ⟨d1,d2⟩:=xU (z:=z) (nm:=nm) (qt (by omega) (by rw [← hur]; first | omega | simp_all) hw0);rw [d1,d2];exact ⟨Z,hz⟩
   ·refine aj (ac ?_);have hur:(vs1.getD (fj (itP nm) (cl z)).toNat default).r=(cl z).getD (fj (itP nm) (cl z)).toNat default:=dK hM1 (by omega);have hi1:=(qz (z:=z) (nm:=nm) (by omega) (by rw [← hur]; first | omega | simp_all)).1;refine an (sR 2 Z (sV Z (bT kL Z Z) ?_));obtain ⟨fp4,H7⟩:=H4.closeW 0 2 3 4 z Z Z Z Z Z Z Z Z Z Z wok1
    try dsimp only[lNA,lCA,lSZ,lSS] at H7
    refine sC func177 uW Z (nU (H7.wldAt 0 Z) (H7.nodup1 (i:=0) Z) (by assumption) (.inr (.inl ⟨Z,Z,Z⟩)) (by simp) (.inr (.inl ⟨Z,Z,Z⟩)) (by simp) (.inr (.inl ⟨Z,Z,Z⟩)) (by simp) (by first | assumption | omega) (by first | assumption | omega) (by first | assumption | omega) (by first | assumption | omega) (by first | assumption | omega) (by first | assumption | omega) (by first | assumption | omega) (r:=(mr nm))) (fun v4 w4 r4=>?_);obtain ⟨rfl,mm1⟩:=r4;obtain ⟨fp5,H8⟩:=H7.mutW 0 Z mm1
    try dsimp only[lNA,lCA,lSZ,lSS] at H8
    refine rA hQ results96 Z ?_;have hz:=H8.doneW;obtain ⟨d1,d2⟩:=Ar (z:=z) (nm:=nm) hi1;rw [d1,d2];exact ⟨Z,hz⟩
end Go.Wk
namespace Go.Wk
open Go.Proofs Rp Go.Proofs.Tryz
set_option maxRecDepth 10000
theorem gj {w:World}{z:Wld}{zA9 zA10 zA11:Option Addr}{zC9 zC10 zC11:Nat}{nm:ByteArray}(zK:z.Ok) (zS9:Sees w [.slice zA9 z.Groups.length zC9] z.Groups) (zS10:Sees w [.slice zA10 z.On.length zC10] z.On) (zS11:Sees w [.slice zA11 z.Tapes.length zC11] z.Tapes) (hnm:nm.size≤1048576):Ret Tryz.prog 97 #[z.val zA9 zC9 zA10 zC10 zA11 zC11,.string nm] w fun v w'=>Ext No w w'∧(v = .int .i64 (if upF z=0 then bg nm else upF z)):=by
 have zK2:=zK;unfold Wld.Ok Shape.Ok at zK2
 try unfold I64ok at zK2
 try unfold maxLen at zK2
 have zL9:=sL zS9;obtain ⟨zF9,zO9⟩:=zS9;have zL10:=sL zS10;obtain ⟨zF10,zO10⟩:=zS10;have zL11:=sL zS11;obtain ⟨zF11,zO11⟩:=zS11;have hnb:nm.size≤maxLen:=by unfold maxLen; omega
 refine aF (vs:=[z.val zA9 zC9 zA10 zC10 zA11 zC11,.string nm]) func97 Z ntmps97 Z (fun Q hQ hN=>?_);have H0:=Sep.start (w:=w) (F:=[seen false [.slice zA9 z.Groups.length zC9] z.Groups zF9,seen false [.slice zA10 z.On.length zC10] z.On zF10,seen false [.slice zA11 z.Tapes.length zC11] z.Tapes zF11]) (ae zO9 (ae zO10 (ae zO11 (by simp))));refine ab (aY (wn Z) Z Z H0 (fun b1 w1 e1 g1 H1=>sA Z Z (aa (ac (ab (sV Z (ak aW Z cH Z Z (At.whole (H1.box 0 Z))) (sE func66 wJ Z (mX (by assumption) (H1.sees 0 Z) (H1.sees 1 Z) (H1.sees 2 Z)) H1 (fun w2 e2 H2=>sA Z Z (aa (ab (sR 2 Z (aa (au Z (fun c1=>?_) (fun c1=>?_))))))))))))))
 ·refine ab (sR 2 Z (rN hQ results97 Z ?_));exact ⟨H2.ext,congrArg (Value.int .i64) (if_neg (by omega)).symm⟩
 ·refine aj (ac ?_);have hu:upF z=0:=by omega
  refine an (sM Z Z (sE func178 qp Z (gD (by assumption)) H2 (fun w3 e3 H3=>rA hQ results97 Z ?_)));exact ⟨H3.ext,congrArg (Value.int .i64) (if_pos hu).symm⟩
theorem iZ {w:World}{z:Wld}{zA9 zA10 zA11:Option Addr}{zC9 zC10 zC11:Nat}{nm:ByteArray}(zK:z.Ok) (zS9:Sees w [.slice zA9 z.Groups.length zC9] z.Groups) (zS10:Sees w [.slice zA10 z.On.length zC10] z.On) (zS11:Sees w [.slice zA11 z.Tapes.length zC11] z.Tapes) (hb:ev z≤1048576) (hnm:nm.size≤1048576) (hc:drC z nm≠0∧drC z nm≠9):Ret Tryz.prog 34 #[z.val zA9 zC9 zA10 zC10 zA11 zC11,.string nm] w fun v w'=>Ext No w w'∧(∃ A10 C10 A11 C11 A12 C12,v=(ax z nm).val A10 C10 A11 C11 A12 C12∧Res w w' [.int .i64 (ax z nm).Code,.int .i64 (ax z nm).Wd.Shape.Groups,.int .i64 (ax z nm).Wd.Shape.Column,.int .i64 (ax z nm).Wd.Shape.Data,.int .i64 (ax z nm).Wd.Shape.Spare,.int .i64 (ax z nm).Wd.Shape.Rows,.int .i64 (ax z nm).Wd.Shape.Cap,.int .i64 (ax z nm).Wd.Shape.Batch,.int .i64 (ax z nm).Wd.Shape.Queue,.int .i64 (ax z nm).Wd.Shape.Stage,.slice A10 (ax z nm).Wd.Groups.length C10,.slice A11 (ax z nm).Wd.On.length C11,.slice A12 (ax z nm).Wd.Tapes.length C12,.int .i64 (ax z nm).Wd.Writes,.int .i64 (ax z nm).Wd.Stop,.bool (ax z nm).Wd.Down] (ax z nm)):=by
 have zK2:=zK;unfold Wld.Ok Shape.Ok at zK2
 try unfold I64ok at zK2
 try unfold maxLen at zK2
 have zL9:=sL zS9;obtain ⟨zF9,zO9⟩:=zS9;have zL10:=sL zS10;obtain ⟨zF10,zO10⟩:=zS10;have zL11:=sL zS11;obtain ⟨zF11,zO11⟩:=zS11;refine aF (vs:=[z.val zA9 zC9 zA10 zC10 zA11 zC11,.string nm]) func34 Z ntmps34 Z (fun Q hQ hN=>?_);have H0:=Sep.start (w:=w) (F:=[seen false [.slice zA9 z.Groups.length zC9] z.Groups zF9,seen false [.slice zA10 z.On.length zC10] z.On zF10,seen false [.slice zA11 z.Tapes.length zC11] z.Tapes zF11]) (ae zO9 (ae zO10 (ae zO11 (by simp))));refine ab (aY (wn Z) Z Z H0 (fun b1 w1 e1 g1 H1=>bG (wn Z) Z zeroValue36 H1 (fun b2 w2 e2 g2 H2=>aa (ac (ab (sV Z (ak aW Z cH Z Z (At.whole (H2.box 0 Z))) (sM Z Z (sE func97 rq Z (gj (by assumption) (H2.sees 0 Z) (H2.sees 1 Z) (H2.sees 2 Z) (by first | assumption | omega)) H2 (fun w3 e3 H3=>sA Z Z (aa (ab (sR 2 Z (aa (au Z (fun c1=>?_) (fun c1=>?_)))))))))))))))
 ·refine ab (sM Z Z (sV Z (bT dD Z Z) (ba (wn Z) dt Z Z Z Z H3 1 Z Z (fun w4 e4 H4=>?_))));dsimp only[lNA,lCA,lSZ,lSS,aL] at H4;refine aa (bH (hQ _ _ (db results34 Z (aI fe Z dt Z (At.whole (H4.box 1 Z))) ?_)))
  by_cases q:upF z=0
  ·have aq:bg nm≠0:=by have:=c1; rwa [if_pos q] at this
   rw [ax,qk q aq,if_pos q];exact ⟨H4.ext,none,0,none,0,none,0,Z,ga (by unfold I64ok; have:=mA (nm:=nm); (try dsimp only); omega)⟩
  ·rw [ax,ms q,if_neg q];exact ⟨H4.ext,none,0,none,0,none,0,Z,ga (by unfold I64ok; have:=nO (z:=z); (try dsimp only); omega)⟩
 ·refine aj (ac ?_);have hu:upF z=0:=by
   by_cases q:upF z=0
   ·exact q
   ·have:=c1; rw [if_neg q] at this; omega
  obtain ⟨hwf,hdn⟩:=jH hu;obtain ⟨hs,hG,hO⟩:=cC hwf;have hT:=(cC hwf).2.2.2.1;obtain ⟨hw0,hw1,_,_⟩:=ff hwf;have hrl:=mJ hwf;have hrl2:=kN hwf;have hq:=gm hwf;have aq:bg nm=0:=by have:=c1; rw [if_pos hu] at this; omega
  refine an (sV Z (ak aW Z cH Z Z (At.whole (H3.box 0 Z))) (sC func68 rz Z (gu (by assumption) (H3.sees 0 Z) (H3.sees 1 Z) (H3.sees 2 Z) (by first | assumption | omega)) (fun v2 w5 r2=>?_)));obtain ⟨e5,sa1,sk1,sa2,sk2,sa3,sk3,rfl,r2⟩:=r2;obtain ⟨fp1,H5⟩:=H3.res e5 r2;obtain ⟨sf1,sf2,sf3,sq1,sok1,so1,so2,so3⟩:=dX (H5.mine 2 Z);have H6:=H5.part 2 Z [mine [.slice _ z.Groups.length _] z.Groups sf1,mine [.slice _ z.On.length _] z.On sf2,mine [.slice _ z.Tapes.length _] z.Tapes sf3] (ae so1 (ae so2 (ae so3 (by simp)))) (by simp [blocks,mine,sq1])
  try dsimp only[lNA,lCA,lSZ,lSS] at H6
  refine bG (wn Z) Z zeroValue34 H6 (fun b3 w6 e6 g3 H7=>ba (wn Z) cH Z Z Z Z H7 6 Z Z (fun w7 e7 H8=>?_));dsimp only[lNA,lCA,lSZ,lSS,aL] at H8;refine aa (ab (sM Z Z ?_));obtain ⟨fp2,H9⟩:=H8.closeW 6 3 4 5 z Z Z Z Z Z Z Z Z Z Z zK
  try dsimp only[lNA,lCA,lSZ,lSS] at H9
  refine sC func98 qW Z (eT (H9.wldAt 6 Z) (H9.nodup1 (i:=6) Z) (by first | assumption | omega) (by first | assumption | omega) (by first | assumption | omega) (by first | assumption | omega) (by first | assumption | omega)) (fun v3 w8 r3=>?_);obtain ⟨rfl,mm1⟩:=r3;obtain ⟨fp3,H10⟩:=H9.mutW 6 Z mm1
  try dsimp only[lNA,lCA,lSZ,lSS] at H10
  refine sA Z Z (aa (ac ?_));obtain ⟨wA1,wC1,wA2,wC2,wA3,wC3,wf1,wf2,wf3,wok1,H11⟩:=H10.openW 6 Z
  try dsimp only[lNA,lCA,lSZ,lSS] at H11
  have wok1U:=wok1;unfold Wld.Ok Shape.Ok I64ok at wok1U;have wL1:=oL (H11.mine 8 Z);have wL2:=oL (H11.mine 9 Z);have wL3:=oL (H11.mine 10 Z);refine an (sV Z (ak aW Z cH Z Z (At.whole (H11.box 6 Z))) (sM Z Z (sE func70 qM Z (kD (by assumption) (H11.msees 8 Z) (H11.msees 9 Z) (H11.msees 10 Z) (by first | assumption | omega)) H11 (fun w9 e9 H12=>ba (wn Z) dt Z Z Z Z H12 1 Z Z (fun w10 e10 H13=>?_)))));dsimp only[lNA,lCA,lSZ,lSS,aL] at H13;refine aa (bH (hQ _ _ (db results34 Z (aI fe Z dt Z (At.whole (H13.box 1 Z))) ?_)));rw [ax,wz hu aq hc];exact ⟨H13.ext,none,0,none,0,none,0,Z,ga (by unfold I64ok; have:=pX (z:=z) (nm:=nm); (try dsimp only); omega)⟩
theorem jR {w:World}{z:Wld}{zA9 zA10 zA11:Option Addr}{zC9 zC10 zC11:Nat}{nm:ByteArray}(zK:z.Ok) (zS9:Sees w [.slice zA9 z.Groups.length zC9] z.Groups) (zS10:Sees w [.slice zA10 z.On.length zC10] z.On) (zS11:Sees w [.slice zA11 z.Tapes.length zC11] z.Tapes) (hb:ev z≤1048576) (hnm:nm.size≤1048576) (hc:drC z nm=0∨drC z nm=9):Ret Tryz.prog 34 #[z.val zA9 zC9 zA10 zC10 zA11 zC11,.string nm] w fun v w'=>Ext No w w'∧(∃ A10 C10 A11 C11 A12 C12,v=(ax z nm).val A10 C10 A11 C11 A12 C12∧Res w w' [.int .i64 (ax z nm).Code,.int .i64 (ax z nm).Wd.Shape.Groups,.int .i64 (ax z nm).Wd.Shape.Column,.int .i64 (ax z nm).Wd.Shape.Data,.int .i64 (ax z nm).Wd.Shape.Spare,.int .i64 (ax z nm).Wd.Shape.Rows,.int .i64 (ax z nm).Wd.Shape.Cap,.int .i64 (ax z nm).Wd.Shape.Batch,.int .i64 (ax z nm).Wd.Shape.Queue,.int .i64 (ax z nm).Wd.Shape.Stage,.slice A10 (ax z nm).Wd.Groups.length C10,.slice A11 (ax z nm).Wd.On.length C11,.slice A12 (ax z nm).Wd.Tapes.length C12,.int .i64 (ax z nm).Wd.Writes,.int .i64 (ax z nm).Wd.Stop,.bool (ax z nm).Wd.Down] (ax z nm)):=by
 have zK2:=zK;unfold Wld.Ok Shape.Ok at zK2
 try unfold I64ok at zK2
 try unfold maxLen at zK2
 have zL9:=sL zS9;obtain ⟨zF9,zO9⟩:=zS9;have zL10:=sL zS10;obtain ⟨zF10,zO10⟩:=zS10;have zL11:=sL zS11;obtain ⟨zF11,zO11⟩:=zS11;refine aF (vs:=[z.val zA9 zC9 zA10 zC10 zA11 zC11,.string nm]) func34 Z ntmps34 Z (fun Q hQ hN=>?_);have H0:=Sep.start (w:=w) (F:=[seen false [.slice zA9 z.Groups.length zC9] z.Groups zF9,seen false [.slice zA10 z.On.length zC10] z.On zF10,seen false [.slice zA11 z.Tapes.length zC11] z.Tapes zF11]) (ae zO9 (ae zO10 (ae zO11 (by simp))));refine ab (aY (wn Z) Z Z H0 (fun b1 w1 e1 g1 H1=>bG (wn Z) Z zeroValue36 H1 (fun b2 w2 e2 g2 H2=>aa (ac (ab (sV Z (ak aW Z cH Z Z (At.whole (H2.box 0 Z))) (sM Z Z (sE func97 rq Z (gj (by assumption) (H2.sees 0 Z) (H2.sees 1 Z) (H2.sees 2 Z) (by first | assumption | omega)) H2 (fun w3 e3 H3=>sA Z Z (aa (ab (sR 2 Z (aa (au Z (fun c1=>?_) (fun c1=>?_)))))))))))))))
 ·refine ab (sM Z Z (sV Z (bT dD Z Z) (ba (wn Z) dt Z Z Z Z H3 1 Z Z (fun w4 e4 H4=>?_))));dsimp only[lNA,lCA,lSZ,lSS,aL] at H4;refine aa (bH (hQ _ _ (db results34 Z (aI fe Z dt Z (At.whole (H4.box 1 Z))) ?_)))
  by_cases q:upF z=0
  ·have aq:bg nm≠0:=by have:=c1; rwa [if_pos q] at this
   rw [ax,qk q aq,if_pos q];exact ⟨H4.ext,none,0,none,0,none,0,Z,ga (by unfold I64ok; have:=mA (nm:=nm); (try dsimp only); omega)⟩
  ·rw [ax,ms q,if_neg q];exact ⟨H4.ext,none,0,none,0,none,0,Z,ga (by unfold I64ok; have:=nO (z:=z); (try dsimp only); omega)⟩
 ·refine aj (ac ?_);have hu:upF z=0:=by
   by_cases q:upF z=0
   ·exact q
   ·have:=c1; rw [if_neg q] at this; omega
  obtain ⟨hwf,hdn⟩:=jH hu;obtain ⟨hs,hG,hO⟩:=cC hwf;have hT:=(cC hwf).2.2.2.1;obtain ⟨hw0,hw1,_,_⟩:=ff hwf;have hrl:=mJ hwf;have hrl2:=kN hwf;have hq:=gm hwf;have aq:bg nm=0:=by have:=c1; rw [if_pos hu] at this; omega
  refine an (sV Z (ak aW Z cH Z Z (At.whole (H3.box 0 Z))) (sC func68 rz Z (gu (by assumption) (H3.sees 0 Z) (H3.sees 1 Z) (H3.sees 2 Z) (by first | assumption | omega)) (fun v2 w5 r2=>?_)));obtain ⟨e5,sa1,sk1,sa2,sk2,sa3,sk3,rfl,r2⟩:=r2;obtain ⟨fp1,H5⟩:=H3.res e5 r2;obtain ⟨sf1,sf2,sf3,sq1,sok1,so1,so2,so3⟩:=dX (H5.mine 2 Z);have H6:=H5.part 2 Z [mine [.slice _ z.Groups.length _] z.Groups sf1,mine [.slice _ z.On.length _] z.On sf2,mine [.slice _ z.Tapes.length _] z.Tapes sf3] (ae so1 (ae so2 (ae so3 (by simp)))) (by simp [blocks,mine,sq1])
  try dsimp only[lNA,lCA,lSZ,lSS] at H6
  refine bG (wn Z) Z zeroValue34 H6 (fun b3 w6 e6 g3 H7=>ba (wn Z) cH Z Z Z Z H7 6 Z Z (fun w7 e7 H8=>?_));dsimp only[lNA,lCA,lSZ,lSS,aL] at H8;refine aa (ab (sM Z Z ?_));obtain ⟨fp2,H9⟩:=H8.closeW 6 3 4 5 z Z Z Z Z Z Z Z Z Z Z zK
  try dsimp only[lNA,lCA,lSZ,lSS] at H9
  refine sC func98 qW Z (eT (H9.wldAt 6 Z) (H9.nodup1 (i:=6) Z) (by first | assumption | omega) (by first | assumption | omega) (by first | assumption | omega) (by first | assumption | omega) (by first | assumption | omega)) (fun v3 w8 r3=>?_);obtain ⟨rfl,mm1⟩:=r3;obtain ⟨fp3,H10⟩:=H9.mutW 6 Z mm1
  try dsimp only[lNA,lCA,lSZ,lSS] at H10
  refine sA Z Z (aa (ac ?_));obtain ⟨wA1,wC1,wA2,wC2,wA3,wC3,wf1,wf2,wf3,wok1,H11⟩:=H10.openW 6 Z
  try dsimp only[lNA,lCA,lSZ,lSS] at H11
  have wok1U:=wok1;unfold Wld.Ok Shape.Ok I64ok at wok1U;have wL1:=oL (H11.mine 8 Z);have wL2:=oL (H11.mine 9 Z);have wL3:=oL (H11.mine 10 Z);refine an (sV Z (ak aW Z cH Z Z (At.whole (H11.box 6 Z))) (sM Z Z (sE func70 qM Z (jP (by assumption) (H11.msees 8 Z) (H11.msees 9 Z) (H11.msees 10 Z) (by first | assumption | (split<;>simp))) H11 (fun w9 e9 H12=>ba (wn Z) dt Z Z Z Z H12 1 Z Z (fun w10 e10 H13=>?_)))));dsimp only[lNA,lCA,lSZ,lSS,aL] at H13;refine aa (bH (hQ _ _ (db results34 Z (aI fe Z dt Z (At.whole (H13.box 1 Z))) ?_)));rw [ax,wv hu aq hc];exact ⟨H13.ext,_,_,_,_,_,_,Z,WldResult.out (x:=⟨drC z nm,drZ z nm⟩) (H13.sub (.cons _ (.cons _ (.cons _ (.cons _ (.cons _ (.cons _ (.cons _ (.cons _ (.cons_cons _ (.cons_cons _ (.cons_cons _ List.Sublist.slnil)))))))))))) ⟨(by have:=pX (z:=z) (nm:=nm); show I64ok (drC z nm); unfold I64ok; omega),(by assumption)⟩⟩
theorem gP {w:World}{z:Wld}{zA9 zA10 zA11:Option Addr}{zC9 zC10 zC11:Nat}{nm:ByteArray}(zK:z.Ok) (zS9:Sees w [.slice zA9 z.Groups.length zC9] z.Groups) (zS10:Sees w [.slice zA10 z.On.length zC10] z.On) (zS11:Sees w [.slice zA11 z.Tapes.length zC11] z.Tapes) (hb:ev z≤1048576) (hnm:nm.size≤1048576):Ret Tryz.prog 34 #[z.val zA9 zC9 zA10 zC10 zA11 zC11,.string nm] w fun v w'=>Ext No w w'∧(∃ A10 C10 A11 C11 A12 C12,v=(ax z nm).val A10 C10 A11 C11 A12 C12∧Res w w' [.int .i64 (ax z nm).Code,.int .i64 (ax z nm).Wd.Shape.Groups,.int .i64 (ax z nm).Wd.Shape.Column,.int .i64 (ax z nm).Wd.Shape.Data,.int .i64 (ax z nm).Wd.Shape.Spare,.int .i64 (ax z nm).Wd.Shape.Rows,.int .i64 (ax z nm).Wd.Shape.Cap,.int .i64 (ax z nm).Wd.Shape.Batch,.int .i64 (ax z nm).Wd.Shape.Queue,.int .i64 (ax z nm).Wd.Shape.Stage,.slice A10 (ax z nm).Wd.Groups.length C10,.slice A11 (ax z nm).Wd.On.length C11,.slice A12 (ax z nm).Wd.Tapes.length C12,.int .i64 (ax z nm).Wd.Writes,.int .i64 (ax z nm).Wd.Stop,.bool (ax z nm).Wd.Down] (ax z nm)):=by
 by_cases h2:drC z nm=0∨drC z nm=9
 ·exact jR zK zS9 zS10 zS11 hb hnm h2
 ·exact iZ zK zS9 zS10 zS11 hb hnm (by omega)
theorem gS {w:World}{z:Wld}{zA9 zA10 zA11:Option Addr}{zC9 zC10 zC11:Nat}{nm:ByteArray}(zK:z.Ok) (zS9:Sees w [.slice zA9 z.Groups.length zC9] z.Groups) (zS10:Sees w [.slice zA10 z.On.length zC10] z.On) (zS11:Sees w [.slice zA11 z.Tapes.length zC11] z.Tapes) (hb:ev z≤1048576) (hnm:nm.size≤1048576) (aq:bg nm=0) (hc:drC z nm≠0∧drC z nm≠9):Ret Tryz.prog 33 #[z.val zA9 zC9 zA10 zC10 zA11 zC11,.string nm] w fun v w'=>Ext No w w'∧(∃ A10 C10 A11 C11 A12 C12,v=(ax z nm).val A10 C10 A11 C11 A12 C12∧Res w w' [.int .i64 (ax z nm).Code,.int .i64 (ax z nm).Wd.Shape.Groups,.int .i64 (ax z nm).Wd.Shape.Column,.int .i64 (ax z nm).Wd.Shape.Data,.int .i64 (ax z nm).Wd.Shape.Spare,.int .i64 (ax z nm).Wd.Shape.Rows,.int .i64 (ax z nm).Wd.Shape.Cap,.int .i64 (ax z nm).Wd.Shape.Batch,.int .i64 (ax z nm).Wd.Shape.Queue,.int .i64 (ax z nm).Wd.Shape.Stage,.slice A10 (ax z nm).Wd.Groups.length C10,.slice A11 (ax z nm).Wd.On.length C11,.slice A12 (ax z nm).Wd.Tapes.length C12,.int .i64 (ax z nm).Wd.Writes,.int .i64 (ax z nm).Wd.Stop,.bool (ax z nm).Wd.Down] (ax z nm)):=by
 have zK2:=zK;unfold Wld.Ok Shape.Ok at zK2
 try unfold I64ok at zK2
 try unfold maxLen at zK2
 have zL9:=sL zS9;obtain ⟨zF9,zO9⟩:=zS9;have zL10:=sL zS10;obtain ⟨zF10,zO10⟩:=zS10;have zL11:=sL zS11;obtain ⟨zF11,zO11⟩:=zS11;refine aF (vs:=[z.val zA9 zC9 zA10 zC10 zA11 zC11,.string nm]) func33 Z ntmps33 Z (fun Q hQ hN=>?_);have H0:=Sep.start (w:=w) (F:=[seen false [.slice zA9 z.Groups.length zC9] z.Groups zF9,seen false [.slice zA10 z.On.length zC10] z.On zF10,seen false [.slice zA11 z.Tapes.length zC11] z.Tapes zF11]) (ae zO9 (ae zO10 (ae zO11 (by simp))));refine ab (aY (wn Z) Z Z H0 (fun b1 w1 e1 g1 H1=>bG (wn Z) Z zeroValue36 H1 (fun b2 w2 e2 g2 H2=>aa (ac (ab (sV Z (ak aW Z cH Z Z (At.whole (H2.box 0 Z))) (sE func79 ns Z (fz (by assumption) (H2.sees 0 Z) (H2.sees 1 Z) (H2.sees 2 Z)) H2 (fun w3 e3 H3=>sA Z Z (aa (ab (sR 2 Z (aa (au Z (fun c1=>?_) (fun c1=>?_))))))))))))))
 ·refine ab (sM Z Z (sV Z (bT dD Z Z) (ba (wn Z) dt Z Z Z Z H3 1 Z Z (fun w4 e4 H4=>?_))));dsimp only[lNA,lCA,lSZ,lSS,aL] at H4;refine aa (bH (hQ _ _ (db results33 Z (aI fe Z dt Z (At.whole (H4.box 1 Z))) ?_)));rw [ax,ms (by omega)];exact ⟨H4.ext,none,0,none,0,none,0,Z,ga (by unfold I64ok; have:=nO (z:=z); (try dsimp only); omega)⟩
 ·refine aj (ac ?_);have hu:upF z=0:=by omega
  obtain ⟨hwf,hdn⟩:=jH hu;obtain ⟨hs,hG,hO⟩:=cC hwf;have hT:=(cC hwf).2.2.2.1;obtain ⟨hw0,hw1,_,_⟩:=ff hwf;have hrl:=mJ hwf;have hrl2:=kN hwf;have hq:=gm hwf;refine an (sV Z (ak aW Z cH Z Z (At.whole (H3.box 0 Z))) (sC func59 nF Z (fT (by assumption) (H3.sees 0 Z) (H3.sees 1 Z) (H3.sees 2 Z) (by first | assumption | omega)) (fun v2 w5 r2=>?_)));obtain ⟨e5,sa1,sk1,sa2,sk2,sa3,sk3,rfl,r2⟩:=r2;obtain ⟨fp1,H5⟩:=H3.res e5 r2;obtain ⟨sf1,sf2,sf3,sq1,sok1,so1,so2,so3⟩:=dX (H5.mine 2 Z);have H6:=H5.part 2 Z [mine [.slice _ z.Groups.length _] z.Groups sf1,mine [.slice _ z.On.length _] z.On sf2,mine [.slice _ z.Tapes.length _] z.Tapes sf3] (ae so1 (ae so2 (ae so3 (by simp)))) (by simp [blocks,mine,sq1])
  try dsimp only[lNA,lCA,lSZ,lSS] at H6
  refine bG (wn Z) Z zeroValue34 H6 (fun b3 w6 e6 g3 H7=>ba (wn Z) cH Z Z Z Z H7 6 Z Z (fun w7 e7 H8=>?_));dsimp only[lNA,lCA,lSZ,lSS,aL] at H8;refine aa (ab (sM Z Z ?_));obtain ⟨fp2,H9⟩:=H8.closeW 6 3 4 5 z Z Z Z Z Z Z Z Z Z Z zK
  try dsimp only[lNA,lCA,lSZ,lSS] at H9
  refine sC func96 nJ Z (kp (H9.wldAt 6 Z) (H9.nodup1 (i:=6) Z) (by first | assumption | omega) (by first | assumption | omega) (by first | assumption | omega) (by first | assumption | omega) (by first | assumption | omega) (by first | assumption | omega) (by first | assumption | omega) (by first | assumption | omega) (by first | assumption | omega)) (fun v3 w8 r3=>?_);obtain ⟨rfl,mm1⟩:=r3;obtain ⟨fp3,H10⟩:=H9.mutW 6 Z mm1
  try dsimp only[lNA,lCA,lSZ,lSS] at H10
  refine sA Z Z (aa (ac ?_));obtain ⟨wA1,wC1,wA2,wC2,wA3,wC3,wf1,wf2,wf3,wok1,H11⟩:=H10.openW 6 Z
  try dsimp only[lNA,lCA,lSZ,lSS] at H11
  have wok1U:=wok1;unfold Wld.Ok Shape.Ok I64ok at wok1U;have wL1:=oL (H11.mine 8 Z);have wL2:=oL (H11.mine 9 Z);have wL3:=oL (H11.mine 10 Z);refine an (sV Z (ak aW Z cH Z Z (At.whole (H11.box 6 Z))) (sM Z Z (sE func61 nh Z (lq (by assumption) (H11.msees 8 Z) (H11.msees 9 Z) (H11.msees 10 Z) (by first | assumption | omega)) H11 (fun w9 e9 H12=>ba (wn Z) dt Z Z Z Z H12 1 Z Z (fun w10 e10 H13=>?_)))));dsimp only[lNA,lCA,lSZ,lSS,aL] at H13;refine aa (bH (hQ _ _ (db results33 Z (aI fe Z dt Z (At.whole (H13.box 1 Z))) ?_)));rw [ax,wz hu aq hc];exact ⟨H13.ext,none,0,none,0,none,0,Z,ga (by unfold I64ok; have:=pX (z:=z) (nm:=nm); (try dsimp only); omega)⟩
theorem iK {w:World}{z:Wld}{zA9 zA10 zA11:Option Addr}{zC9 zC10 zC11:Nat}{nm:ByteArray}(zK:z.Ok) (zS9:Sees w [.slice zA9 z.Groups.length zC9] z.Groups) (zS10:Sees w [.slice zA10 z.On.length zC10] z.On) (zS11:Sees w [.slice zA11 z.Tapes.length zC11] z.Tapes) (hb:ev z≤1048576) (hnm:nm.size≤1048576) (aq:bg nm=0) (hc:drC z nm=0∨drC z nm=9):Ret Tryz.prog 33 #[z.val zA9 zC9 zA10 zC10 zA11 zC11,.string nm] w fun v w'=>Ext No w w'∧(∃ A10 C10 A11 C11 A12 C12,v=(ax z nm).val A10 C10 A11 C11 A12 C12∧Res w w' [.int .i64 (ax z nm).Code,.int .i64 (ax z nm).Wd.Shape.Groups,.int .i64 (ax z nm).Wd.Shape.Column,.int .i64 (ax z nm).Wd.Shape.Data,.int .i64 (ax z nm).Wd.Shape.Spare,.int .i64 (ax z nm).Wd.Shape.Rows,.int .i64 (ax z nm).Wd.Shape.Cap,.int .i64 (ax z nm).Wd.Shape.Batch,.int .i64 (ax z nm).Wd.Shape.Queue,.int .i64 (ax z nm).Wd.Shape.Stage,.slice A10 (ax z nm).Wd.Groups.length C10,.slice A11 (ax z nm).Wd.On.length C11,.slice A12 (ax z nm).Wd.Tapes.length C12,.int .i64 (ax z nm).Wd.Writes,.int .i64 (ax z nm).Wd.Stop,.bool (ax z nm).Wd.Down] (ax z nm)):=by
 have zK2:=zK;unfold Wld.Ok Shape.Ok at zK2
 try unfold I64ok at zK2
 try unfold maxLen at zK2
 have zL9:=sL zS9;obtain ⟨zF9,zO9⟩:=zS9;have zL10:=sL zS10;obtain ⟨zF10,zO10⟩:=zS10;have zL11:=sL zS11;obtain ⟨zF11,zO11⟩:=zS11;refine aF (vs:=[z.val zA9 zC9 zA10 zC10 zA11 zC11,.string nm]) func33 Z ntmps33 Z (fun Q hQ hN=>?_);have H0:=Sep.start (w:=w) (F:=[seen false [.slice zA9 z.Groups.length zC9] z.Groups zF9,seen false [.slice zA10 z.On.length zC10] z.On zF10,seen false [.slice zA11 z.Tapes.length zC11] z.Tapes zF11]) (ae zO9 (ae zO10 (ae zO11 (by simp))));refine ab (aY (wn Z) Z Z H0 (fun b1 w1 e1 g1 H1=>bG (wn Z) Z zeroValue36 H1 (fun b2 w2 e2 g2 H2=>aa (ac (ab (sV Z (ak aW Z cH Z Z (At.whole (H2.box 0 Z))) (sE func79 ns Z (fz (by assumption) (H2.sees 0 Z) (H2.sees 1 Z) (H2.sees 2 Z)) H2 (fun w3 e3 H3=>sA Z Z (aa (ab (sR 2 Z (aa (au Z (fun c1=>?_) (fun c1=>?_))))))))))))))
 ·refine ab (sM Z Z (sV Z (bT dD Z Z) (ba (wn Z) dt Z Z Z Z H3 1 Z Z (fun w4 e4 H4=>?_))));dsimp only[lNA,lCA,lSZ,lSS,aL] at H4;refine aa (bH (hQ _ _ (db results33 Z (aI fe Z dt Z (At.whole (H4.box 1 Z))) ?_)));rw [ax,ms (by omega)];exact ⟨H4.ext,none,0,none,0,none,0,Z,ga (by unfold I64ok; have:=nO (z:=z); (try dsimp only); omega)⟩
 ·refine aj (ac ?_);have hu:upF z=0:=by omega
  obtain ⟨hwf,hdn⟩:=jH hu;obtain ⟨hs,hG,hO⟩:=cC hwf;have hT:=(cC hwf).2.2.2.1;obtain ⟨hw0,hw1,_,_⟩:=ff hwf;have hrl:=mJ hwf;have hrl2:=kN hwf;have hq:=gm hwf;refine an (sV Z (ak aW Z cH Z Z (At.whole (H3.box 0 Z))) (sC func59 nF Z (fT (by assumption) (H3.sees 0 Z) (H3.sees 1 Z) (H3.sees 2 Z) (by first | assumption | omega)) (fun v2 w5 r2=>?_)));obtain ⟨e5,sa1,sk1,sa2,sk2,sa3,sk3,rfl,r2⟩:=r2;obtain ⟨fp1,H5⟩:=H3.res e5 r2;obtain ⟨sf1,sf2,sf3,sq1,sok1,so1,so2,so3⟩:=dX (H5.mine 2 Z);have H6:=H5.part 2 Z [mine [.slice _ z.Groups.length _] z.Groups sf1,mine [.slice _ z.On.length _] z.On sf2,mine [.slice _ z.Tapes.length _] z.Tapes sf3] (ae so1 (ae so2 (ae so3 (by simp)))) (by simp [blocks,mine,sq1])
  try dsimp only[lNA,lCA,lSZ,lSS] at H6
  refine bG (wn Z) Z zeroValue34 H6 (fun b3 w6 e6 g3 H7=>ba (wn Z) cH Z Z Z Z H7 6 Z Z (fun w7 e7 H8=>?_));dsimp only[lNA,lCA,lSZ,lSS,aL] at H8;refine aa (ab (sM Z Z ?_));obtain ⟨fp2,H9⟩:=H8.closeW 6 3 4 5 z Z Z Z Z Z Z Z Z Z Z zK
  try dsimp only[lNA,lCA,lSZ,lSS] at H9
  refine sC func96 nJ Z (kp (H9.wldAt 6 Z) (H9.nodup1 (i:=6) Z) (by first | assumption | omega) (by first | assumption | omega) (by first | assumption | omega) (by first | assumption | omega) (by first | assumption | omega) (by first | assumption | omega) (by first | assumption | omega) (by first | assumption | omega) (by first | assumption | omega)) (fun v3 w8 r3=>?_);obtain ⟨rfl,mm1⟩:=r3;obtain ⟨fp3,H10⟩:=H9.mutW 6 Z mm1
  try dsimp only[lNA,lCA,lSZ,lSS] at H10
  refine sA Z Z (aa (ac ?_));obtain ⟨wA1,wC1,wA2,wC2,wA3,wC3,wf1,wf2,wf3,wok1,H11⟩:=H10.openW 6 Z
  try dsimp only[lNA,lCA,lSZ,lSS] at H11
  have wok1U:=wok1;unfold Wld.Ok Shape.Ok I64ok at wok1U;have wL1:=oL (H11.mine 8 Z);have wL2:=oL (H11.mine 9 Z);have wL3:=oL (H11.mine 10 Z);refine an (sV Z (ak aW Z cH Z Z (At.whole (H11.box 6 Z))) (sM Z Z (sE func61 nh Z (pI (by assumption) (H11.msees 8 Z) (H11.msees 9 Z) (H11.msees 10 Z) (by first | assumption | (split<;>simp))) H11 (fun w9 e9 H12=>ba (wn Z) dt Z Z Z Z H12 1 Z Z (fun w10 e10 H13=>?_)))));dsimp only[lNA,lCA,lSZ,lSS,aL] at H13;refine aa (bH (hQ _ _ (db results33 Z (aI fe Z dt Z (At.whole (H13.box 1 Z))) ?_)));rw [ax,wv hu aq hc];exact ⟨H13.ext,_,_,_,_,_,_,Z,WldResult.out (x:=⟨drC z nm,drZ z nm⟩) (H13.sub (.cons _ (.cons _ (.cons _ (.cons _ (.cons _ (.cons _ (.cons _ (.cons _ (.cons_cons _ (.cons_cons _ (.cons_cons _ List.Sublist.slnil)))))))))))) ⟨(by have:=pX (z:=z) (nm:=nm); show I64ok (drC z nm); unfold I64ok; omega),(by assumption)⟩⟩
theorem jU {w:World}{z:Wld}{zA9 zA10 zA11:Option Addr}{zC9 zC10 zC11:Nat}{nm:ByteArray}(zK:z.Ok) (zS9:Sees w [.slice zA9 z.Groups.length zC9] z.Groups) (zS10:Sees w [.slice zA10 z.On.length zC10] z.On) (zS11:Sees w [.slice zA11 z.Tapes.length zC11] z.Tapes) (hb:ev z≤1048576) (hnm:nm.size≤1048576) (aq:bg nm=0):Ret Tryz.prog 33 #[z.val zA9 zC9 zA10 zC10 zA11 zC11,.string nm] w fun v w'=>Ext No w w'∧(∃ A10 C10 A11 C11 A12 C12,v=(ax z nm).val A10 C10 A11 C11 A12 C12∧Res w w' [.int .i64 (ax z nm).Code,.int .i64 (ax z nm).Wd.Shape.Groups,.int .i64 (ax z nm).Wd.Shape.Column,.int .i64 (ax z nm).Wd.Shape.Data,.int .i64 (ax z nm).Wd.Shape.Spare,.int .i64 (ax z nm).Wd.Shape.Rows,.int .i64 (ax z nm).Wd.Shape.Cap,.int .i64 (ax z nm).Wd.Shape.Batch,.int .i64 (ax z nm).Wd.Shape.Queue,.int .i64 (ax z nm).Wd.Shape.Stage,.slice A10 (ax z nm).Wd.Groups.length C10,.slice A11 (ax z nm).Wd.On.length C11,.slice A12 (ax z nm).Wd.Tapes.length C12,.int .i64 (ax z nm).Wd.Writes,.int .i64 (ax z nm).Wd.Stop,.bool (ax z nm).Wd.Down] (ax z nm)):=by
 by_cases h2:drC z nm=0∨drC z nm=9
 ·exact iK zK zS9 zS10 zS11 hb hnm aq h2
 ·exact gS zK zS9 zS10 zS11 hb hnm aq (by omega)
theorem iN {w:World}{z:Wld}{zA9 zA10 zA11:Option Addr}{zC9 zC10 zC11:Nat}{nm:ByteArray}(zK:z.Ok) (zS9:Sees w [.slice zA9 z.Groups.length zC9] z.Groups) (zS10:Sees w [.slice zA10 z.On.length zC10] z.On) (zS11:Sees w [.slice zA11 z.Tapes.length zC11] z.Tapes) (hb:ev z≤1048576) (hnm:nm.size≤1048576) (nq:bg nm≠0):Ret Tryz.prog 33 #[z.val zA9 zC9 zA10 zC10 zA11 zC11,.string nm] w fun v w'=>Ext No w w'∧(∃ A10 C10 A11 C11 A12 C12,v=(ax z nm).val A10 C10 A11 C11 A12 C12∧Res w w' [.int .i64 (ax z nm).Code,.int .i64 (ax z nm).Wd.Shape.Groups,.int .i64 (ax z nm).Wd.Shape.Column,.int .i64 (ax z nm).Wd.Shape.Data,.int .i64 (ax z nm).Wd.Shape.Spare,.int .i64 (ax z nm).Wd.Shape.Rows,.int .i64 (ax z nm).Wd.Shape.Cap,.int .i64 (ax z nm).Wd.Shape.Batch,.int .i64 (ax z nm).Wd.Shape.Queue,.int .i64 (ax z nm).Wd.Shape.Stage,.slice A10 (ax z nm).Wd.Groups.length C10,.slice A11 (ax z nm).Wd.On.length C11,.slice A12 (ax z nm).Wd.Tapes.length C12,.int .i64 (ax z nm).Wd.Writes,.int .i64 (ax z nm).Wd.Stop,.bool (ax z nm).Wd.Down] (ax z nm)):=by
 have zK2:=zK;unfold Wld.Ok Shape.Ok at zK2
 try unfold I64ok at zK2
 try unfold maxLen at zK2
 have zL9:=sL zS9;obtain ⟨zF9,zO9⟩:=zS9;have zL10:=sL zS10;obtain ⟨zF10,zO10⟩:=zS10;have zL11:=sL zS11;obtain ⟨zF11,zO11⟩:=zS11;refine aF (vs:=[z.val zA9 zC9 zA10 zC10 zA11 zC11,.string nm]) func33 Z ntmps33 Z (fun Q hQ hN=>?_);have H0:=Sep.start (w:=w) (F:=[seen false [.slice zA9 z.Groups.length zC9] z.Groups zF9,seen false [.slice zA10 z.On.length zC10] z.On zF10,seen false [.slice zA11 z.Tapes.length zC11] z.Tapes zF11]) (ae zO9 (ae zO10 (ae zO11 (by simp))));refine ab (aY (wn Z) Z Z H0 (fun b1 w1 e1 g1 H1=>bG (wn Z) Z zeroValue36 H1 (fun b2 w2 e2 g2 H2=>aa (ac (ab (sV Z (ak aW Z cH Z Z (At.whole (H2.box 0 Z))) (sE func79 ns Z (fz (by assumption) (H2.sees 0 Z) (H2.sees 1 Z) (H2.sees 2 Z)) H2 (fun w3 e3 H3=>sA Z Z (aa (ab (sR 2 Z (aa (au Z (fun c1=>?_) (fun c1=>?_))))))))))))))
 ·refine ab (sM Z Z (sV Z (bT dD Z Z) (ba (wn Z) dt Z Z Z Z H3 1 Z Z (fun w4 e4 H4=>?_))));dsimp only[lNA,lCA,lSZ,lSS,aL] at H4;refine aa (bH (hQ _ _ (db results33 Z (aI fe Z dt Z (At.whole (H4.box 1 Z))) ?_)));rw [ax,ms (by omega)];exact ⟨H4.ext,none,0,none,0,none,0,Z,ga (by unfold I64ok; have:=nO (z:=z); (try dsimp only); omega)⟩
 ·refine aj (ac ?_);have hu:upF z=0:=by omega
  obtain ⟨hwf,hdn⟩:=jH hu;obtain ⟨hs,hG,hO⟩:=cC hwf;have hT:=(cC hwf).2.2.2.1;obtain ⟨hw0,hw1,_,_⟩:=ff hwf;have hrl:=mJ hwf;have hrl2:=kN hwf;have hq:=gm hwf;have n9:bg nm≠9:=by unfold bg; split<;>omega
  refine an (sV Z (ak aW Z cH Z Z (At.whole (H3.box 0 Z))) (sC func59 nF Z (fT (by assumption) (H3.sees 0 Z) (H3.sees 1 Z) (H3.sees 2 Z) (by first | assumption | omega)) (fun v2 w5 r2=>?_)));obtain ⟨e5,sa1,sk1,sa2,sk2,sa3,sk3,rfl,r2⟩:=r2;obtain ⟨fp1,H5⟩:=H3.res e5 r2;obtain ⟨sf1,sf2,sf3,sq1,sok1,so1,so2,so3⟩:=dX (H5.mine 2 Z);have H6:=H5.part 2 Z [mine [.slice _ z.Groups.length _] z.Groups sf1,mine [.slice _ z.On.length _] z.On sf2,mine [.slice _ z.Tapes.length _] z.Tapes sf3] (ae so1 (ae so2 (ae so3 (by simp)))) (by simp [blocks,mine,sq1])
  try dsimp only[lNA,lCA,lSZ,lSS] at H6
  refine bG (wn Z) Z zeroValue34 H6 (fun b3 w6 e6 g3 H7=>ba (wn Z) cH Z Z Z Z H7 6 Z Z (fun w7 e7 H8=>?_));dsimp only[lNA,lCA,lSZ,lSS,aL] at H8;refine aa (ab (sM Z Z ?_));obtain ⟨fp2,H9⟩:=H8.closeW 6 3 4 5 z Z Z Z Z Z Z Z Z Z Z zK
  try dsimp only[lNA,lCA,lSZ,lSS] at H9
  refine sC func96 nJ Z (nk (H9.wldAt 6 Z) (H9.nodup1 (i:=6) Z) (by first | assumption | omega) (by first | assumption | omega)) (fun v3 w8 r3=>?_);obtain ⟨rfl,mm1⟩:=r3;obtain ⟨fp3,H10⟩:=H9.mutW 6 Z mm1
  try dsimp only[lNA,lCA,lSZ,lSS] at H10
  refine sA Z Z (aa (ac ?_));obtain ⟨wA1,wC1,wA2,wC2,wA3,wC3,wf1,wf2,wf3,wok1,H11⟩:=H10.openW 6 Z
  try dsimp only[lNA,lCA,lSZ,lSS] at H11
  have wok1U:=wok1;unfold Wld.Ok Shape.Ok I64ok at wok1U;have wL1:=oL (H11.mine 8 Z);have wL2:=oL (H11.mine 9 Z);have wL3:=oL (H11.mine 10 Z);refine an (sV Z (ak aW Z cH Z Z (At.whole (H11.box 6 Z))) (sM Z Z (sE func61 nh Z (lq (by assumption) (H11.msees 8 Z) (H11.msees 9 Z) (H11.msees 10 Z) (by first | assumption | omega)) H11 (fun w9 e9 H12=>ba (wn Z) dt Z Z Z Z H12 1 Z Z (fun w10 e10 H13=>?_)))));dsimp only[lNA,lCA,lSZ,lSS,aL] at H13;refine aa (bH (hQ _ _ (db results33 Z (aI fe Z dt Z (At.whole (H13.box 1 Z))) ?_)));rw [ax,qk hu nq];exact ⟨H13.ext,none,0,none,0,none,0,Z,ga (by unfold I64ok; have:=mA (nm:=nm); (try dsimp only); omega)⟩
theorem l4 {w:World}{z:Wld}{zA9 zA10 zA11:Option Addr}{zC9 zC10 zC11:Nat}{nm:ByteArray}(zK:z.Ok) (zS9:Sees w [.slice zA9 z.Groups.length zC9] z.Groups) (zS10:Sees w [.slice zA10 z.On.length zC10] z.On) (zS11:Sees w [.slice zA11 z.Tapes.length zC11] z.Tapes) (hb:ev z≤1048576) (hnm:nm.size≤1048576):Ret Tryz.prog 33 #[z.val zA9 zC9 zA10 zC10 zA11 zC11,.string nm] w fun v w'=>Ext No w w'∧(∃ A10 C10 A11 C11 A12 C12,v=(ax z nm).val A10 C10 A11 C11 A12 C12∧Res w w' [.int .i64 (ax z nm).Code,.int .i64 (ax z nm).Wd.Shape.Groups,.int .i64 (ax z nm).Wd.Shape.Column,.int .i64 (ax z nm).Wd.Shape.Data,.int .i64 (ax z nm).Wd.Shape.Spare,.int .i64 (ax z nm).Wd.Shape.Rows,.int .i64 (ax z nm).Wd.Shape.Cap,.int .i64 (ax z nm).Wd.Shape.Batch,.int .i64 (ax z nm).Wd.Shape.Queue,.int .i64 (ax z nm).Wd.Shape.Stage,.slice A10 (ax z nm).Wd.Groups.length C10,.slice A11 (ax z nm).Wd.On.length C11,.slice A12 (ax z nm).Wd.Tapes.length C12,.int .i64 (ax z nm).Wd.Writes,.int .i64 (ax z nm).Wd.Stop,.bool (ax z nm).Wd.Down] (ax z nm)):=by
 by_cases aq:bg nm=0
 ·exact jU zK zS9 zS10 zS11 hb hnm aq
 ·exact iN zK zS9 zS10 zS11 hb hnm aq
end Go.Wk
namespace Go.Wk
open Go.Proofs Rp Go.Proofs.Tryz
set_option maxRecDepth 10000
set_option maxHeartbeats 2000000 in
theorem iq {w:World}{z:Wld}{zA9 zA10 zA11:Option Addr}{zC9 zC10 zC11:Nat}{nm:ByteArray}(zK:z.Ok) (zS9:Sees w [.slice zA9 z.Groups.length zC9] z.Groups) (zS10:Sees w [.slice zA10 z.On.length zC10] z.On) (zS11:Sees w [.slice zA11 z.Tapes.length zC11] z.Tapes):Ret Tryz.prog 7 #[z.val zA9 zC9 zA10 zC10 zA11 zC11,.string nm] w fun v w'=>Ext No w w'∧(v = .bool true):=by
 have zK2:=zK;unfold Wld.Ok Shape.Ok at zK2
 try unfold I64ok at zK2
 try unfold maxLen at zK2
 have zL9:=sL zS9;obtain ⟨zF9,zO9⟩:=zS9;have zL10:=sL zS10;obtain ⟨zF10,zO10⟩:=zS10;have zL11:=sL zS11;obtain ⟨zF11,zO11⟩:=zS11;refine aF (vs:=[z.val zA9 zC9 zA10 zC10 zA11 zC11,.string nm]) func7 Z ntmps7 Z (fun Q hQ hN=>?_);have H0:=Sep.start (w:=w) (F:=[seen false [.slice zA9 z.Groups.length zC9] z.Groups zF9,seen false [.slice zA10 z.On.length zC10] z.On zF10,seen false [.slice zA11 z.Tapes.length zC11] z.Tapes zF11]) (ae zO9 (ae zO10 (ae zO11 (by simp))));refine ab (aY (wn Z) Z Z H0 (fun b1 w1 e1 g1 H1=>sA Z Z (aa (ac (ab (sM Z Z (sV Z (jo tu9 Z) (sV Z (dm Z Z) (aa (au Z (fun c1=>?_) (fun c1=>?_)))))))))))
 ·refine ab (rA hQ results7 Z ?_);exact ⟨H1.ext,Z⟩
 ·refine aj (ab (sA Z Z (aa (ab (sV Z (ak mb Z yZ Z Z (At.whole (H1.box 0 Z))) (sM Z Z (sE func15 xg Z (mV (by assumption) (H1.sees 0 Z) (H1.sees 1 Z) (H1.sees 2 Z) (by omega)) H1 (fun w2 e2 H2=>sA Z Z (aa (ac (ab (sR 2 Z (aa (au Z (fun c2=>?_) (fun c2=>?_)))))))))))))))
  ·refine ab (rA hQ results7 Z ?_);exact ⟨H2.ext,Z⟩
  ·refine aj (ac ?_);have hsz:ev z≤1048576:=by omega
   have hmk:=xT z;have hml:=xE (z:=z) (nm:=nm) zK;have hOk:=xO (z:=z) (nm:=nm) zK;refine an (sV Z (ak mb Z yZ Z Z (At.whole (H2.box 0 Z))) (sC func17 kR Z (ep (by assumption) (H2.sees 0 Z) (H2.sees 1 Z) (H2.sees 2 Z) (by assumption)) (fun v2 w3 r2=>?_)));obtain ⟨e3,sa1,sk1,sa2,sk2,sa3,sk3,rfl,r2⟩:=r2;obtain ⟨fp1,H3⟩:=H2.res e3 r2;have H4:=H3.share 1 Z;obtain ⟨sf1,sf2,sf3,sq1,sok1,so1,so2,so3⟩:=dX (H4.seen 3 Z);have H6:=H4.look1 3 Z so1 (fun b hb=>by rw [sq1]; simp [hb]);have H7:=H6.look1 3 Z so2 (fun b hb=>by rw [sq1]; simp [hb]);have H8:=H7.look1 3 Z so3 (fun b hb=>by rw [sq1]; simp [hb]);refine sM Z Z (sC func33 wY Z (l4 (by assumption) (H8.sees 4 Z) (H8.sees 5 Z) (H8.sees 6 Z) (by first | assumption | omega) (by first | assumption | omega)) (fun v3 w4 r3=>?_));obtain ⟨e4,sa4,sk4,sa5,sk5,sa6,sk6,rfl,r3⟩:=r3;obtain ⟨fp2,H9⟩:=H8.res e4 r3;have H10:=H9.share 2 Z;obtain ⟨sf4,sf5,sf6,sq2,sok2,so4,so5,so6⟩:=dH (H10.seen 7 Z);have H12:=H10.look1 7 Z so4 (fun b hb=>by rw [sq2]; simp [hb]);have H13:=H12.look1 7 Z so5 (fun b hb=>by rw [sq2]; simp [hb]);have H14:=H13.look1 7 Z so6 (fun b hb=>by rw [sq2]; simp [hb]);refine bG (wn Z) Z zeroValue36 H14 (fun b2 w5 e5 g2 H15=>ba (wn Z) dt Z Z Z Z H15 3 Z Z (fun w6 e6 H16=>?_));dsimp only[lNA,lCA,lSZ,lSS,aL] at H16;refine aa (ab (sV Z (ak mb Z yZ Z Z (At.whole (H16.box 0 Z))) (sC func17 kR Z (ep (by assumption) (H16.sees 0 Z) (H16.sees 1 Z) (H16.sees 2 Z) (by assumption)) (fun v4 w7 r4=>?_))));obtain ⟨e7,sa7,sk7,sa8,sk8,sa9,sk9,rfl,r4⟩:=r4;obtain ⟨fp3,H17⟩:=H16.res e7 r4;refine bG (wn Z) Z zeroValue34 H17 (fun b3 w8 e8 g3 H18=>ba (wn Z) cH Z Z Z Z H18 5 Z Z (fun w9 e9 H19=>?_));dsimp only[lNA,lCA,lSZ,lSS,aL] at H19;refine aa (ab (sV Z (ak aW Z cH Z Z (At.whole (H19.box 5 Z))) (sM Z Z (sC func34 ro Z (gP (by assumption) (Wld.see9 (H19.mine 4 Z)) (Wld.see10 (H19.mine 4 Z)) (Wld.see11 (H19.mine 4 Z)) (by first | assumption | omega) (by first | assumption | omega)) (fun v5 w10 r5=>?_)))));obtain ⟨e10,sa10,sk10,sa11,sk11,sa12,sk12,rfl,r5⟩:=r5;obtain ⟨fp4,H20⟩:=H19.res e10 r5;refine bG (wn Z) Z zeroValue36 H20 (fun b4 w11 e11 g4 H21=>ba (wn Z) dt Z Z Z Z H21 7 Z Z (fun w12 e12 H22=>?_));dsimp only[lNA,lCA,lSZ,lSS,aL] at H22;refine aa (ac (ab (sV Z (ak fe Z dt Z Z (At.whole (H22.box 7 Z))) (sV Z (ak fe Z dt Z Z (At.whole (H22.box 3 Z))) (sE func19 nC Z (dB (by assumption) (WldResult.see10 (H22.mine 6 Z)) (WldResult.see11 (H22.mine 6 Z)) (WldResult.see12 (H22.mine 6 Z)) (by assumption) (H22.sees 8 Z) (H22.sees 9 Z) (H22.sees 10 Z)) H22 (fun w13 e13 H23=>sV Z (aX Z) (aa (bJ Z (fun c3=>?_) (fun c3=>?_)))))))))
   ·exfalso; simp_all
   ·refine aj (ac (ac (bE (S:=Ext No _) (oQ [1,3,4,6,8]) (by kernel_rfl) (by kernel_rfl) (by kernel_rfl) Z (fun _=>Ext.refl.drawn _) (fun q1=>?_))));have H24:=H23.drawn q1;refine dV Z Z (fun zw hx=>ak aW Z cH Z Z (At.whole (hx.heap (H24.box 5 Z)))) (dV Z Z (fun zw hx=>ak mb Z yZ Z Z (At.whole (hx.heap (H24.box 0 Z)))) (dC func17 kR Z (ep (by assumption) (H24.sees 0 Z) (H24.sees 1 Z) (H24.sees 2 Z) (by assumption)) (fun v7 w14 r7=>?_)));obtain ⟨e14,sa13,sk13,sa14,sk14,sa15,sk15,rfl,r7⟩:=r7;obtain ⟨fp5,H25⟩:=H24.res e14 r7;have H26:=H25.share 8 Z;obtain ⟨sf7,sf8,sf9,sq3,sok3,so7,so8,so9⟩:=dX (H26.seen 11 Z);have H28:=H26.look1 11 Z so7 (fun b hb=>by rw [sq3]; simp [hb]);have H29:=H28.look1 11 Z so8 (fun b hb=>by rw [sq3]; simp [hb]);have H30:=H29.look1 11 Z so9 (fun b hb=>by rw [sq3]; simp [hb]);refine dC func20 qZ Z (iu (by assumption) (Wld.see9 (H30.mine 4 Z)) (Wld.see10 (H30.mine 4 Z)) (Wld.see11 (H30.mine 4 Z)) (by assumption) (H30.sees 12 Z) (H30.sees 13 Z) (H30.sees 14 Z)) (fun v8 w15 r8=>?_);obtain ⟨e15,rfl⟩:=r8;have H31:=H30.to e15;refine aP Z (wn Z) Z Z (aX Z) (aT (bJ Z (fun c4=>?_) (fun c4=>?_)))
    ·exfalso; simp_all
    ·refine aj (ab (sA Z Z (aa (ab (sV Z (ak aW Z cH Z Z (At.whole (H31.box 5 Z))) (sM Z Z (sC func21 qH Z (gz (by assumption) (H31.mine 4 Z) (H31.nodup1 (i:=4) Z) (by constructor<;>omega)) (fun v9 w16 r9=>?_))))))));obtain ⟨rfl,mx1,mm1,ml1⟩:=r9;obtain ⟨fp6,H32⟩:=H31.mut 4 Z mm1
     try dsimp only[lNA,lCA,lSZ,lSS] at H32
     refine sA Z Z (aa (ac (ab (sR 3 Z (bC 4 (j:=2) (want:=false) (t:=48) Z Z Z Z (fun hg1 kk1=>am (wgE Z Z Z hg1) Z Z (ak fe Z dt Z Z (At.whole (H32.box 7 Z))) (am (wgE Z Z Z hg1) Z Z (ak fe Z dt Z Z (At.whole (H32.box 3 Z))) (co (wgE Z Z Z hg1) Z Z (aV func19 Z nC Z) (dB (by assumption) (WldResult.see10 (H32.mine 6 Z)) (WldResult.see11 (H32.mine 6 Z)) (WldResult.see12 (H32.mine 6 Z)) (by assumption) (H32.sees 8 Z) (H32.sees 9 Z) (H32.sees 10 Z)) (fun w18 e18=>am (wgE Z Z Z hg1) Z Z (aX Z) (kk1 _ _ (kx Z (kx Z (kx Z (kx Z k0)))) Z (Ext.refl.trans e18)))))) (fun w17 e17=>?_))))));have H33:=H32.to e17;refine sV Z (ei Z Z) (aa (bJ Z (fun c5=>?_) (fun c5=>?_)))
     ·exact absurd c5 (by simp; omega)
     ·refine aj (ab (sA Z Z (aa (ab (sV Z (ak fe Z dt Z Z (At.whole (H33.box 7 Z))) (sM Z Z (sC func22 xp Z (im (H33.mine 6 Z) (H33.nodup1 (i:=6) Z) (by constructor<;>omega)) (fun v10 w19 r10=>?_))))))));obtain ⟨rfl,mx2,mm2,ml2⟩:=r10;obtain ⟨fp7,H34⟩:=H33.mut 6 Z mm2
      try dsimp only[lNA,lCA,lSZ,lSS] at H34
      refine sA Z Z (aa (ab (sA Z Z (aa (ab (sV Z (ak fe Z dt Z Z (At.whole (H34.box 7 Z))) (sM Z Z (sE func23 rf Z (eG (x:=mx2) (nE (H34.mine 6 Z)).1 (nE (H34.mine 6 Z)).2.1 (nE (H34.mine 6 Z)).2.2 (by have:=ml2.2.2.2.1; constructor<;>omega) ml2.2.2.2.2.1) H34 (fun w20 e20 H35=>sA Z Z (aa (ac (ac ?_))))))))))));have hq:=ml2.2.2.2.1;refine an (sR 2 Z (aa (au Z (fun c6=>?_) (fun c6=>?_))))
      ·exact absurd c6 (by omega)
      ·refine aj (ac (ab (sR 3 Z (aa (au Z (fun c7=>?_) (fun c7=>?_))))))
       ·exact absurd c7 (by omega)
       ·refine aj (ab (sV Z (ak mb Z yZ Z Z (At.whole (H35.box 0 Z))) (sC func17 kR Z (ep (by assumption) (H35.sees 0 Z) (H35.sees 1 Z) (H35.sees 2 Z) (by assumption)) (fun v12 w21 r12=>?_))));obtain ⟨e21,sa16,sk16,sa17,sk17,sa18,sk18,rfl,r12⟩:=r12;obtain ⟨fp8,H36⟩:=H35.res e21 r12;have H37:=H36.share 9 Z;obtain ⟨sf10,sf11,sf12,sq4,sok4,so10,so11,so12⟩:=dX (H37.seen 15 Z);have H39:=H37.look1 15 Z so10 (fun b hb=>by rw [sq4]; simp [hb]);have H40:=H39.look1 15 Z so11 (fun b hb=>by rw [sq4]; simp [hb]);have H41:=H40.look1 15 Z so12 (fun b hb=>by rw [sq4]; simp [hb]);refine sM Z Z (sC func34 ro Z (gP (by assumption) (H41.sees 16 Z) (H41.sees 17 Z) (H41.sees 18 Z) (by first | assumption | omega) (by first | assumption | omega)) (fun v13 w22 r13=>?_));obtain ⟨e22,sa19,sk19,sa20,sk20,sa21,sk21,rfl,r13⟩:=r13;obtain ⟨fp9,H42⟩:=H41.res e22 r13;have H43:=H42.share 10 Z;obtain ⟨sf13,sf14,sf15,sq5,sok5,so13,so14,so15⟩:=dH (H43.seen 19 Z);have H45:=H43.look1 19 Z so13 (fun b hb=>by rw [sq5]; simp [hb]);have H46:=H45.look1 19 Z so14 (fun b hb=>by rw [sq5]; simp [hb]);have H47:=H46.look1 19 Z so15 (fun b hb=>by rw [sq5]; simp [hb]);refine bG (wn Z) Z zeroValue36 H47 (fun b5 w23 e23 g5 H48=>ba (wn Z) dt Z Z Z Z H48 11 Z Z (fun w24 e24 H49=>?_));dsimp only[lNA,lCA,lSZ,lSS,aL] at H49;refine aa (ac (ab (sV Z (ak fe Z dt Z Z (At.whole (H49.box 11 Z))) (sV Z (ak fe Z dt Z Z (At.whole (H49.box 3 Z))) (sE func19 nC Z (dB (by assumption) (H49.sees 20 Z) (H49.sees 21 Z) (H49.sees 22 Z) (by assumption) (H49.sees 8 Z) (H49.sees 9 Z) (H49.sees 10 Z)) H49 (fun w25 e25 H50=>sV Z (aX Z) (aa (bJ Z (fun c8=>?_) (fun c8=>?_)))))))))
        ·exfalso; simp_all
        ·refine aj (ab (sA Z Z (aa (ab (sV Z (ak fe Z dt Z Z (At.whole (H50.box 7 Z))) (sM Z Z (sE func23 rf Z (eG (x:=mx2) (nE (H50.mine 6 Z)).1 (nE (H50.mine 6 Z)).2.1 (nE (H50.mine 6 Z)).2.2 (by have:=ml2.2.2.2.1; constructor<;>omega) ml2.2.2.2.2.1) H50 (fun w26 e26 H51=>sA Z Z (aa (ac (ab (sR 2 Z (aa (au Z (fun c9=>?_) (fun c9=>?_)))))))))))))))
         ·exact absurd c9 (by omega)
         ·refine aj (ac (ab (sR 3 Z (aa (au Z (fun c10=>?_) (fun c10=>?_))))))
          ·exact absurd c10 (by omega)
          ·refine aj (ab (rA hQ results7 Z ?_));exact ⟨H51.ext,Z⟩
end Go.Wk
