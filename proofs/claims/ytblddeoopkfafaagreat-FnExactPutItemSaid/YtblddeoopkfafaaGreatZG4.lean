/-
  Laws on walking, and the functions walked, each once: what this claim comes to.
-/
import Derived.Test.YtblddeoopkfafaaGreatZG3
set_option linter.unusedVariables false
set_option linter.unusedSimpArgs false
namespace Go.Wk
open Go.Proofs Rp Go.Proofs.Tryz
set_option maxRecDepth 10000
theorem kl {w:World}{xs:List Block}{xsA:Option Addr}{xsC:Nat}{k:Int}{fp:List Nat}(o:own true w [.slice xsA xs.length xsC] xs fp) (nd:fp.Nodup) (hk:0≤k∧k+mkL cu xs≤4611686018427387904):Ret Tryz.prog 238 #[.slice xsA xs.length xsC,.int .i64 k] w fun v w'=>(v = .int .i64 (k+mkL cu xs)∧∃ xs',Mut w w' fp [.slice xsA xs.length xsC] xs'∧(xs'.length=xs.length∧mkL cu xs'=mkL cu xs∧MkL MkBlock cu xs' k)):=by
 have len:=oL o;refine aH (vs:=[.slice xsA xs.length xsC,.int .i64 k]) func238 Z ntmps238 Z (fun Q hQ hN=>?_);have H0:=Sep.begin o nd;refine ab (sA Z Z (aa (ac (ab (sA Z Z (aa (ao (bx (γ:=Nat × List Block × List Nat) (fun (i,ys,f)=>[(0,.slice xsA xs.length xsC),(1,.int .i64 (k+bv (fun i=>cu (xs.getD i default)) i)),(5,.int .i64 i)]) (fun (i,ys,f) w'=>Sep (· ∈ fp) w [mine [.slice xsA xs.length xsC] ys f] [] w'∧MkInv MkBlock cu xs k i ys∧True) (fun (i,ys,f)=>xs.length-i) (0,xs,fp) ⟨Z,eqI (by simp [bv]),Z,trivial⟩ ⟨H0,kI,trivial⟩ (fun (i,ys,f) w1 H1=>?_)))))))));obtain ⟨H1,hI,_⟩:=H1;refine ac (ac ?_);have hiB:=hI.1;have hys:=hI.2.1;refine an (sR 2 Z (sV Z (aB cD Z) (sV Z (aT Z Z) (aa (au Z (fun c1=>?_) (fun c1=>?_))))))
 ·refine aj (ac (ao (ac ?_)));have hiL:i<xs.length:=by omega
  have hat:=sO hI;obtain ⟨sg,sl⟩:=iQ (c:=cu) hiL;have hci:cu (ys.getD i default)=cu (xs.getD i default):=hI.2.2.1 i;have hcu:cu (ys.getD i default)=1+(ys.getD i default).Bytes.length:=Z;obtain ⟨eb1,eo1,eT1,eF1,eG1,ea1,ek1,eg1,ee1,eK1,eH1⟩:=Block.focus H1 0 Z i (by omega);have eK1U:=eK1;unfold Block.Ok at eK1U
  try unfold I64ok at eK1U
  try unfold maxLen at eK1U
  try dsimp only[lNA,lCA,lSZ,lSS] at eH1
  refine an (sR 3 Z (sV Z (ay cD er Z Z ee1 i (by omega) (by omega)) (sF dQ Z ts2 (gG (wn Z) ts2 eH1 0 0 Z Z Z Z Z (fun w2 H2=>?_)))));dsimp only[lNA,lCA,lSZ,lSS,aN] at H2;refine aa (ab (sM Z Z (sV Z (aA Z Z iO) (sA Z Z (aa (an (sR 2 Z (sV Z (ay cD er Z Z ee1 i (by omega) (by omega)) (sF dQ Z bd (sV Z (ah bi Z Z (be (H2.holAt 0 Z) 1 Z)) (sM Z Z (sC func39 kT Z (dL (H2.mine 2 Z) (H2.nodup1 (i:=2) Z) (by constructor<;>omega)) (fun v1 w3 r1=>?_)))))))))))));obtain ⟨rfl,mx1,mm1,ml1,mk1⟩:=r1;obtain ⟨fp1,H3⟩:=H2.mut 2 Z mm1
  try dsimp only[lNA,lCA,lSZ,lSS] at H3
  refine sA Z Z (aa (an (sM Z Z (sV Z (aA Z Z iO) (sA Z Z (aa ?_))))));have okz:(⟨(k+bv (fun i=>cu (xs.getD i default)) i),mx1⟩:Block).Ok:=by unfold Block.Ok I64ok; dsimp only; omega
  obtain ⟨fp2,H4⟩:=Block.fill H3 0 2 Z Z Z okz
  try dsimp only[lNA,lCA,lSZ,lSS] at H4
  refine ⟨(i+1,_,_),⟨Z,eqI (by omega),Z,trivial⟩,⟨(H4.dtake 1),mN hI hiL (by rw [← hci]; unfold cu; dsimp only; omega) ⟨Z,mk1⟩,trivial⟩,by dsimp only; omega⟩
 ·refine aQ (ab (sR 2 Z (rN hQ results238 Z ?_)));obtain rfl:i=xs.length:=by omega
  exact ⟨Z,_,H1.done,qh hI⟩
theorem kh {w:World}{xs:List Drive}{xsA:Option Addr}{xsC:Nat}{k:Int}{fp:List Nat}(o:own true w [.slice xsA xs.length xsC] xs fp) (nd:fp.Nodup) (hk:0≤k∧k+mkL bf xs≤4611686018427387904):Ret Tryz.prog 148 #[.slice xsA xs.length xsC,.int .i64 k] w fun v w'=>(v = .int .i64 (k+mkL bf xs)∧∃ xs',Mut w w' fp [.slice xsA xs.length xsC] xs'∧(xs'.length=xs.length∧mkL bf xs'=mkL bf xs∧MkL MkDrive bf xs' k)):=by
 have len:=oL o;refine aH (vs:=[.slice xsA xs.length xsC,.int .i64 k]) func148 Z ntmps148 Z (fun Q hQ hN=>?_);have H0:=Sep.begin o nd;refine ab (sA Z Z (aa (ac (ab (sA Z Z (aa (ao (bx (γ:=Nat × List Drive × List Nat) (fun (i,ys,f)=>[(0,.slice xsA xs.length xsC),(1,.int .i64 (k+bv (fun i=>bf (xs.getD i default)) i)),(5,.int .i64 i)]) (fun (i,ys,f) w'=>Sep (· ∈ fp) w [mine [.slice xsA xs.length xsC] ys f] [] w'∧MkInv MkDrive bf xs k i ys∧True) (fun (i,ys,f)=>xs.length-i) (0,xs,fp) ⟨Z,eqI (by simp [bv]),Z,trivial⟩ ⟨H0,kI,trivial⟩ (fun (i,ys,f) w1 H1=>?_)))))))));obtain ⟨H1,hI,_⟩:=H1;refine ac (ac ?_);have hiB:=hI.1;have hys:=hI.2.1;refine an (sR 2 Z (sV Z (aB co Z) (sV Z (aT Z Z) (aa (au Z (fun c1=>?_) (fun c1=>?_))))))
 ·refine aj (ac (ao (ac ?_)));have hiL:i<xs.length:=by omega
  have hat:=sO hI;obtain ⟨sg,sl⟩:=iQ (c:=bf) hiL;have hci:bf (ys.getD i default)=bf (xs.getD i default):=hI.2.2.1 i;have hcu:bf (ys.getD i default)=1+mkL cu (ys.getD i default).Blocks:=Z;obtain ⟨eb1,eo1,eT1,eF1,eG1,ea1,ek1,eg1,ee1,eK1,eH1⟩:=Drive.focus H1 0 Z i (by omega);have eK1U:=eK1;unfold Drive.Ok at eK1U
  try unfold I64ok at eK1U
  try unfold maxLen at eK1U
  try dsimp only[lNA,lCA,lSZ,lSS] at eH1
  refine an (sR 3 Z (sV Z (pZ Z Z (by omega)) (sV Z (bX Z Z) (sV Z (ay co dw Z Z ee1 i (by omega) (by omega)) (sF df Z ts4 (gG (wn Z) ts4 eH1 0 0 Z Z Z Z Z (fun w2 H2=>?_)))))));dsimp only[lNA,lCA,lSZ,lSS,aN] at H2;refine aa (ab (sM Z Z (sV Z (aA Z Z iO) (sA Z Z (aa (an (sR 2 Z (sV Z (ay co dw Z Z ee1 i (by omega) (by omega)) (sF df Z fU (sV Z (ah cD Z Z (be (H2.holAt 0 Z) 1 Z)) (sM Z Z (sC func238 vm Z (kl (H2.mine 2 Z) (H2.nodup1 (i:=2) Z) (by constructor<;>omega)) (fun v1 w3 r1=>?_)))))))))))));obtain ⟨rfl,mx1,mm1,ml1⟩:=r1;obtain ⟨fp1,H3⟩:=H2.mut 2 Z mm1
  try dsimp only[lNA,lCA,lSZ,lSS] at H3
  refine sA Z Z (aa (an (sM Z Z (sV Z (aA Z Z iO) (sA Z Z (aa ?_))))));have okz:(⟨decide ((k+bv (fun i=>bf (xs.getD i default)) i).tmod 3=0),mx1⟩:Drive).Ok:=trivial;obtain ⟨fp2,H4⟩:=Drive.fill H3 0 2 Z Z Z okz
  try dsimp only[lNA,lCA,lSZ,lSS] at H4
  refine ⟨(i+1,_,_),⟨Z,eqI (by omega),Z,trivial⟩,⟨(H4.dtake 1),mN hI hiL (by rw [← hci]; unfold bf; dsimp only; rw [ml1.2.1]) ⟨Z,ml1.2.2⟩,trivial⟩,by dsimp only; omega⟩
 ·refine aQ (ab (sR 2 Z (rN hQ results148 Z ?_)));obtain rfl:i=xs.length:=by omega
  exact ⟨Z,_,H1.done,qh hI⟩
theorem kb {w:World}{xs:List (List Drive)}{xsA:Option Addr}{xsC:Nat}{k:Int}{fp:List Nat}(o:own true w [.slice xsA xs.length xsC] xs fp) (nd:fp.Nodup) (hk:0≤k∧k+mkL (mkL bf) xs≤4611686018427387904):Ret Tryz.prog 75 #[.slice xsA xs.length xsC,.int .i64 k] w fun v w'=>(v = .int .i64 (k+mkL (mkL bf) xs)∧∃ xs',Mut w w' fp [.slice xsA xs.length xsC] xs'∧(xs'.length=xs.length∧mkL (mkL bf) xs'=mkL (mkL bf) xs∧MkL (MkL MkDrive bf) (mkL bf) xs' k)):=by
 have len:=oL o;refine aH (vs:=[.slice xsA xs.length xsC,.int .i64 k]) func75 Z ntmps75 Z (fun Q hQ hN=>?_);have H0:=Sep.begin o nd;refine ab (sA Z Z (aa (ac (ab (sA Z Z (aa (ao (bx (γ:=Nat × List (List Drive) × List Nat) (fun (i,ys,f)=>[(0,.slice xsA xs.length xsC),(1,.int .i64 (k+bv (fun i=>(mkL bf) (xs.getD i default)) i)),(5,.int .i64 i)]) (fun (i,ys,f) w'=>Sep (· ∈ fp) w [mine [.slice xsA xs.length xsC] ys f] [] w'∧MkInv (MkL MkDrive bf) (mkL bf) xs k i ys∧True) (fun (i,ys,f)=>xs.length-i) (0,xs,fp) ⟨Z,eqI (by simp [bv]),Z,trivial⟩ ⟨H0,kI,trivial⟩ (fun (i,ys,f) w1 H1=>?_)))))))));obtain ⟨H1,hI,_⟩:=H1;refine ac (ac ?_);have hiB:=hI.1;have hys:=hI.2.1;refine an (sR 2 Z (sV Z (aB dc Z) (sV Z (aT Z Z) (aa (au Z (fun c1=>?_) (fun c1=>?_))))))
 ·refine aj (ac (ao ?_));have hiL:i<xs.length:=by omega
  have hat:=sO hI;obtain ⟨sg,sl⟩:=iQ (c:=(mkL bf)) hiL;have hci:(mkL bf) (ys.getD i default)=(mkL bf) (xs.getD i default):=hI.2.2.1 i;have hcu:mkL bf (ys.getD i default)=mkL bf (ys.getD i []):=Z;obtain ⟨eb1,eo1,eT1,eF1,eG1,ea1,ek1,eg1,ee1,eH1⟩:=H1.focusL 0 Z i (by omega)
  try dsimp only[lNA,lCA,lSZ,lSS] at eH1
  refine an (sR 2 Z (sV Z (ay dc ik Z Z ee1 i (by omega) (by omega)) (sV Z (ah co Z Z (be (eH1.holAt 0 Z) 0 Z)) (sM Z Z (sC func148 uW Z (kh (eH1.mine 1 Z) (eH1.nodup1 (i:=1) Z) (by constructor<;>omega)) (fun v1 w2 r1=>?_))))));obtain ⟨rfl,mx1,mm1,ml1⟩:=r1;obtain ⟨fp1,H2⟩:=eH1.mut 1 Z mm1
  try dsimp only[lNA,lCA,lSZ,lSS] at H2
  refine sA Z Z (aa (an (sM Z Z (sV Z (aA Z Z iO) (sA Z Z (aa ?_))))));obtain ⟨fp2,H3⟩:=H2.fill 0 1 Z Z Z
  try dsimp only[lNA,lCA,lSZ,lSS] at H3
  refine ⟨(i+1,_,_),⟨Z,eqI (by omega),Z,trivial⟩,⟨(H3.dtake 1),mN hI hiL (by rw [← hci]; exact ml1.2.1) ml1.2.2,trivial⟩,by dsimp only; omega⟩
 ·refine aQ (ab (sR 2 Z (rN hQ results75 Z ?_)));obtain rfl:i=xs.length:=by omega
  exact ⟨Z,_,H1.done,qh hI⟩
theorem ic {w:World}{k:Int}(hk : -1000≤k∧k≤4611686018427388904):Ret Tryz.prog 172 #[.int .i64 k] w fun v w'=>Ext No w w'∧(v = .string (mv k)∧(mv k).size≤maxLen):=by
 refine aH (vs:=[.int .i64 k]) func172 Z ntmps172 Z (fun Q hQ hN=>?_);have H0:=Sep.start (w:=w) (F:=[]) (by simp);refine ab (sA Z Z (aa (ac (ab (sR 2 Z (aa (au Z (fun c1=>?_) (fun c1=>?_))))))))
 ·refine ab (rA hQ results172 Z ?_);exact ⟨H0.ext,by rw [mv,if_pos (by omega)],by rw [mv,if_pos (by omega)]; exact Nat.le_of_ble_eq_true Z⟩
 ·refine aj (ab (sA Z Z (aa (ac (ao (bw (γ:=Nat × Nat × ByteArray) H0 [(2,_)] ⟨Z,trivial⟩ (fun (f,m,out)=>[(0,.int .i64 (m:Nat)),(3,.string out)]) (fun (f,m,out)=>(m:Int)≤k∧m<10^f∧out.size+f≤30∧digits 30 k.toNat ⟨#[]⟩=digits f m out) (fun (f,m,out)=>m) (30,k.toNat,⟨#[]⟩) ⟨eqI (by omega),Z,trivial⟩ ⟨by omega,wW (by omega),by decide,Z⟩ (fun (f,m,out) w1 H1 ⟨hm,hf,ho,hd⟩=>?_)))))));dsimp only[lCA,lNA];refine ac (ab (sR 2 Z (aa (au Z (fun c2=>?_) (fun c2=>?_)))))
  ·refine aj (ao (ac ?_));have hb:=zS (a:=(m:Int)) (b:=10) (by omega) (by omega);refine an (sM Z Z (sV Z (pZ Z Z (by omega)) (sV Z (aA Z Z iO) (sV Z (qa tu3 tu5 Z) (jI (wn Z) Z bi fa Z Z Z Z H1 (fun b1 w2 e1 g1 H2=>?_))))));have H3:=H2.litW 0 Z (uJ (x:=qN (48+(m:Int).tmod 10)))
   try dsimp only[lNA,lCA,lSZ,lSS] at H3
   refine sV Z (u4 bi tu5 tu9 Z (H3.mine 0 Z)) ((sM Z Z (sV Z (wv Z Z (by rw [rz]; simp only [List.length_cons,List.length_nil]; omega)) (sA Z Z (aa ?_)))));have hb2:=An (a:=(m:Int)) (b:=10) (by omega) (by omega);refine an (sM Z Z (sV Z (wb Z Z (by omega) iO) (sA Z Z (aa ?_))))
   rcases f with _ | f
   ·simp at hf; omega
   ·refine ⟨(f,m / 10,strB [UInt8.ofNat (48+m % 10)]++out),⟨eqI (by rw [Int.tdiv_eq_ediv_of_nonneg (by omega)]; dsimp only; omega),Bp (by rw [Be]),Z,trivial⟩,⟨(H3.dtake 0),by dsimp only; omega,by rw [Nat.pow_succ] at hf; dsimp only; omega,by dsimp only; rw [ByteArray.size_append,rz]; simp only [List.length_cons,List.length_nil]; omega,hd.trans (tn (by omega))⟩,by dsimp only; omega⟩
  ·refine aQ (ac ?_);have h1z:(⟨#[109]⟩:ByteArray).size=1:=Z;refine an (sM Z Z (sV Z (wv Z Z (by omega)) (rA hQ results172 Z ?_)));obtain rfl:m=0:=by omega
   have hq:mv k=⟨#[109]⟩++out:=by rw [mv,if_neg (by omega),hd,tc]
   exact ⟨H1.ext,by rw [hq],by rw [hq,ByteArray.size_append]; unfold maxLen; omega⟩
theorem me {w:World}{xs:List Rec}{xsA:Option Addr}{xsC:Nat}{k:Int}{fp:List Nat}(o:own true w [.slice xsA xs.length xsC] xs fp) (nd:fp.Nodup) (hk:0≤k∧k+mkL bO xs≤4611686018427387904):Ret Tryz.prog 90 #[.slice xsA xs.length xsC,.int .i64 k] w fun v w'=>(v = .int .i64 (k+mkL bO xs)∧∃ xs',Mut w w' fp [.slice xsA xs.length xsC] xs'∧(xs'.length=xs.length∧mkL bO xs'=mkL bO xs∧MkL MkRec bO xs' k)):=by
 have len:=oL o;refine aH (vs:=[.slice xsA xs.length xsC,.int .i64 k]) func90 Z ntmps90 Z (fun Q hQ hN=>?_);have H0:=Sep.begin o nd;refine ab (sA Z Z (aa (ac (ab (sA Z Z (aa (ao (bx (γ:=Nat × List Rec × List Nat) (fun (i,ys,f)=>[(0,.slice xsA xs.length xsC),(1,.int .i64 (k+bv (fun i=>bO (xs.getD i default)) i)),(5,.int .i64 i)]) (fun (i,ys,f) w'=>Sep (· ∈ fp) w [mine [.slice xsA xs.length xsC] ys f] [] w'∧MkInv MkRec bO xs k i ys∧True) (fun (i,ys,f)=>xs.length-i) (0,xs,fp) ⟨Z,eqI (by simp [bv]),Z,trivial⟩ ⟨H0,kI,trivial⟩ (fun (i,ys,f) w1 H1=>?_)))))))));obtain ⟨H1,hI,_⟩:=H1;refine ac (ac ?_);have hiB:=hI.1;have hys:=hI.2.1;refine an (sR 2 Z (sV Z (aB aO Z) (sV Z (aT Z Z) (aa (au Z (fun c1=>?_) (fun c1=>?_))))))
 ·refine aj (ac (ao (ac ?_)));have hiL:i<xs.length:=by omega
  have hat:=sO hI;obtain ⟨sg,sl⟩:=iQ (c:=bO) hiL;have hci:bO (ys.getD i default)=bO (xs.getD i default):=hI.2.2.1 i;have hcu:bO (ys.getD i default)=6+(ys.getD i default).Rows.length+(ys.getD i default).Data.length+(ys.getD i default).Delta.length:=Z;obtain ⟨eb1,eo1,eT1,eF1,eG1,ea1,ek1,ea2,ek2,ea3,ek3,eg1,eg2,eg3,ee1,eK1,eH1⟩:=Rec.focus H1 0 Z i (by omega);have eK1U:=eK1;unfold Rec.Ok at eK1U
  try unfold I64ok at eK1U
  try unfold maxLen at eK1U
  try dsimp only[lNA,lCA,lSZ,lSS] at eH1
  refine an (sR 3 Z (sV Z (ay aO aJ Z Z ee1 i (by omega) (by omega)) (sF ax Z ts2 (gG (wn Z) ts2 eH1 0 0 Z Z Z Z Z (fun w2 H2=>?_)))));dsimp only[lNA,lCA,lSZ,lSS,aN] at H2;refine aa (ab (sM Z Z (sV Z (aA Z Z iO) (sA Z Z (aa (ab (sR 3 Z (sV Z (ay aO aJ Z Z ee1 i (by omega) (by omega)) (sF ax Z ts2 (gG (wn Z) ts2 H2 0 1 Z Z Z Z Z (fun w3 H3=>?_)))))))))));dsimp only[lNA,lCA,lSZ,lSS,aN] at H3;refine aa (ab (sM Z Z (sV Z (aA Z Z iO) (sA Z Z (aa (ab (sR 3 Z (sC func172 px Z (ic (by omega)) (fun v1 w4 r1=>?_)))))))));obtain ⟨e3,rfl,mt1⟩:=r1;have H4:=H3.to e3;refine sV Z (ay aO aJ Z Z ee1 i (by omega) (by omega)) (sF ax Z ts9 (gG (wn Z) ts9 H4 0 2 Z Z Z Z Z (fun w5 H5=>?_)));dsimp only[lNA,lCA,lSZ,lSS,aN] at H5;refine aa (ab (sM Z Z (sV Z (aA Z Z iO) (sA Z Z (aa (ab (sR 3 Z (sV Z (ay aO aJ Z Z ee1 i (by omega) (by omega)) (sF ax Z ts2 (gG (wn Z) ts2 H5 0 3 Z Z Z Z Z (fun w6 H6=>?_)))))))))));dsimp only[lNA,lCA,lSZ,lSS,aN] at H6;refine aa (ab (sM Z Z (sV Z (aA Z Z iO) (sA Z Z (aa (ab (sR 3 Z (sV Z (ay aO aJ Z Z ee1 i (by omega) (by omega)) (sF ax Z ts2 (gG (wn Z) ts2 H6 0 4 Z Z Z Z Z (fun w7 H7=>?_)))))))))));dsimp only[lNA,lCA,lSZ,lSS,aN] at H7;refine aa (ab (sM Z Z (sV Z (aA Z Z iO) (sA Z Z (aa (ab (sR 3 Z (sV Z (ay aO aJ Z Z ee1 i (by omega) (by omega)) (sF ax Z ts2 (gG (wn Z) ts2 H7 0 5 Z Z Z Z Z (fun w8 H8=>?_)))))))))));dsimp only[lNA,lCA,lSZ,lSS,aN] at H8;refine aa (ab (sM Z Z (sV Z (aA Z Z iO) (sA Z Z (aa (ab (sR 2 Z (sV Z (ay aO aJ Z Z ee1 i (by omega) (by omega)) (sF ax Z bB (sV Z (ah bn Z Z (be (H8.holAt 0 Z) 6 Z)) (sM Z Z (sC func76 rH Z (gl (H8.mine 2 Z) (H8.nodup1 (i:=2) Z) (by constructor<;>omega)) (fun v2 w9 r2=>?_)))))))))))));obtain ⟨rfl,mx1,mm1,ml1,mk1⟩:=r2;obtain ⟨fp1,H9⟩:=H8.mut 2 Z mm1
  try dsimp only[lNA,lCA,lSZ,lSS] at H9
  refine sA Z Z (aa (ab (sR 2 Z (sV Z (ay aO aJ Z Z ee1 i (by omega) (by omega)) (sF ax Z bd (sV Z (ah bi Z Z (be (H9.holAt 0 Z) 7 Z)) (sM Z Z (sC func39 kT Z (dL (H9.mine 3 Z) (H9.nodup1 (i:=3) Z) (by constructor<;>omega)) (fun v3 w10 r3=>?_)))))))));obtain ⟨rfl,mx2,mm2,ml2,mk2⟩:=r3;obtain ⟨fp2,H10⟩:=H9.mut 3 Z mm2
  try dsimp only[lNA,lCA,lSZ,lSS] at H10
  refine sA Z Z (aa (an (sR 2 Z (sV Z (ay aO aJ Z Z ee1 i (by omega) (by omega)) (sF ax Z bd (sV Z (ah bi Z Z (be (H10.holAt 0 Z) 8 Z)) (sM Z Z (sC func39 kT Z (dL (H10.mine 4 Z) (H10.nodup1 (i:=4) Z) (by constructor<;>omega)) (fun v4 w11 r4=>?_)))))))));obtain ⟨rfl,mx3,mm3,ml3,mk3⟩:=r4;obtain ⟨fp3,H11⟩:=H10.mut 4 Z mm3
  try dsimp only[lNA,lCA,lSZ,lSS] at H11
  refine sA Z Z (aa (an (sM Z Z (sV Z (aA Z Z iO) (sA Z Z (aa ?_))))));have okz:(⟨(k+bv (fun i=>bO (xs.getD i default)) i),(k+bv (fun i=>bO (xs.getD i default)) i)+1,mv ((k+bv (fun i=>bO (xs.getD i default)) i)+1+1),(k+bv (fun i=>bO (xs.getD i default)) i)+1+1+1,(k+bv (fun i=>bO (xs.getD i default)) i)+1+1+1+1,(k+bv (fun i=>bO (xs.getD i default)) i)+1+1+1+1+1,mx1,mx2,mx3⟩:Rec).Ok:=by unfold Rec.Ok I64ok; dsimp only; omega
  obtain ⟨fp4,H12⟩:=Rec.fill H11 0 2 3 4 Z Z Z Z Z Z Z Z Z Z okz
  try dsimp only[lNA,lCA,lSZ,lSS] at H12
  refine ⟨(i+1,_,_),⟨Z,eqI (by omega),Z,trivial⟩,⟨(H12.dtake 1),mN hI hiL (by rw [← hci]; unfold bO; dsimp only; omega) (by
   refine ⟨Z,Z,?_,by dsimp only; omega,by dsimp only; omega,by dsimp only; omega,?_,?_,?_⟩
   ·dsimp only; congr 1; omega
   ·have:=mk1; dsimp only; rwa [show (k+bv (fun i=>bO (xs.getD i default)) i)+1+1+1+1+1+1=(k+bv (fun i=>bO (xs.getD i default)) i)+6 by omega] at this
   ·have:=mk2; dsimp only; rwa [show (k+bv (fun i=>bO (xs.getD i default)) i)+1+1+1+1+1+1+((ys.getD i default).Rows.length:Int)=(k+bv (fun i=>bO (xs.getD i default)) i)+6+mx1.length by omega] at this
   ·have:=mk3; dsimp only; rwa [show (k+bv (fun i=>bO (xs.getD i default)) i)+1+1+1+1+1+1+((ys.getD i default).Rows.length:Int)+((ys.getD i default).Data.length:Int)=(k+bv (fun i=>bO (xs.getD i default)) i)+6+mx1.length+mx2.length by omega] at this),trivial⟩,by dsimp only; omega⟩
 ·refine aQ (ab (sR 2 Z (rN hQ results90 Z ?_)));obtain rfl:i=xs.length:=by omega
  exact ⟨Z,_,H1.done,qh hI⟩
theorem lg {w:World}{xs:List Tape}{xsA:Option Addr}{xsC:Nat}{k:Int}{fp:List Nat}(o:own true w [.slice xsA xs.length xsC] xs fp) (nd:fp.Nodup) (hk:0≤k∧k+mkL cA xs≤4611686018427387904):Ret Tryz.prog 77 #[.slice xsA xs.length xsC,.int .i64 k] w fun v w'=>(v = .int .i64 (k+mkL cA xs)∧∃ xs',Mut w w' fp [.slice xsA xs.length xsC] xs'∧(xs'.length=xs.length∧mkL cA xs'=mkL cA xs∧MkL MkTape cA xs' k)):=by
 have len:=oL o;refine aH (vs:=[.slice xsA xs.length xsC,.int .i64 k]) func77 Z ntmps77 Z (fun Q hQ hN=>?_);have H0:=Sep.begin o nd;refine ab (sA Z Z (aa (ac (ab (sA Z Z (aa (ao (bx (γ:=Nat × List Tape × List Nat) (fun (i,ys,f)=>[(0,.slice xsA xs.length xsC),(1,.int .i64 (k+bv (fun i=>cA (xs.getD i default)) i)),(5,.int .i64 i)]) (fun (i,ys,f) w'=>Sep (· ∈ fp) w [mine [.slice xsA xs.length xsC] ys f] [] w'∧MkInv MkTape cA xs k i ys∧True) (fun (i,ys,f)=>xs.length-i) (0,xs,fp) ⟨Z,eqI (by simp [bv]),Z,trivial⟩ ⟨H0,kI,trivial⟩ (fun (i,ys,f) w1 H1=>?_)))))))));obtain ⟨H1,hI,_⟩:=H1;refine ac (ac ?_);have hiB:=hI.1;have hys:=hI.2.1;refine an (sR 2 Z (sV Z (aB bC Z) (sV Z (aT Z Z) (aa (au Z (fun c1=>?_) (fun c1=>?_))))))
 ·refine aj (ac (ao (ac ?_)));have hiL:i<xs.length:=by omega
  have hat:=sO hI;obtain ⟨sg,sl⟩:=iQ (c:=cA) hiL;have hci:cA (ys.getD i default)=cA (xs.getD i default):=hI.2.2.1 i;have hcu:cA (ys.getD i default)=1+mkL bO (ys.getD i default).Recs:=Z;obtain ⟨eb1,eo1,eT1,eF1,eG1,ea1,ek1,eg1,ee1,eK1,eH1⟩:=Tape.focus H1 0 Z i (by omega);have eK1U:=eK1;unfold Tape.Ok at eK1U
  try unfold I64ok at eK1U
  try unfold maxLen at eK1U
  try dsimp only[lNA,lCA,lSZ,lSS] at eH1
  refine an (sR 3 Z (sV Z (pZ Z Z (by omega)) (sV Z (bX Z Z) (sV Z (ay bC bS Z Z ee1 i (by omega) (by omega)) (sF bJ Z ts4 (gG (wn Z) ts4 eH1 0 0 Z Z Z Z Z (fun w2 H2=>?_)))))));dsimp only[lNA,lCA,lSZ,lSS,aN] at H2;refine aa (ab (sM Z Z (sV Z (aA Z Z iO) (sA Z Z (aa (an (sR 2 Z (sV Z (ay bC bS Z Z ee1 i (by omega) (by omega)) (sF bJ Z dE (sV Z (ah aO Z Z (be (H2.holAt 0 Z) 1 Z)) (sM Z Z (sC func90 xJ Z (me (H2.mine 2 Z) (H2.nodup1 (i:=2) Z) (by constructor<;>omega)) (fun v1 w3 r1=>?_)))))))))))));obtain ⟨rfl,mx1,mm1,ml1⟩:=r1;obtain ⟨fp1,H3⟩:=H2.mut 2 Z mm1
  try dsimp only[lNA,lCA,lSZ,lSS] at H3
  refine sA Z Z (aa (an (sM Z Z (sV Z (aA Z Z iO) (sA Z Z (aa ?_))))));have okz:(⟨decide ((k+bv (fun i=>cA (xs.getD i default)) i).tmod 3=0),mx1⟩:Tape).Ok:=trivial;obtain ⟨fp2,H4⟩:=Tape.fill H3 0 2 Z Z Z okz
  try dsimp only[lNA,lCA,lSZ,lSS] at H4
  refine ⟨(i+1,_,_),⟨Z,eqI (by omega),Z,trivial⟩,⟨(H4.dtake 1),mN hI hiL (by rw [← hci]; unfold cA; dsimp only; rw [ml1.2.1]) ⟨Z,ml1.2.2⟩,trivial⟩,by dsimp only; omega⟩
 ·refine aQ (ab (sR 2 Z (rN hQ results77 Z ?_)));obtain rfl:i=xs.length:=by omega
  exact ⟨Z,_,H1.done,qh hI⟩
end Go.Wk
namespace Go.Wk
open Go.Proofs Rp Go.Proofs.Tryz
set_option maxRecDepth 10000
theorem gM {w:World}{x:Wld}{xA9 xA10 xA11:Option Addr}{xC9 xC10 xC11:Nat}{k:Int}{fp:List Nat}(xK:x.Ok) (o:own true w [.int .i64 x.Shape.Groups,.int .i64 x.Shape.Column,.int .i64 x.Shape.Data,.int .i64 x.Shape.Spare,.int .i64 x.Shape.Rows,.int .i64 x.Shape.Cap,.int .i64 x.Shape.Batch,.int .i64 x.Shape.Queue,.int .i64 x.Shape.Stage,.slice xA9 x.Groups.length xC9,.slice xA10 x.On.length xC10,.slice xA11 x.Tapes.length xC11,.int .i64 x.Writes,.int .i64 x.Stop,.bool x.Down] x fp) (nd:fp.Nodup) (hk:0≤k∧k+cj x≤4611686018427387904):Ret Tryz.prog 21 #[x.val xA9 xC9 xA10 xC10 xA11 xC11,.int .i64 k] w fun v w'=>(v = .int .i64 (k+cj x)∧∃ x':Wld,Mut w w' fp [.int .i64 x.Shape.Groups,.int .i64 x.Shape.Column,.int .i64 x.Shape.Data,.int .i64 x.Shape.Spare,.int .i64 x.Shape.Rows,.int .i64 x.Shape.Cap,.int .i64 x.Shape.Batch,.int .i64 x.Shape.Queue,.int .i64 x.Shape.Stage,.slice xA9 x.Groups.length xC9,.slice xA10 x.On.length xC10,.slice xA11 x.Tapes.length xC11,.int .i64 x.Writes,.int .i64 x.Stop,.bool x.Down] x'∧(x'.Groups.length=x.Groups.length∧x'.On.length=x.On.length∧x'.Tapes.length=x.Tapes.length∧cj x'=cj x∧MkWld x' k∧x'.Shape=x.Shape∧x'.Writes=x.Writes∧x'.Stop=x.Stop∧x'.Down=x.Down)):=by
 unfold cj at hk;refine aH (vs:=[x.val xA9 xC9 xA10 xC10 xA11 xC11,.int .i64 k]) func21 Z ntmps21 Z (fun Q hQ hN=>?_);obtain ⟨f9,f10,f11,ef,ok,o9,o10,o11⟩:=eq o;have H0:=(Sep.begin o nd).part 0 Z [mine [.slice xA9 x.Groups.length xC9] x.Groups f9,mine [.slice xA10 x.On.length xC10] x.On f10,mine [.slice xA11 x.Tapes.length xC11] x.Tapes f11] (ae o9 (ae o10 (ae o11 (by simp)))) (by simp [blocks,mine,ef])
 try dsimp only[lNA,lCA,lSZ,lSS] at H0
 refine ab (ba (wn Z) Z Z H0 (fun b1 w1 e1 g1 H1=>sA Z Z (aa (ab (sF aU Z fJ (sLd dc (H1.box 4 Z) Z (sM Z Z (sC func75 xo Z (kb (H1.mine 1 Z) (H1.nodup1 (i:=1) Z) (by constructor<;>omega)) (fun v1 w2 r1=>?_)))))))));obtain ⟨rfl,mx1,mm1,ml1⟩:=r1;obtain ⟨fp1,H2⟩:=H1.mut 1 Z mm1
 try dsimp only[lNA,lCA,lSZ,lSS] at H2
 refine sA Z Z (aa (ab (sF aU Z bB (sLd bn (H2.box 4 Z) Z (sM Z Z (sC func76 rH Z (gl (H2.mine 2 Z) (H2.nodup1 (i:=2) Z) (by constructor<;>omega)) (fun v2 w3 r2=>?_)))))));obtain ⟨rfl,mx2,mm2,ml2,mk1⟩:=r2;obtain ⟨fp2,H3⟩:=H2.mut 2 Z mm2
 try dsimp only[lNA,lCA,lSZ,lSS] at H3
 refine sA Z Z (aa (ab (sF aU Z cX (sLd bC (H3.box 4 Z) Z (sM Z Z (sC func77 wY Z (lg (H3.mine 3 Z) (H3.nodup1 (i:=3) Z) (by constructor<;>omega)) (fun v3 w4 r3=>?_)))))));obtain ⟨rfl,mx3,mm3,ml3⟩:=r3;obtain ⟨fp3,H4⟩:=H3.mut 3 Z mm3
 try dsimp only[lNA,lCA,lSZ,lSS] at H4
 refine sA Z Z (aa (ab (sR 2 Z (rN hQ results21 Z ?_))));exact ⟨congrArg (Value.int .i64) (by unfold cj; omega),Wld.mkOut ok (H4.dtake 4) ml1 ml2 mk1 ml3⟩
end Go.Wk
namespace Go.Wk
open Go.Proofs Rp Go.Proofs.Tryz
set_option maxRecDepth 10000
theorem ks {w:World}{xs:List Block}{xsA:Option Addr}{xsC:Nat}{k:Int}(xsS:Sees w [.slice xsA xs.length xsC] xs) (hk:0≤k∧k+mkL cu xs≤4611686018427387904) (hm:MkL MkBlock cu xs k):Ret Tryz.prog 305 #[.slice xsA xs.length xsC,.int .i64 k] w fun v w'=>Ext No w w'∧(v = .int .i64 (k+mkL cu xs)):=by
 have xsL:=sL xsS;obtain ⟨xsF,xsO⟩:=xsS;refine aH (vs:=[.slice xsA xs.length xsC,.int .i64 k]) func305 Z ntmps305 Z (fun Q hQ hN=>?_);have H0:=Sep.start (w:=w) (F:=[seen false [.slice xsA xs.length xsC] xs xsF]) (ae xsO (by simp));refine ab (sA Z Z (aa (ac (ab (sA Z Z (aa (ao (bw (γ:=Nat) H0 [(0,_)] ⟨Z,trivial⟩ (fun i=>[(1,.int .i64 (k+bv (fun i=>cu (xs.getD i default)) i)),(5,.int .i64 i)]) (fun i=>i≤xs.length∧True) (fun i=>xs.length-i) 0 ⟨eqI (by simp [bv]),Z,trivial⟩ ⟨by omega,trivial⟩ (fun i w1 H1 ⟨hi,_⟩=>?_)))))))));dsimp only[lCA,lNA];refine ac (ab (sR 2 Z (sV Z (aB cD Z) (sV Z (aT Z Z) (aa (au Z (fun c1=>?_) (fun c1=>?_)))))))
 ·refine aj (ac (ao (ac (ac ?_))));have hmi:=hm i (by omega);obtain ⟨sg,sl⟩:=iQ (c:=cu) (xs:=xs) (i:=i) (by omega);have hcu:cu (xs.getD i default)=1+(xs.getD i default).Bytes.length:=Z;obtain ⟨hm1,hm2⟩:=hmi;obtain ⟨eb1,eo1,es1,ef1,ee1,ec1,eO1,eH1,em1⟩:=aV (H1.seen 0 Z) i (by omega);obtain ⟨ea1,ek1,eg1,rfl,eq1,eK1,eo2⟩:=dT eO1;have eK1U:=eK1;unfold Block.Ok at eK1U
  try unfold I64ok at eK1U
  try unfold maxLen at eK1U
  have eP1:=H1.look1 0 Z eo2 (fun b hb=>eH1 b (by rw [eq1]; simp [hb]));have eL1:=oL eo2;refine an (sR 2 Z (sV Z (ay cD er Z Z ee1 i (by omega) (by omega)) (sF dQ Z ts2 (sV Z (ah tu2 Z Z (be ec1 0 Z)) (sR 2 Z (aa (au Z (fun c2=>?_) (fun c2=>?_))))))))
  ·exact absurd hm1 c2
  ·refine aj (ab (sM Z Z (sV Z (aA Z Z iO) (sA Z Z (aa (ac ?_))))));obtain ⟨eb2,eo3,es2,ef2,ee2,ec2,eO2,eH2,em2⟩:=aV (eP1.seen 0 Z) i (by omega);obtain ⟨ea2,ek2,eg2,rfl,eq2,eK2,eo4⟩:=dT eO2;have eK2U:=eK2;unfold Block.Ok at eK2U
   try unfold I64ok at eK2U
   try unfold maxLen at eK2U
   have eP2:=eP1.look1 0 Z eo4 (fun b hb=>eH2 b (by rw [eq2]; simp [hb]));have eL2:=oL eo4;refine an (sR 2 Z (sV Z (ay cD er Z Z ee2 i (by omega) (by omega)) (sF dQ Z bd (sV Z (ah bi Z Z (be ec2 1 Z)) (sM Z Z (sE func115 ma Z (eX (eP2.sees 2 Z) (by constructor<;>omega) (by assumption)) eP2 (fun w2 e1 H2=>sA Z Z (aa (ab (sR 2 Z (aa (au Z (fun c3=>?_) (fun c3=>?_)))))))))))))
   ·exact absurd c3 (by omega)
   ·refine aj (an (sM Z Z (sV Z (aA Z Z iO) (sA Z Z (aa (⟨i+1,⟨eqI (by omega),Z,Z,trivial⟩,⟨(H2.ftake 1),by omega,trivial⟩,by dsimp only; omega⟩))))))
 ·refine aQ (ab (sR 2 Z (rN hQ results305 Z ?_)));obtain rfl:i=xs.length:=by omega
  exact ⟨H1.ext,Z⟩
theorem kf {w:World}{xs:List Drive}{xsA:Option Addr}{xsC:Nat}{k:Int}(xsS:Sees w [.slice xsA xs.length xsC] xs) (hk:0≤k∧k+mkL bf xs≤4611686018427387904) (hm:MkL MkDrive bf xs k):Ret Tryz.prog 239 #[.slice xsA xs.length xsC,.int .i64 k] w fun v w'=>Ext No w w'∧(v = .int .i64 (k+mkL bf xs)):=by
 have xsL:=sL xsS;obtain ⟨xsF,xsO⟩:=xsS;refine aH (vs:=[.slice xsA xs.length xsC,.int .i64 k]) func239 Z ntmps239 Z (fun Q hQ hN=>?_);have H0:=Sep.start (w:=w) (F:=[seen false [.slice xsA xs.length xsC] xs xsF]) (ae xsO (by simp));refine ab (sA Z Z (aa (ac (ab (sA Z Z (aa (ao (bw (γ:=Nat) H0 [(0,_)] ⟨Z,trivial⟩ (fun i=>[(1,.int .i64 (k+bv (fun i=>bf (xs.getD i default)) i)),(5,.int .i64 i)]) (fun i=>i≤xs.length∧True) (fun i=>xs.length-i) 0 ⟨eqI (by simp [bv]),Z,trivial⟩ ⟨by omega,trivial⟩ (fun i w1 H1 ⟨hi,_⟩=>?_)))))))));dsimp only[lCA,lNA];refine ac (ab (sR 2 Z (sV Z (aB co Z) (sV Z (aT Z Z) (aa (au Z (fun c1=>?_) (fun c1=>?_)))))))
 ·refine aj (ac (ao (ac (ac ?_))));have hmi:=hm i (by omega);obtain ⟨sg,sl⟩:=iQ (c:=bf) (xs:=xs) (i:=i) (by omega);have hcu:bf (xs.getD i default)=1+mkL cu (xs.getD i default).Blocks:=Z;obtain ⟨hm1,hm2⟩:=hmi;obtain ⟨eb1,eo1,es1,ef1,ee1,ec1,eO1,eH1,em1⟩:=aV (H1.seen 0 Z) i (by omega);obtain ⟨ea1,ek1,eg1,rfl,eq1,eK1,eo2⟩:=dh eO1;have eP1:=H1.look1 0 Z eo2 (fun b hb=>eH1 b (by rw [eq1]; simp [hb]));have eL1:=oL eo2;refine an (sR 2 Z (sV Z (ay co dw Z Z ee1 i (by omega) (by omega)) (sF df Z ts4 (sV Z (ah tu4 Z Z (be ec1 0 Z)) (sM Z Z (sV Z (pZ Z Z (by omega)) (sV Z (bX Z Z) (sV Z (ne tu4 Z Z) (aa (bL Z (fun c2=>?_) (fun c2=>?_)))))))))))
  ·exfalso; rw [hm1] at c2; simp at c2
  ·refine aj (ab (sM Z Z (sV Z (aA Z Z iO) (sA Z Z (aa (ac ?_))))));obtain ⟨eb2,eo3,es2,ef2,ee2,ec2,eO2,eH2,em2⟩:=aV (eP1.seen 0 Z) i (by omega);obtain ⟨ea2,ek2,eg2,rfl,eq2,eK2,eo4⟩:=dh eO2;have eP2:=eP1.look1 0 Z eo4 (fun b hb=>eH2 b (by rw [eq2]; simp [hb]));have eL2:=oL eo4;refine an (sR 2 Z (sV Z (ay co dw Z Z ee2 i (by omega) (by omega)) (sF df Z fU (sV Z (ah cD Z Z (be ec2 1 Z)) (sM Z Z (sE func305 uZ Z (ks (eP2.sees 2 Z) (by constructor<;>omega) (by assumption)) eP2 (fun w2 e1 H2=>sA Z Z (aa (ab (sR 2 Z (aa (au Z (fun c3=>?_) (fun c3=>?_)))))))))))))
   ·exact absurd c3 (by omega)
   ·refine aj (an (sM Z Z (sV Z (aA Z Z iO) (sA Z Z (aa (⟨i+1,⟨eqI (by omega),Z,Z,trivial⟩,⟨(H2.ftake 1),by omega,trivial⟩,by dsimp only; omega⟩))))))
 ·refine aQ (ab (sR 2 Z (rN hQ results239 Z ?_)));obtain rfl:i=xs.length:=by omega
  exact ⟨H1.ext,Z⟩
theorem ka {w:World}{xs:List (List Drive)}{xsA:Option Addr}{xsC:Nat}{k:Int}(xsS:Sees w [.slice xsA xs.length xsC] xs) (hk:0≤k∧k+mkL (mkL bf) xs≤4611686018427387904) (hm:MkL (MkL MkDrive bf) (mkL bf) xs k):Ret Tryz.prog 149 #[.slice xsA xs.length xsC,.int .i64 k] w fun v w'=>Ext No w w'∧(v = .int .i64 (k+mkL (mkL bf) xs)):=by
 have xsL:=sL xsS;obtain ⟨xsF,xsO⟩:=xsS;refine aH (vs:=[.slice xsA xs.length xsC,.int .i64 k]) func149 Z ntmps149 Z (fun Q hQ hN=>?_);have H0:=Sep.start (w:=w) (F:=[seen false [.slice xsA xs.length xsC] xs xsF]) (ae xsO (by simp));refine ab (sA Z Z (aa (ac (ab (sA Z Z (aa (ao (bw (γ:=Nat) H0 [(0,_)] ⟨Z,trivial⟩ (fun i=>[(1,.int .i64 (k+bv (fun i=>(mkL bf) (xs.getD i default)) i)),(5,.int .i64 i)]) (fun i=>i≤xs.length∧True) (fun i=>xs.length-i) 0 ⟨eqI (by simp [bv]),Z,trivial⟩ ⟨by omega,trivial⟩ (fun i w1 H1 ⟨hi,_⟩=>?_)))))))));dsimp only[lCA,lNA];refine ac (ab (sR 2 Z (sV Z (aB dc Z) (sV Z (aT Z Z) (aa (au Z (fun c1=>?_) (fun c1=>?_)))))))
 ·refine aj (ac (ao (ac ?_)));have hmi:=hm i (by omega);obtain ⟨sg,sl⟩:=iQ (c:=(mkL bf)) (xs:=xs) (i:=i) (by omega);have hcu:mkL bf (xs.getD i default)=mkL bf (xs.getD i []):=Z;have hm2:MkL MkDrive bf (xs.getD i []) ((k+bv (fun i=>(mkL bf) (xs.getD i default)) i)):=hmi;obtain ⟨eb1,eo1,ea1,ek1,ef1,ee1,ec1,eO1,eH1⟩:=eM (H1.seen 0 Z) i (by omega);have eP1:=H1.look1 0 Z eO1 eH1;refine an (sR 2 Z (sV Z (ay dc ik Z Z ee1 i (by omega) (by omega)) (sV Z (ah co Z Z ec1) (sM Z Z (sE func239 tT Z (kf (eP1.sees 1 Z) (by constructor<;>omega) (by assumption)) eP1 (fun w2 e1 H2=>sA Z Z (aa (ab (sR 2 Z (aa (au Z (fun c2=>?_) (fun c2=>?_))))))))))))
  ·exact absurd c2 (by omega)
  ·refine aj (an (sM Z Z (sV Z (aA Z Z iO) (sA Z Z (aa (⟨i+1,⟨eqI (by omega),Z,Z,trivial⟩,⟨(H2.ftake 1),by omega,trivial⟩,by dsimp only; omega⟩))))))
 ·refine aQ (ab (sR 2 Z (rN hQ results149 Z ?_)));obtain rfl:i=xs.length:=by omega
  exact ⟨H1.ext,Z⟩
set_option maxHeartbeats 1000000 in
theorem lZ {w:World}{xs:List Rec}{xsA:Option Addr}{xsC:Nat}{k:Int}(xsS:Sees w [.slice xsA xs.length xsC] xs) (hk:0≤k∧k+mkL bO xs≤4611686018427387904) (hm:MkL MkRec bO xs k):Ret Tryz.prog 91 #[.slice xsA xs.length xsC,.int .i64 k] w fun v w'=>Ext No w w'∧(v = .int .i64 (k+mkL bO xs)):=by
 have xsL:=sL xsS;obtain ⟨xsF,xsO⟩:=xsS;refine aH (vs:=[.slice xsA xs.length xsC,.int .i64 k]) func91 Z ntmps91 Z (fun Q hQ hN=>?_);have H0:=Sep.start (w:=w) (F:=[seen false [.slice xsA xs.length xsC] xs xsF]) (ae xsO (by simp));refine ab (sA Z Z (aa (ac (ab (sA Z Z (aa (ao (bw (γ:=Nat) H0 [(0,_)] ⟨Z,trivial⟩ (fun i=>[(1,.int .i64 (k+bv (fun i=>bO (xs.getD i default)) i)),(5,.int .i64 i)]) (fun i=>i≤xs.length∧True) (fun i=>xs.length-i) 0 ⟨eqI (by simp [bv]),Z,trivial⟩ ⟨by omega,trivial⟩ (fun i w1 H1 ⟨hi,_⟩=>?_)))))))));dsimp only[lCA,lNA];refine ac (ab (sR 2 Z (sV Z (aB aO Z) (sV Z (aT Z Z) (aa (au Z (fun c1=>?_) (fun c1=>?_)))))))
 ·refine aj (ac (ao (ac (ac ?_))));have hmi:=hm i (by omega);obtain ⟨sg,sl⟩:=iQ (c:=bO) (xs:=xs) (i:=i) (by omega);have hcu:bO (xs.getD i default)=6+(xs.getD i default).Rows.length+(xs.getD i default).Data.length+(xs.getD i default).Delta.length:=Z;obtain ⟨m1,m2,m3,m4,m5,m6,m7,m8,m9⟩:=hmi;have n3:(xs.getD i default).Name=mv ((k+bv (fun i=>bO (xs.getD i default)) i)+1+1):=by rw [m3]; congr 1; omega
  have n7:MarkI (xs.getD i default).Rows ((k+bv (fun i=>bO (xs.getD i default)) i)+1+1+1+1+1+1):=by rwa [show (k+bv (fun i=>bO (xs.getD i default)) i)+1+1+1+1+1+1=(k+bv (fun i=>bO (xs.getD i default)) i)+6 by omega]
  have n8:MarkB (xs.getD i default).Data ((k+bv (fun i=>bO (xs.getD i default)) i)+1+1+1+1+1+1+(xs.getD i default).Rows.length):=by rwa [show (k+bv (fun i=>bO (xs.getD i default)) i)+1+1+1+1+1+1=(k+bv (fun i=>bO (xs.getD i default)) i)+6 by omega]
  have n9:MarkB (xs.getD i default).Delta ((k+bv (fun i=>bO (xs.getD i default)) i)+1+1+1+1+1+1+(xs.getD i default).Rows.length+(xs.getD i default).Data.length):=by rwa [show (k+bv (fun i=>bO (xs.getD i default)) i)+1+1+1+1+1+1=(k+bv (fun i=>bO (xs.getD i default)) i)+6 by omega]
  obtain ⟨eb1,eo1,es1,ef1,ee1,ec1,eO1,eH1,em1⟩:=aV (H1.seen 0 Z) i (by omega);obtain ⟨ea1,ek1,ea2,ek2,ea3,ek3,eg1,eg2,eg3,rfl,eq1,eK1,eo2,eo3,eo4⟩:=cy eO1;have eK1U:=eK1;unfold Rec.Ok at eK1U
  try unfold I64ok at eK1U
  try unfold maxLen at eK1U
  refine an (sR 2 Z (sV Z (ay aO aJ Z Z ee1 i (by omega) (by omega)) (sF ax Z ts2 (sV Z (ah tu2 Z Z (be ec1 0 Z)) (sR 2 Z (aa (au Z (fun c2=>?_) (fun c2=>?_))))))))
  ·exact absurd c2 (by omega)
  ·refine aj (ab (sM Z Z (sV Z (aA Z Z iO) (sA Z Z (aa (ac (ac ?_)))))));obtain ⟨eb2,eo5,es2,ef2,ee2,ec2,eO2,eH2,em2⟩:=aV (H1.seen 0 Z) i (by omega);obtain ⟨ea4,ek4,ea5,ek5,ea6,ek6,eg4,eg5,eg6,rfl,eq2,eK2,eo6,eo7,eo8⟩:=cy eO2;have eK2U:=eK2;unfold Rec.Ok at eK2U
   try unfold I64ok at eK2U
   try unfold maxLen at eK2U
   refine an (sR 2 Z (sV Z (ay aO aJ Z Z ee2 i (by omega) (by omega)) (sF ax Z ts2 (sV Z (ah tu2 Z Z (be ec2 1 Z)) (sR 2 Z (aa (au Z (fun c3=>?_) (fun c3=>?_))))))))
   ·exact absurd c3 (by omega)
   ·refine aj (ab (sM Z Z (sV Z (aA Z Z iO) (sA Z Z (aa (ac (ac ?_)))))));obtain ⟨eb3,eo9,es3,ef3,ee3,ec3,eO3,eH3,em3⟩:=aV (H1.seen 0 Z) i (by omega);obtain ⟨ea7,ek7,ea8,ek8,ea9,ek9,eg7,eg8,eg9,rfl,eq3,eK3,eo10,eo11,eo12⟩:=cy eO3;have eK3U:=eK3;unfold Rec.Ok at eK3U
    try unfold I64ok at eK3U
    try unfold maxLen at eK3U
    refine bz (S:=Ext No _) (oQ [1,3,5,7,9,11,12,14]) (by kernel_rfl) (by kernel_rfl) (by kernel_rfl) Z (fun _=>Ext.refl.drawn _) (fun q1=>?_);have H2:=H1.drawn q1;refine dR 2 Z (dV Z Z (fun zw hx=>ay aO aJ Z Z ee3 i (by omega) (by omega)) (dV Z Z (fun zw hx=>ag ax Z ts9 Z Z) (dV Z Z (fun zw hx=>ah tu9 Z Z (be (hx.at ec3) 2 Z)) (dM Z Z Z (dC func172 px Z (ic (by omega)) (fun v1 w2 r1=>?_))))));obtain ⟨e1,rfl,mt1⟩:=r1;have H3:=H2.to e1;refine aR Z (wn Z) Z Z (wo Z Z) (aS (bL Z (fun c4=>?_) (fun c4=>?_)))
    ·exfalso; rw [n3] at c4; simp at c4
    ·refine aj (ab (sM Z Z (sV Z (aA Z Z iO) (sA Z Z (aa (ac (ac ?_)))))));obtain ⟨eb4,eo13,es4,ef4,ee4,ec4,eO4,eH4,em4⟩:=aV (H3.seen 0 Z) i (by omega);obtain ⟨ea10,ek10,ea11,ek11,ea12,ek12,eg10,eg11,eg12,rfl,eq4,eK4,eo14,eo15,eo16⟩:=cy eO4;have eK4U:=eK4;unfold Rec.Ok at eK4U
     try unfold I64ok at eK4U
     try unfold maxLen at eK4U
     refine an (sR 2 Z (sV Z (ay aO aJ Z Z ee4 i (by omega) (by omega)) (sF ax Z ts2 (sV Z (ah tu2 Z Z (be ec4 3 Z)) (sR 2 Z (aa (au Z (fun c5=>?_) (fun c5=>?_))))))))
     ·exact absurd c5 (by omega)
     ·refine aj (ab (sM Z Z (sV Z (aA Z Z iO) (sA Z Z (aa (ac (ac ?_)))))));obtain ⟨eb5,eo17,es5,ef5,ee5,ec5,eO5,eH5,em5⟩:=aV (H3.seen 0 Z) i (by omega);obtain ⟨ea13,ek13,ea14,ek14,ea15,ek15,eg13,eg14,eg15,rfl,eq5,eK5,eo18,eo19,eo20⟩:=cy eO5;have eK5U:=eK5;unfold Rec.Ok at eK5U
      try unfold I64ok at eK5U
      try unfold maxLen at eK5U
      refine an (sR 2 Z (sV Z (ay aO aJ Z Z ee5 i (by omega) (by omega)) (sF ax Z ts2 (sV Z (ah tu2 Z Z (be ec5 4 Z)) (sR 2 Z (aa (au Z (fun c6=>?_) (fun c6=>?_))))))))
      ·exact absurd c6 (by omega)
      ·refine aj (ab (sM Z Z (sV Z (aA Z Z iO) (sA Z Z (aa (ac (ac ?_)))))));obtain ⟨eb6,eo21,es6,ef6,ee6,ec6,eO6,eH6,em6⟩:=aV (H3.seen 0 Z) i (by omega);obtain ⟨ea16,ek16,ea17,ek17,ea18,ek18,eg16,eg17,eg18,rfl,eq6,eK6,eo22,eo23,eo24⟩:=cy eO6;have eK6U:=eK6;unfold Rec.Ok at eK6U
       try unfold I64ok at eK6U
       try unfold maxLen at eK6U
       refine an (sR 2 Z (sV Z (ay aO aJ Z Z ee6 i (by omega) (by omega)) (sF ax Z ts2 (sV Z (ah tu2 Z Z (be ec6 5 Z)) (sR 2 Z (aa (au Z (fun c7=>?_) (fun c7=>?_))))))))
       ·exact absurd c7 (by omega)
       ·refine aj (ab (sM Z Z (sV Z (aA Z Z iO) (sA Z Z (aa (ac ?_))))));obtain ⟨eb7,eo25,es7,ef7,ee7,ec7,eO7,eH7,em7⟩:=aV (H3.seen 0 Z) i (by omega);obtain ⟨ea19,ek19,ea20,ek20,ea21,ek21,eg19,eg20,eg21,rfl,eq7,eK7,eo26,eo27,eo28⟩:=cy eO7;have eK7U:=eK7;unfold Rec.Ok at eK7U
        try unfold I64ok at eK7U
        try unfold maxLen at eK7U
        have eP1:=H3.look1 0 Z eo26 (fun b hb=>eH7 b (by rw [eq7]; simp [hb]));have eL1:=oL eo26;refine an (sR 2 Z (sV Z (ay aO aJ Z Z ee7 i (by omega) (by omega)) (sF ax Z bB (sV Z (ah bn Z Z (be ec7 6 Z)) (sM Z Z (sE func150 pT Z (gA (eP1.sees 1 Z) (by constructor<;>omega) (by assumption)) eP1 (fun w3 e2 H4=>sA Z Z (aa (ac (ab (sR 2 Z (aa (au Z (fun c8=>?_) (fun c8=>?_))))))))))))))
        ·exact absurd c8 (by omega)
        ·refine aj (ac ?_);obtain ⟨eb8,eo29,es8,ef8,ee8,ec8,eO8,eH8,em8⟩:=aV (H4.seen 0 Z) i (by omega);obtain ⟨ea22,ek22,ea23,ek23,ea24,ek24,eg22,eg23,eg24,rfl,eq8,eK8,eo30,eo31,eo32⟩:=cy eO8;have eK8U:=eK8;unfold Rec.Ok at eK8U
         try unfold I64ok at eK8U
         try unfold maxLen at eK8U
         have eP2:=H4.look1 0 Z eo31 (fun b hb=>eH8 b (by rw [eq8]; simp [hb]));have eL2:=oL eo31;refine an (sR 2 Z (sV Z (ay aO aJ Z Z ee8 i (by omega) (by omega)) (sF ax Z bd (sV Z (ah bi Z Z (be ec8 7 Z)) (sM Z Z (sE func115 ma Z (eX (eP2.sees 2 Z) (by constructor<;>omega) (by assumption)) eP2 (fun w4 e3 H5=>sA Z Z (aa (ac (ab (sR 2 Z (aa (au Z (fun c9=>?_) (fun c9=>?_))))))))))))))
         ·exact absurd c9 (by omega)
         ·refine aj (ac ?_);obtain ⟨eb9,eo33,es9,ef9,ee9,ec9,eO9,eH9,em9⟩:=aV (H5.seen 0 Z) i (by omega);obtain ⟨ea25,ek25,ea26,ek26,ea27,ek27,eg25,eg26,eg27,rfl,eq9,eK9,eo34,eo35,eo36⟩:=cy eO9;have eK9U:=eK9;unfold Rec.Ok at eK9U
          try unfold I64ok at eK9U
          try unfold maxLen at eK9U
          have eP3:=H5.look1 0 Z eo36 (fun b hb=>eH9 b (by rw [eq9]; simp [hb]));have eL3:=oL eo36;refine an (sR 2 Z (sV Z (ay aO aJ Z Z ee9 i (by omega) (by omega)) (sF ax Z bd (sV Z (ah bi Z Z (be ec9 8 Z)) (sM Z Z (sE func115 ma Z (eX (eP3.sees 3 Z) (by constructor<;>omega) (by assumption)) eP3 (fun w5 e4 H6=>sA Z Z (aa (ab (sR 2 Z (aa (au Z (fun c10=>?_) (fun c10=>?_)))))))))))))
          ·exact absurd c10 (by omega)
          ·refine aj (an (sM Z Z (sV Z (aA Z Z iO) (sA Z Z (aa (⟨i+1,⟨eqI (by omega),Z,Z,trivial⟩,⟨(H6.ftake 1),by omega,trivial⟩,by dsimp only; omega⟩))))))
 ·refine aQ (ab (sR 2 Z (rN hQ results91 Z ?_)));obtain rfl:i=xs.length:=by omega
  exact ⟨H1.ext,Z⟩
theorem kX {w:World}{xs:List Tape}{xsA:Option Addr}{xsC:Nat}{k:Int}(xsS:Sees w [.slice xsA xs.length xsC] xs) (hk:0≤k∧k+mkL cA xs≤4611686018427387904) (hm:MkL MkTape cA xs k):Ret Tryz.prog 151 #[.slice xsA xs.length xsC,.int .i64 k] w fun v w'=>Ext No w w'∧(v = .int .i64 (k+mkL cA xs)):=by
 have xsL:=sL xsS;obtain ⟨xsF,xsO⟩:=xsS;refine aH (vs:=[.slice xsA xs.length xsC,.int .i64 k]) func151 Z ntmps151 Z (fun Q hQ hN=>?_);have H0:=Sep.start (w:=w) (F:=[seen false [.slice xsA xs.length xsC] xs xsF]) (ae xsO (by simp));refine ab (sA Z Z (aa (ac (ab (sA Z Z (aa (ao (bw (γ:=Nat) H0 [(0,_)] ⟨Z,trivial⟩ (fun i=>[(1,.int .i64 (k+bv (fun i=>cA (xs.getD i default)) i)),(5,.int .i64 i)]) (fun i=>i≤xs.length∧True) (fun i=>xs.length-i) 0 ⟨eqI (by simp [bv]),Z,trivial⟩ ⟨by omega,trivial⟩ (fun i w1 H1 ⟨hi,_⟩=>?_)))))))));dsimp only[lCA,lNA];refine ac (ab (sR 2 Z (sV Z (aB bC Z) (sV Z (aT Z Z) (aa (au Z (fun c1=>?_) (fun c1=>?_)))))))
 ·refine aj (ac (ao (ac (ac ?_))));have hmi:=hm i (by omega);obtain ⟨sg,sl⟩:=iQ (c:=cA) (xs:=xs) (i:=i) (by omega);have hcu:cA (xs.getD i default)=1+mkL bO (xs.getD i default).Recs:=Z;obtain ⟨hm1,hm2⟩:=hmi;obtain ⟨eb1,eo1,es1,ef1,ee1,ec1,eO1,eH1,em1⟩:=aV (H1.seen 0 Z) i (by omega);obtain ⟨ea1,ek1,eg1,rfl,eq1,eK1,eo2⟩:=bN eO1;have eP1:=H1.look1 0 Z eo2 (fun b hb=>eH1 b (by rw [eq1]; simp [hb]));have eL1:=oL eo2;refine an (sR 2 Z (sV Z (ay bC bS Z Z ee1 i (by omega) (by omega)) (sF bJ Z ts4 (sV Z (ah tu4 Z Z (be ec1 0 Z)) (sM Z Z (sV Z (pZ Z Z (by omega)) (sV Z (bX Z Z) (sV Z (ne tu4 Z Z) (aa (bL Z (fun c2=>?_) (fun c2=>?_)))))))))))
  ·exfalso; rw [hm1] at c2; simp at c2
  ·refine aj (ab (sM Z Z (sV Z (aA Z Z iO) (sA Z Z (aa (ac ?_))))));obtain ⟨eb2,eo3,es2,ef2,ee2,ec2,eO2,eH2,em2⟩:=aV (eP1.seen 0 Z) i (by omega);obtain ⟨ea2,ek2,eg2,rfl,eq2,eK2,eo4⟩:=bN eO2;have eP2:=eP1.look1 0 Z eo4 (fun b hb=>eH2 b (by rw [eq2]; simp [hb]));have eL2:=oL eo4;refine an (sR 2 Z (sV Z (ay bC bS Z Z ee2 i (by omega) (by omega)) (sF bJ Z dE (sV Z (ah aO Z Z (be ec2 1 Z)) (sM Z Z (sE func91 wV Z (lZ (eP2.sees 2 Z) (by constructor<;>omega) (by assumption)) eP2 (fun w2 e1 H2=>sA Z Z (aa (ab (sR 2 Z (aa (au Z (fun c3=>?_) (fun c3=>?_)))))))))))))
   ·exact absurd c3 (by omega)
   ·refine aj (an (sM Z Z (sV Z (aA Z Z iO) (sA Z Z (aa (⟨i+1,⟨eqI (by omega),Z,Z,trivial⟩,⟨(H2.ftake 1),by omega,trivial⟩,by dsimp only; omega⟩))))))
 ·refine aQ (ab (sR 2 Z (rN hQ results151 Z ?_)));obtain rfl:i=xs.length:=by omega
  exact ⟨H1.ext,Z⟩
theorem lj {w:World}{x:Wld}{s0 s1 s2 s3 s4 s5 s6 s7 s8 wr sp k:Int}{dn:Bool}{A9 A10 A11:Option Addr}{n9 C9 n10 C10 n11 C11:Nat}(e9:Sees w [.slice A9 n9 C9] x.Groups) (e10:Sees w [.slice A10 n10 C10] x.On) (e11:Sees w [.slice A11 n11 C11] x.Tapes) (hk:0≤k∧k+cj x≤4611686018427387904) (hm:MkWld x k):Ret Tryz.prog 78 #[.agg #[.int .i64 s0,.int .i64 s1,.int .i64 s2,.int .i64 s3,.int .i64 s4,.int .i64 s5,.int .i64 s6,.int .i64 s7,.int .i64 s8,.slice A9 n9 C9,.slice A10 n10 C10,.slice A11 n11 C11,.int .i64 wr,.int .i64 sp,.bool dn],.int .i64 k] w fun v w'=>Ext No w w'∧(v = .int .i64 (k+cj x)):=by
 obtain ⟨f9,o9⟩:=e9;obtain rfl:=dH o9;obtain ⟨f10,o10⟩:=e10;obtain rfl:=dH o10;obtain ⟨f11,o11⟩:=e11;obtain rfl:=dH o11;have hcu:cj x=mkL (mkL bf) x.Groups+x.On.length+mkL cA x.Tapes:=Z;obtain ⟨m1,m2,m3⟩:=hm;refine aH (vs:=[.agg #[.int .i64 s0,.int .i64 s1,.int .i64 s2,.int .i64 s3,.int .i64 s4,.int .i64 s5,.int .i64 s6,.int .i64 s7,.int .i64 s8,.slice A9 x.Groups.length C9,.slice A10 x.On.length C10,.slice A11 x.Tapes.length C11,.int .i64 wr,.int .i64 sp,.bool dn],.int .i64 k]) func78 Z ntmps78 Z (fun Q hQ hN=>?_);have H0:=Sep.start (w:=w) (F:=[seen false [.slice A9 x.Groups.length C9] x.Groups f9,seen false [.slice A10 x.On.length C10] x.On f10,seen false [.slice A11 x.Tapes.length C11] x.Tapes f11]) (ae o9 (ae o10 (ae o11 (by simp))));refine ab (ba (wn Z) Z Z H0 (fun b1 w1 e1 g1 H1=>sA Z Z (aa (ab (sF aU Z fJ (sLd dc (H1.box 0 Z) Z (sM Z Z (sE func149 vM Z (ka (H1.sees 0 Z) (by constructor<;>omega) (by assumption)) H1 (fun w2 e2 H2=>sA Z Z (aa (ac (ab (sR 2 Z (aa (au Z (fun c1=>?_) (fun c1=>?_))))))))))))))))
 ·exact absurd c1 (by omega)
 ·refine aj (ab (sF aU Z bB (sLd bn (H2.box 0 Z) Z (sM Z Z (sE func150 pT Z (gA (H2.sees 1 Z) (by constructor<;>omega) (by assumption)) H2 (fun w3 e3 H3=>sA Z Z (aa (ac (ab (sR 2 Z (aa (au Z (fun c2=>?_) (fun c2=>?_)))))))))))))
  ·exact absurd c2 (by omega)
  ·refine aj (ab (sF aU Z cX (sLd bC (H3.box 0 Z) Z (sM Z Z (sE func151 um Z (kX (H3.sees 2 Z) (by constructor<;>omega) (by assumption)) H3 (fun w4 e4 H4=>sA Z Z (aa (ac (ab (sR 2 Z (aa (au Z (fun c3=>?_) (fun c3=>?_)))))))))))))
   ·exact absurd c3 (by omega)
   ·refine aj (ab (sR 2 Z (rN hQ results78 Z ?_)));exact ⟨H4.ext,congrArg (Value.int .i64) (by omega)⟩
theorem eQ {w:World}{x:Wld}{c s0 s1 s2 s3 s4 s5 s6 s7 s8 wr sp k:Int}{dn:Bool}{A9 A10 A11:Option Addr}{n9 C9 n10 C10 n11 C11:Nat}(e9:Sees w [.slice A9 n9 C9] x.Groups) (e10:Sees w [.slice A10 n10 C10] x.On) (e11:Sees w [.slice A11 n11 C11] x.Tapes) (hk:0≤k∧k+cj x≤4611686018427387904) (hm:MkWld x k):Ret Tryz.prog 23 #[.agg #[.int .i64 c,.int .i64 s0,.int .i64 s1,.int .i64 s2,.int .i64 s3,.int .i64 s4,.int .i64 s5,.int .i64 s6,.int .i64 s7,.int .i64 s8,.slice A9 n9 C9,.slice A10 n10 C10,.slice A11 n11 C11,.int .i64 wr,.int .i64 sp,.bool dn],.int .i64 k] w fun v w'=>Ext No w w'∧(v = .int .i64 (k+cj x)):=by
 obtain ⟨f9,o9⟩:=e9;obtain rfl:=dH o9;obtain ⟨f10,o10⟩:=e10;obtain rfl:=dH o10;obtain ⟨f11,o11⟩:=e11;obtain rfl:=dH o11
 skip
 refine aH (vs:=[.agg #[.int .i64 c,.int .i64 s0,.int .i64 s1,.int .i64 s2,.int .i64 s3,.int .i64 s4,.int .i64 s5,.int .i64 s6,.int .i64 s7,.int .i64 s8,.slice A9 x.Groups.length C9,.slice A10 x.On.length C10,.slice A11 x.Tapes.length C11,.int .i64 wr,.int .i64 sp,.bool dn],.int .i64 k]) func23 Z ntmps23 Z (fun Q hQ hN=>?_);have H0:=Sep.start (w:=w) (F:=[seen false [.slice A9 x.Groups.length C9] x.Groups f9,seen false [.slice A10 x.On.length C10] x.On f10,seen false [.slice A11 x.Tapes.length C11] x.Tapes f11]) (ae o9 (ae o10 (ae o11 (by simp))));refine ab (ba (wn Z) Z Z H0 (fun b1 w1 e1 g1 H1=>sA Z Z (aa (ab (sF fi Z cP (sV Z (ak aU Z cP Z Z (At.sub (H1.box 0 Z) 15)) (sM Z Z (sE func78 xd Z (lj (H1.sees 0 Z) (H1.sees 1 Z) (H1.sees 2 Z) (by constructor<;>omega) (by assumption)) H1 (fun w2 e2 H2=>sA Z Z (aa (ac (ab (sR 2 Z (aa (au Z (fun c1=>?_) (fun c1=>?_))))))))))))))))
 ·exact absurd c1 (by omega)
 ·refine aj (ab (sR 2 Z (rN hQ results23 Z ?_)));exact ⟨H2.ext,Z⟩
theorem iw {w:World}{y:WldResult}{yA10 yA11 yA12:Option Addr}{yC10 yC11 yC12:Nat}{k:Int}{fp:List Nat}(o:own true w [.int .i64 y.Code,.int .i64 y.Wd.Shape.Groups,.int .i64 y.Wd.Shape.Column,.int .i64 y.Wd.Shape.Data,.int .i64 y.Wd.Shape.Spare,.int .i64 y.Wd.Shape.Rows,.int .i64 y.Wd.Shape.Cap,.int .i64 y.Wd.Shape.Batch,.int .i64 y.Wd.Shape.Queue,.int .i64 y.Wd.Shape.Stage,.slice yA10 y.Wd.Groups.length yC10,.slice yA11 y.Wd.On.length yC11,.slice yA12 y.Wd.Tapes.length yC12,.int .i64 y.Wd.Writes,.int .i64 y.Wd.Stop,.bool y.Wd.Down] y fp) (nd:fp.Nodup) (hk:0≤k∧k+cj y.Wd≤4611686018427387904):Ret Tryz.prog 22 #[y.val yA10 yC10 yA11 yC11 yA12 yC12,.int .i64 k] w fun v w'=>(v = .int .i64 (k+cj y.Wd)∧∃ x':Wld,Mut w w' fp [.int .i64 y.Code,.int .i64 y.Wd.Shape.Groups,.int .i64 y.Wd.Shape.Column,.int .i64 y.Wd.Shape.Data,.int .i64 y.Wd.Shape.Spare,.int .i64 y.Wd.Shape.Rows,.int .i64 y.Wd.Shape.Cap,.int .i64 y.Wd.Shape.Batch,.int .i64 y.Wd.Shape.Queue,.int .i64 y.Wd.Shape.Stage,.slice yA10 y.Wd.Groups.length yC10,.slice yA11 y.Wd.On.length yC11,.slice yA12 y.Wd.Tapes.length yC12,.int .i64 y.Wd.Writes,.int .i64 y.Wd.Stop,.bool y.Wd.Down] (⟨y.Code,x'⟩:WldResult)∧(x'.Groups.length=y.Wd.Groups.length∧x'.On.length=y.Wd.On.length∧x'.Tapes.length=y.Wd.Tapes.length∧cj x'=cj y.Wd∧MkWld x' k∧x'.Shape=y.Wd.Shape∧x'.Writes=y.Wd.Writes∧x'.Stop=y.Wd.Stop∧x'.Down=y.Wd.Down)):=by
 refine aH (vs:=[y.val yA10 yC10 yA11 yC11 yA12 yC12,.int .i64 k]) func22 Z ntmps22 Z (fun Q hQ hN=>?_);obtain ⟨f10,f11,f12,ef,ok,o10,o11,o12⟩:=dO o;have H0:=(Sep.begin o nd).conv 0 (mine [.int .i64 y.Wd.Shape.Groups,.int .i64 y.Wd.Shape.Column,.int .i64 y.Wd.Shape.Data,.int .i64 y.Wd.Shape.Spare,.int .i64 y.Wd.Shape.Rows,.int .i64 y.Wd.Shape.Cap,.int .i64 y.Wd.Shape.Batch,.int .i64 y.Wd.Shape.Queue,.int .i64 y.Wd.Shape.Stage,.slice yA10 y.Wd.Groups.length yC10,.slice yA11 y.Wd.On.length yC11,.slice yA12 y.Wd.Tapes.length yC12,.int .i64 y.Wd.Writes,.int .i64 y.Wd.Stop,.bool y.Wd.Down] y.Wd (f10++(f11++f12))) Z (Wld.own_mk ok.2 o10 o11 o12) (fun b hb=>by rw [ef]; exact hb) (by rw [← ef]; exact nd)
 try dsimp only[lNA,lCA,lSZ,lSS] at H0
 have okW:=ok.2;refine ab (ba (wn Z) Z Z H0 (fun b1 w1 e1 g1 H1=>sA Z Z (aa (ab (sF fi Z cP (sV Z (ak aU Z cP Z Z (At.sub (H1.box 1 Z) 15)) (sM Z Z (sC func21 rn Z (gM (by assumption) (H1.mine 0 Z) (H1.nodup1 (i:=0) Z) (by constructor<;>omega)) (fun v1 w2 r1=>?_)))))))));obtain ⟨rfl,mx1,mm1,ml1⟩:=r1;obtain ⟨fp1,H2⟩:=H1.mut 0 Z mm1
 try dsimp only[lNA,lCA,lSZ,lSS] at H2
 refine sA Z Z (aa (ab (sR 2 Z (rN hQ results22 Z ?_))));exact ⟨Z,mx1,WldResult.mutW ok (H2.dtake 1),ml1⟩
theorem dP {w:World}{a:WldResult}{aA10 aA11 aA12:Option Addr}{aC10 aC11 aC12:Nat}{b:WldResult}{bA10 bA11 bA12:Option Addr}{bC10 bC11 bC12:Nat}(aK:a.Ok) (aS10:Sees w [.slice aA10 a.Wd.Groups.length aC10] a.Wd.Groups) (aS11:Sees w [.slice aA11 a.Wd.On.length aC11] a.Wd.On) (aS12:Sees w [.slice aA12 a.Wd.Tapes.length aC12] a.Wd.Tapes) (bK:b.Ok) (bS10:Sees w [.slice bA10 b.Wd.Groups.length bC10] b.Wd.Groups) (bS11:Sees w [.slice bA11 b.Wd.On.length bC11] b.Wd.On) (bS12:Sees w [.slice bA12 b.Wd.Tapes.length bC12] b.Wd.Tapes):Ret Tryz.prog 19 #[a.val aA10 aC10 aA11 aC11 aA12 aC12,b.val bA10 bC10 bA11 bC11 bA12 bC12] w fun v w'=>Ext No w w'∧(v = .bool (decide (a=b))):=by
 have aK2:=aK;unfold WldResult.Ok Wld.Ok Shape.Ok at aK2
 try unfold I64ok at aK2
 try unfold maxLen at aK2
 have aL10:=sL aS10;obtain ⟨aF10,aO10⟩:=aS10;have aL11:=sL aS11;obtain ⟨aF11,aO11⟩:=aS11;have aL12:=sL aS12;obtain ⟨aF12,aO12⟩:=aS12;have bK2:=bK;unfold WldResult.Ok Wld.Ok Shape.Ok at bK2
 try unfold I64ok at bK2
 try unfold maxLen at bK2
 have bL10:=sL bS10;obtain ⟨bF10,bO10⟩:=bS10;have bL11:=sL bS11;obtain ⟨bF11,bO11⟩:=bS11;have bL12:=sL bS12;obtain ⟨bF12,bO12⟩:=bS12;have aK3:=aK.2;have bK3:=bK.2;refine aH (vs:=[a.val aA10 aC10 aA11 aC11 aA12 aC12,b.val bA10 bC10 bA11 bC11 bA12 bC12]) func19 Z ntmps19 Z (fun Q hQ hN=>?_);have H0:=Sep.start (w:=w) (F:=[seen false [.slice aA10 a.Wd.Groups.length aC10] a.Wd.Groups aF10,seen false [.slice aA11 a.Wd.On.length aC11] a.Wd.On aF11,seen false [.slice aA12 a.Wd.Tapes.length aC12] a.Wd.Tapes aF12,seen false [.slice bA10 b.Wd.Groups.length bC10] b.Wd.Groups bF10,seen false [.slice bA11 b.Wd.On.length bC11] b.Wd.On bF11,seen false [.slice bA12 b.Wd.Tapes.length bC12] b.Wd.Tapes bF12]) (ae aO10 (ae aO11 (ae aO12 (ae bO10 (ae bO11 (ae bO12 (by simp)))))));refine ab (ba (wn Z) Z Z H0 (fun b1 w1 e1 g1 H1=>ba (wn Z) Z Z H1 (fun b2 w2 e2 g2 H2=>sA Z Z (aa (ac (ab (sF fi Z ts2 (sLd tu2 (H2.box 0 Z) Z (sF fi Z ts2 (sLd tu2 (H2.box 1 Z) Z (sV Z (bp Z Z) (aa (au Z (fun c1=>?_) (fun c1=>?_))))))))))))))
 ·refine ab (sA Z Z (aa (rT hQ results19 Z (⟨H2.ext,?_⟩))));rw [decide_eq_false (fun e=>by subst e; first | exact c1 rfl | simp at c1)]
 ·refine aj (ac (ab (sF fi Z cP (sV Z (ak aU Z cP Z Z (At.sub (H2.box 0 Z) 15)) (sF fi Z cP (sV Z (ak aU Z cP Z Z (At.sub (H2.box 1 Z) 15)) (sE func20 qT Z (iA (by assumption) (H2.sees 0 Z) (H2.sees 1 Z) (H2.sees 2 Z) (by assumption) (H2.sees 3 Z) (H2.sees 4 Z) (H2.sees 5 Z)) H2 (fun w3 e3 H3=>sV Z (aZ Z) (aa (bL Z (fun c2=>?_) (fun c2=>?_)))))))))))
  ·refine ab (sA Z Z (aa (rT hQ results19 Z (⟨H3.ext,?_⟩))));rw [decide_eq_false (fun e=>by subst e; first | exact c2 rfl | simp at c2)]
  ·refine aj (ab (sA Z Z (aa (rT hQ results19 Z (⟨H3.ext,?_⟩)))));rw [decide_eq_true];cases a; cases b; simp_all
end Go.Wk
namespace Go.Wk
open Go.Proofs Rp Go.Proofs.Tryz
set_option maxRecDepth 10000
theorem gx {w:World}{zb zC9 zC10 zC11:Nat}{z:Wld}{zA9 zA10 zA11:Option Addr}(zB:w.heap[zb]? = some (.cells [.int .i64 z.Shape.Groups,.int .i64 z.Shape.Column,.int .i64 z.Shape.Data,.int .i64 z.Shape.Spare,.int .i64 z.Shape.Rows,.int .i64 z.Shape.Cap,.int .i64 z.Shape.Batch,.int .i64 z.Shape.Queue,.int .i64 z.Shape.Stage,.slice zA9 z.Groups.length zC9,.slice zA10 z.On.length zC10,.slice zA11 z.Tapes.length zC11,.int .i64 z.Writes,.int .i64 z.Stop,.bool z.Down].toArray 34)) (zK:z.Ok) (zS9:Sees w [.slice zA9 z.Groups.length zC9] z.Groups) (zS10:Sees w [.slice zA10 z.On.length zC10] z.On) (zS11:Sees w [.slice zA11 z.Tapes.length zC11] z.Tapes) (hT:z.Tapes.length=2):Ret Tryz.prog 197 #[.pointer (some ⟨zb,0,none⟩)] w fun v w'=>Ext No w w'∧(v = .int .i64 (rh z)):=by
 have zK2:=zK;unfold Wld.Ok Shape.Ok at zK2
 try unfold I64ok at zK2
 try unfold maxLen at zK2
 have zL9:=sL zS9;obtain ⟨zF9,zO9⟩:=zS9;have zL10:=sL zS10;obtain ⟨zF10,zO10⟩:=zS10;have zL11:=sL zS11;obtain ⟨zF11,zO11⟩:=zS11;refine aH (vs:=[.pointer (some ⟨zb,0,none⟩)]) func197 Z ntmps197 Z (fun Q hQ hN=>?_);have H0:=Sep.start (w:=w) (F:=[box zb (.cells [.int .i64 z.Shape.Groups,.int .i64 z.Shape.Column,.int .i64 z.Shape.Data,.int .i64 z.Shape.Spare,.int .i64 z.Shape.Rows,.int .i64 z.Shape.Cap,.int .i64 z.Shape.Batch,.int .i64 z.Shape.Queue,.int .i64 z.Shape.Stage,.slice zA9 z.Groups.length zC9,.slice zA10 z.On.length zC10,.slice zA11 z.Tapes.length zC11,.int .i64 z.Writes,.int .i64 z.Stop,.bool z.Down].toArray 34),seen false [.slice zA9 z.Groups.length zC9] z.Groups zF9,seen false [.slice zA10 z.On.length zC10] z.On zF10,seen false [.slice zA11 z.Tapes.length zC11] z.Tapes zF11]) (ae (by exact zB) (ae zO9 (ae zO10 (ae zO11 (by simp)))));refine ab (sA Z Z (aa (ac ?_)));obtain ⟨eb1,eo1,es1,ef1,ee1,ec1,eO1,eH1,em1⟩:=aV (H0.seen 3 Z) 0 (by omega);obtain ⟨ea1,ek1,eg1,rfl,eq1,eK1,eo2⟩:=bN eO1;have eP1:=H0.look1 3 Z eo2 (fun b hb=>eH1 b (by rw [eq1]; simp [hb]));have eL1:=oL eo2;obtain ⟨eb2,eo3,es2,ef2,ee2,ec2,eO2,eH2,em2⟩:=aV (eP1.seen 3 Z) 1 (by omega);obtain ⟨ea2,ek2,eg2,rfl,eq2,eK2,eo4⟩:=bN eO2;have eP2:=eP1.look1 3 Z eo4 (fun b hb=>eH2 b (by rw [eq2]; simp [hb]));have eL2:=oL eo4;refine bz (S:=Ext No _) (oQ [1,3,5,7,9,11,13,17,19,21,23,25,27,29,14,30,33,35,36]) (by kernel_rfl) (by kernel_rfl) (by kernel_rfl) Z (fun _=>Ext.refl.drawn _) (fun q1=>?_);have H1:=eP2.drawn q1;refine dR 2 Z (dV Z Z (fun zw hx=>ag aU Z cX Z Z) (dV Z Z (fun zw hx=>ah bC Z Z (al (hx.heap (H1.fbox 0 Z)) Z)) (dV Z Z (fun zw hx=>ay bC bS Z Z ee1 0 (by omega) (by omega)) (dV Z Z (fun zw hx=>ag bJ Z dE Z Z) (dV Z Z (fun zw hx=>ah aO Z Z (be (hx.at ec1) 1 Z)) (dR 2 Z (dV Z Z (fun zw hx=>ag aU Z cX Z Z) (dV Z Z (fun zw hx=>ah bC Z Z (al (hx.heap (H1.fbox 0 Z)) Z)) (dV Z Z (fun zw hx=>ay bC bS Z Z ee2 1 (by omega) (by omega)) (dV Z Z (fun zw hx=>ag bJ Z dE Z Z) (dV Z Z (fun zw hx=>ah aO Z Z (be (hx.at ec2) 1 Z)) (dC func208 p3 Z (lz (H1.sees 4 Z)) (fun v1 w1 r1=>?_)))))))))))));obtain ⟨e1,rfl⟩:=r1;have H2:=H1.to e1;refine dC func208 p3 Z (lz (H2.sees 5 Z)) (fun v2 w2 r2=>?_);obtain ⟨e2,rfl⟩:=r2;have H3:=H2.to e2;refine dV Z Z (fun zw hx=>AS Z Z) (dV Z Z (fun zw hx=>bu Z Z iO) (aR Z (wn Z) Z Z (bk Z) (aS (rT hQ results197 Z ?_))));exact ⟨H3.ext,congrArg (Value.int .i64) (by unfold rh; split<;>omega)⟩
theorem nR {w:World}{zb zC9 zC10 zC11:Nat}{z:Wld}{zA9 zA10 zA11:Option Addr}{m:Int}(zB:w.heap[zb]? = some (.cells [.int .i64 z.Shape.Groups,.int .i64 z.Shape.Column,.int .i64 z.Shape.Data,.int .i64 z.Shape.Spare,.int .i64 z.Shape.Rows,.int .i64 z.Shape.Cap,.int .i64 z.Shape.Batch,.int .i64 z.Shape.Queue,.int .i64 z.Shape.Stage,.slice zA9 z.Groups.length zC9,.slice zA10 z.On.length zC10,.slice zA11 z.Tapes.length zC11,.int .i64 z.Writes,.int .i64 z.Stop,.bool z.Down].toArray 34)) (zK:z.Ok) (zS9:Sees w [.slice zA9 z.Groups.length zC9] z.Groups) (zS10:Sees w [.slice zA10 z.On.length zC10] z.On) (zS11:Sees w [.slice zA11 z.Tapes.length zC11] z.Tapes) (hT:z.Tapes.length=2) (hm:0≤m∧m≤10) (hr:(z.Tapes.getD 0 default).Recs.length≤1000∧(z.Tapes.getD 1 default).Recs.length≤1000):Ret Tryz.prog 134 #[.pointer (some ⟨zb,0,none⟩),.int .i64 m] w fun v w'=>Ext No w w'∧(v = .bool (wq z m)):=by
 have zK2:=zK;unfold Wld.Ok Shape.Ok at zK2
 try unfold I64ok at zK2
 try unfold maxLen at zK2
 have zL9:=sL zS9;obtain ⟨zF9,zO9⟩:=zS9;have zL10:=sL zS10;obtain ⟨zF10,zO10⟩:=zS10;have zL11:=sL zS11;obtain ⟨zF11,zO11⟩:=zS11;refine aH (vs:=[.pointer (some ⟨zb,0,none⟩),.int .i64 m]) func134 Z ntmps134 Z (fun Q hQ hN=>?_);have H0:=Sep.start (w:=w) (F:=[box zb (.cells [.int .i64 z.Shape.Groups,.int .i64 z.Shape.Column,.int .i64 z.Shape.Data,.int .i64 z.Shape.Spare,.int .i64 z.Shape.Rows,.int .i64 z.Shape.Cap,.int .i64 z.Shape.Batch,.int .i64 z.Shape.Queue,.int .i64 z.Shape.Stage,.slice zA9 z.Groups.length zC9,.slice zA10 z.On.length zC10,.slice zA11 z.Tapes.length zC11,.int .i64 z.Writes,.int .i64 z.Stop,.bool z.Down].toArray 34),seen false [.slice zA9 z.Groups.length zC9] z.Groups zF9,seen false [.slice zA10 z.On.length zC10] z.On zF10,seen false [.slice zA11 z.Tapes.length zC11] z.Tapes zF11]) (ae (by exact zB) (ae zO9 (ae zO10 (ae zO11 (by simp)))));refine ab (sA Z Z (aa (ac ?_)));obtain ⟨eb1,eo1,es1,ef1,ee1,ec1,eO1,eH1,em1⟩:=aV (H0.seen 3 Z) 0 (by omega);obtain ⟨ea1,ek1,eg1,rfl,eq1,eK1,eo2⟩:=bN eO1;have eP1:=H0.look1 3 Z eo2 (fun b hb=>eH1 b (by rw [eq1]; simp [hb]));have eL1:=oL eo2;refine an (sR 2 Z (sF aU Z cX (sLd bC (eP1.fbox 0 Z) Z (sV Z (ay bC bS Z Z ee1 0 (by omega) (by omega)) (sF bJ Z dE (sV Z (ah aO Z Z (be ec1 1 Z)) (sV Z (aB aO Z) (sM Z Z (sV Z (aA Z Z iO) (sR 2 Z (cK (t:=16) Z (fun hg1=>?_) (fun hg1=>?_))))))))))))
 ·try simp only [decide_eq_true_eq,decide_eq_false_iff_not] at hg1
  refine sR 11 Z (sV Z (aI Z Z) (rA hQ results134 Z ?_));exact ⟨eP1.ext,congrArg Value.bool (by unfold wq; rw [decide_eq_true (p:=200<((z.Tapes.getD 0 default).Recs.length:Int)+m) hg1]; rfl)⟩
 ·try simp only [decide_eq_true_eq,decide_eq_false_iff_not] at hg1
  refine am (wg Z Z Z) Z Z (aM Z) (am (wg Z Z Z) Z Z (eA Z) (am (wg Z Z Z) Z Z (ag aU Z cX Z Z) (am (wg Z Z Z) Z Z (ah bC Z Z (al (eP1.fbox 0 Z) Z)) ?_)));obtain ⟨eb2,eo3,es2,ef2,ee2,ec2,eO2,eH2,em2⟩:=aV (eP1.seen 3 Z) 1 (by omega);obtain ⟨ea2,ek2,eg2,rfl,eq2,eK2,eo4⟩:=bN eO2;have eP2:=eP1.look1 3 Z eo4 (fun b hb=>eH2 b (by rw [eq2]; simp [hb]));have eL2:=oL eo4;refine am (wg Z Z Z) Z Z (ay bC bS Z Z ee2 1 (by omega) (by omega)) (am (wg Z Z Z) Z Z (ag bJ Z dE Z Z) (am (wg Z Z Z) Z Z (ah aO Z Z (be ec2 1 Z)) (am (wg Z Z Z) Z Z (aB aO Z) (am (wg Z Z Z) Z Z (aM Z) (am (wg Z Z Z) Z Z (aA Z Z iO) (am (wg Z Z Z) Z Z (cV Z Z) (sV Z (aP Z Z) (rA hQ results134 Z ?_))))))));exact ⟨eP2.ext,congrArg Value.bool (by unfold wq; rw [decide_eq_false (p:=200<((z.Tapes.getD 0 default).Recs.length:Int)+m) hg1]; rfl)⟩
theorem iY {w:World}{d:Bool}  : Ret Tryz.prog 236 #[.bool d] w fun v w'=>Ext No w w'∧(v = .int .i64 (if d=true then 0 else 9)):=by
 refine aH (vs:=[.bool d]) func236 Z ntmps236 Z (fun Q hQ hN=>?_);have H0:=Sep.start (w:=w) (F:=[]) (by simp);refine ab (sA Z Z (aa (ac (ab (sM Z Z (sV Z (aZ Z) (aa (bL Z (fun c1=>?_) (fun c1=>?_)))))))))
 ·refine ab (rA hQ results236 Z ?_);exact ⟨H0.ext,by simp_all⟩
 ·refine aj (ab (rA hQ results236 Z ?_));exact ⟨H0.ext,by simp_all⟩
theorem li {w:World}{z:Wld}{zb:Nat}{fp:List Nat}(o:OwnW w zb 34 z fp) (nd:fp.Nodup):Ret Tryz.prog 308 #[.pointer (some ⟨zb,0,none⟩)] w fun v w'=>(MutW w w' fp zb 34 (sj z)):=by
 refine aH (vs:=[.pointer (some ⟨zb,0,none⟩)]) func308 Z ntmps308 Z (fun Q hQ hN=>?_);have H0:=Sep.beginW o nd;obtain ⟨wA1,wC1,wA2,wC2,wA3,wC3,wf1,wf2,wf3,wok1,H1⟩:=H0.openW 0 Z
 try dsimp only[lNA,lCA,lSZ,lSS] at H1
 have wok1U:=wok1;unfold Wld.Ok Shape.Ok I64ok at wok1U;have wL1:=oL (H1.mine 2 Z);have wL2:=oL (H1.mine 3 Z);have wL3:=oL (H1.mine 4 Z);refine an (sR 3 Z (sF aU Z ts4 (bA (wn Z) ts4 Z Z Z H1 0 Z Z (fun w1 e1 H2=>?_))));dsimp only[lNA,lCA,lSZ,lSS,aN] at H2;refine sV Z (eA Z) (sF aU Z bB (bA (wn Z) bB Z Z Z H2 0 Z Z (fun w2 e2 H3=>?_)));dsimp only[lNA,lCA,lSZ,lSS,aN] at H3;refine aa (hN _ _ (kG results308 ?_));have H4:=H3.nilW (α:=Int)
 try dsimp only[lNA,lCA,lSZ,lSS] at H4
 obtain ⟨fp1,H5⟩:=H4.closeW 0 2 5 4 (sj z) Z Z Z Z Z Z Z Z Z Z (oZ wok1)
 try dsimp only[lNA,lCA,lSZ,lSS] at H5
 have hz:=H5.doneW;exact hz
theorem la {w:World}{z y:Wld}{zb:Nat}{fp:List Nat}{dof:FuncId}{doL:List Value}{doF:Func}(o:OwnW w zb 34 z fp) (nd:fp.Nodup) (doH:Tryz.prog.funcs[dof]? = some doF) (doB:doF.body.isNone=false) (doN:NG doF) (doC:∀ w1 fp1,OwnW w1 zb 34 z fp1→fp1.Nodup→(∀ x∈fp1,x∈fp∨w.heap.size≤x)→Ext (· ∈ fp) w w1→Ret Tryz.prog dof doL.toArray w1 fun v w'=>MutW w1 w' fp1 zb 34 y) (hy:y.Writes≤2000000000):Ret Tryz.prog 242 #[.pointer (some ⟨zb,0,none⟩),.func (.func dof) #[] doL.toArray] w fun v w'=>(v = .bool (!bQ z)∧MutW w w' fp zb 34 (qL z y)):=by
 refine aH (vs:=[.pointer (some ⟨zb,0,none⟩),.func (.func dof) #[] doL.toArray]) func242 Z ntmps242 Z (fun Q hQ hN=>?_);have H0:=Sep.beginW o nd;refine ab (sA Z Z (aa (ac (ac ?_))));obtain ⟨wA1,wC1,wA2,wC2,wA3,wC3,wf1,wf2,wf3,wok1,H1⟩:=H0.openW 0 Z
 try dsimp only[lNA,lCA,lSZ,lSS] at H1
 have wok1U:=wok1;unfold Wld.Ok Shape.Ok I64ok at wok1U;have wL1:=oL (H1.mine 2 Z);have wL2:=oL (H1.mine 3 Z);have wL3:=oL (H1.mine 4 Z);refine bz (S:=Ext No _) (oQ [1,3,5,7,9,11,13,15,17,19,21,23,25,27,29,30]) (by kernel_rfl) (by kernel_rfl) (by kernel_rfl) Z (fun _=>Ext.refl.drawn _) (fun q1=>?_);have H2:=H1.drawn q1;refine dR 2 Z (dV Z Z (fun zw hx=>ag aU Z ts2 Z Z) (dV Z Z (fun zw hx=>ah tu2 Z Z (al (hx.heap (H2.box 0 Z)) Z)) (dR 2 Z (cd (t:=10) Z (fun hg1=>?_) (fun hg1=>?_)))))
 ·try simp only [decide_eq_true_eq,decide_eq_false_iff_not] at hg1
  refine aF Z (wg Z Z Z) Z Z (fun zw hx=>aM Z) (aF Z (wg Z Z Z) Z Z (fun zw hx=>eA Z) (aF Z (wg Z Z Z) Z Z (fun zw hx=>ag aU Z ts2 Z Z) (aF Z (wg Z Z Z) Z Z (fun zw hx=>ah tu2 Z Z (al (hx.heap (H2.box 0 Z)) Z)) (aF Z (wg Z Z Z) Z Z (fun zw hx=>aM Z) (aF Z (wg Z Z Z) Z Z (fun zw hx=>eA Z) (aF Z (wg Z Z Z) Z Z (fun zw hx=>ag aU Z ts2 Z Z) (aF Z (wg Z Z Z) Z Z (fun zw hx=>ah tu2 Z Z (al (hx.heap (H2.box 0 Z)) Z)) (aF Z (wg Z Z Z) Z Z (fun zw hx=>sb Z Z) (aR Z (wn Z) Z Z (aI Z Z) (aS (au Z (fun c1=>?_) (fun c1=>?_))))))))))))
  ·refine ac ?_;have hnp:bQ z=true:=ol (by omega) (by omega);refine an (sM Z Z ?_);obtain ⟨fp1,H3⟩:=H2.closeW 0 2 3 4 z Z Z Z Z Z Z Z Z Z Z wok1
   try dsimp only[lNA,lCA,lSZ,lSS] at H3
   refine sC func308 vc Z (li (H3.wldAt 0 Z) (H3.nodup1 (i:=0) Z)) (fun v1 w1 r1=>?_);have mm1:=r1;obtain ⟨fp2,H4⟩:=H3.mutW 0 Z mm1
   try dsimp only[lNA,lCA,lSZ,lSS] at H4
   refine aa (ab (rA hQ results242 Z ?_));have hz:=H4.doneW;rw [← mF (y:=y) hnp] at hz;exact ⟨(by rw [hnp]; rfl),hz⟩
  ·refine aj (ac ?_);have hnp:bQ z=false:=jp (.inr (by omega));refine an (sM Z Z ?_);obtain ⟨fp3,H5⟩:=H2.closeW 0 2 3 4 z Z Z Z Z Z Z Z Z Z Z wok1
   try dsimp only[lNA,lCA,lSZ,lSS] at H5
   refine dG (wn Z) Z Z (fc (lb:=doL) Z doH doB doN Z) (doC _ _ (H5.wldAt 0 Z) (H5.nodup1 (i:=0) Z) (fun x hx=>H5.new x (H5.inB 0 Z hx)) H5.ext) (fun v2 w2 r2=>?_);obtain ⟨fp4,H6⟩:=H5.mutW 0 Z r2
   try dsimp only[lNA,lCA,lSZ,lSS] at H6
   refine aa (ac ?_);obtain ⟨wA4,wC4,wA5,wC5,wA6,wC6,wf4,wf5,wf6,wok2,H7⟩:=H6.openW 0 Z
   try dsimp only[lNA,lCA,lSZ,lSS] at H7
   have wok2U:=wok2;unfold Wld.Ok Shape.Ok I64ok at wok2U;have wL4:=oL (H7.mine 6 Z);have wL5:=oL (H7.mine 7 Z);have wL6:=oL (H7.mine 8 Z);refine an (sR 2 Z (sF aU Z ts2 (sLd tu2 (H7.box 0 Z) Z (sV Z (aA Z Z iO) (sV Z (eA Z) (sF aU Z ts2 (bA (wn Z) ts2 Z Z Z H7 0 Z Z (fun w3 e2 H8=>?_))))))));dsimp only[lNA,lCA,lSZ,lSS,aN] at H8;refine aa (ab (rA hQ results242 Z ?_));obtain ⟨fp5,H9⟩:=H8.closeW 0 6 7 8 (ls y) Z Z Z Z Z Z Z Z Z Z (ky wok2 hy)
   try dsimp only[lNA,lCA,lSZ,lSS] at H9
   have hz:=H9.doneW;rw [← fP hnp] at hz;exact ⟨(by rw [hnp]; rfl),hz⟩
 ·try simp only [decide_eq_true_eq,decide_eq_false_iff_not] at hg1
  refine dR 9 Z (aR Z (wn Z) Z Z (aP Z Z) (aS (iG Z (aj (ac ?_)))));have hnp:bQ z=false:=jp (.inl (by omega));refine an (sM Z Z ?_);obtain ⟨fp6,H10⟩:=H2.closeW 0 2 3 4 z Z Z Z Z Z Z Z Z Z Z wok1
  try dsimp only[lNA,lCA,lSZ,lSS] at H10
  refine dG (wn Z) Z Z (fc (lb:=doL) Z doH doB doN Z) (doC _ _ (H10.wldAt 0 Z) (H10.nodup1 (i:=0) Z) (fun x hx=>H10.new x (H10.inB 0 Z hx)) H10.ext) (fun v3 w4 r3=>?_);obtain ⟨fp7,H11⟩:=H10.mutW 0 Z r3
  try dsimp only[lNA,lCA,lSZ,lSS] at H11
  refine aa (ac ?_);obtain ⟨wA7,wC7,wA8,wC8,wA9,wC9,wf7,wf8,wf9,wok3,H12⟩:=H11.openW 0 Z
  try dsimp only[lNA,lCA,lSZ,lSS] at H12
  have wok3U:=wok3;unfold Wld.Ok Shape.Ok I64ok at wok3U;have wL7:=oL (H12.mine 6 Z);have wL8:=oL (H12.mine 7 Z);have wL9:=oL (H12.mine 8 Z);refine an (sR 2 Z (sF aU Z ts2 (sLd tu2 (H12.box 0 Z) Z (sV Z (aA Z Z iO) (sV Z (eA Z) (sF aU Z ts2 (bA (wn Z) ts2 Z Z Z H12 0 Z Z (fun w5 e3 H13=>?_))))))));dsimp only[lNA,lCA,lSZ,lSS,aN] at H13;refine aa (ab (rA hQ results242 Z ?_));obtain ⟨fp8,H14⟩:=H13.closeW 0 6 7 8 (ls y) Z Z Z Z Z Z Z Z Z Z (ky wok3 hy)
  try dsimp only[lNA,lCA,lSZ,lSS] at H14
  have hz:=H14.doneW;rw [← fP hnp] at hz;exact ⟨(by rw [hnp]; rfl),hz⟩
theorem gQ {w:World}{z:Wld}{zb t b1 b2 b3 rC6 rC7 rC8:Nat}{fp rF6 rF7 rF8:List Nat}{r:Rec}{rA6 rA7 rA8:Option Addr}(o:OwnW w zb 34 z fp) (nd:fp.Nodup) (h1:w.heap[b1]? = some (.cells [.pointer (some ⟨zb,0,none⟩)].toArray 76)) (d1:b1 ∉ fp) (h2:w.heap[b2]? = some (.cells [.int .i64 (t:Nat)].toArray 2)) (d2:b2 ∉ fp) (h3:w.heap[b3]? = some (.cells [.int .i64 r.Kind,.int .i64 r.Seq,.string r.Name,.int .i64 r.Length,.int .i64 r.Group,.int .i64 r.Row,.slice rA6 r.Rows.length rC6,.slice rA7 r.Data.length rC7,.slice rA8 r.Delta.length rC8].toArray 94)) (d3:b3 ∉ fp) (rO6:own false w [.slice rA6 r.Rows.length rC6] r.Rows rF6) (rD6:∀ b∈rF6,b ∉ fp) (rO7:own false w [.slice rA7 r.Data.length rC7] r.Data rF7) (rD7:∀ b∈rF7,b ∉ fp) (rO8:own false w [.slice rA8 r.Delta.length rC8] r.Delta rF8) (rD8:∀ b∈rF8,b ∉ fp) (rK:r.Ok) (ht:t<z.Tapes.length) (hb:ca r≤1048576) (hl:(z.Tapes.getD t default).Recs.length≤100000):Ret Tryz.prog 243 #[.pointer (some ⟨b1,0,none⟩),.pointer (some ⟨b2,0,none⟩),.pointer (some ⟨b3,0,none⟩)] w fun v w'=>(MutW w w' fp zb 34 (lm t r z)):=by
 have rK2:=rK;unfold Rec.Ok at rK2
 try unfold I64ok at rK2
 try unfold maxLen at rK2
 have rN2:r.Name.size≤maxLen:=by unfold maxLen; omega
 have rL6:=oL rO6;have rL7:=oL rO7;have rL8:=oL rO8;refine aH (vs:=[.pointer (some ⟨b1,0,none⟩),.pointer (some ⟨b2,0,none⟩),.pointer (some ⟨b3,0,none⟩)]) func243 Z ntmps243 Z (fun Q hQ hN=>?_);have H0:=(((((((Sep.beginW o nd).boxF h1 d1).boxF h2 d2).boxF h3 d3).seeF rO6 rD6).seeF rO7 rD7).seeF rO8 rD8)
 try dsimp only[lNA,lCA,lSZ,lSS] at H0
 refine ac ?_;obtain ⟨wA1,wC1,wA2,wC2,wA3,wC3,wf1,wf2,wf3,wok1,H1⟩:=H0.openW 0 Z
 try dsimp only[lNA,lCA,lSZ,lSS] at H1
 have wok1U:=wok1;unfold Wld.Ok Shape.Ok I64ok at wok1U;have wL1:=oL (H1.mine 2 Z);have wL2:=oL (H1.mine 3 Z);have wL3:=oL (H1.mine 4 Z);obtain ⟨eb1,eo1,eT1,eF1,eG1,ea1,ek1,eg1,ee1,eK1,eH1⟩:=Tape.focus H1 4 Z t (by omega);have eK1U:=eK1;unfold Tape.Ok at eK1U
 try unfold I64ok at eK1U
 try unfold maxLen at eK1U
 try dsimp only[lNA,lCA,lSZ,lSS] at eH1
 refine bz (S:=Ext No _) (oQ [1,3,5,7,9,11,12]) (by kernel_rfl) (by kernel_rfl) (by kernel_rfl) Z (fun _=>Ext.refl.drawn _) (fun q1=>?_);have H2:=eH1.drawn q1;refine dV Z Z (fun zw hx=>ah Bs Z Z (al (hx.heap (H2.fbox 0 Z)) Z)) (dV Z Z (fun zw hx=>eA Z) (dV Z Z (fun zw hx=>ag aU Z cX Z Z) (dV Z Z (fun zw hx=>ah bC Z Z (al (hx.heap (H2.box 0 Z)) Z)) (dV Z Z (fun zw hx=>ah tu2 Z Z (al (hx.heap (H2.fbox 1 Z)) Z)) (dV Z Z (fun zw hx=>ay bC bS Z Z ee1 t (by omega) (by omega)) (aR Z (wn Z) Z Z (bk Z) (aS (bz (S:=H2.S2 4 6) (oQ [1,3,5,7,9,13,2020,10,14,16,18,21,23,24,27,29,30,14,2018,10,16,18,21,23,24,27,29,30,16,10,18,21,23,24,27,29,30]) (by kernel_rfl) (by kernel_rfl) (by kernel_rfl) Z (fun _=>show H2.S2 4 6 _ from Ext.refl.drawn _) (fun q2=>?_)))))))));have H3:=H2.drawn q2;refine dR 4 Z (dV Z Z (fun zw hx=>ag bJ Z dE Z Z) (dV Z Z (fun zw hx=>ak ax Z aJ Z Z (At.whole (H2.s2FBox hx 2 Z Z Z))) (dF Z ?_ ?_)))
 ·refine aR Z (wn Z) Z Z (ah aO Z Z (be (H3.holAt 4 Z) 1 Z)) (bV Z (wn Z) Z Z (aW func88 Z nJ Z) (fh (by assumption) (H3.sees 3 Z) (H3.sees 4 Z) (H3.sees 5 Z) (by first | assumption | omega)) (fun hS _ _ r _=>H2.s2Call hS r.1) (fun v1 w1 r1=>?_));obtain ⟨e1,sa1,sk1,sa2,sk2,sa3,sk3,rfl,r1⟩:=r1;obtain ⟨fp1,H4⟩:=H3.res e1 r1;refine dx Z (wn Z) Z aO aG Z Z Z Z H4 (fun _ h e=>H2.s2Call h e) (fun b1 w2 e2 g1 H5=>iP Z (wn Z) Z aO aG Z Z Z H5 6 8 7 Z Z Z Z (by unfold maxLen; omega) (by omega) (fun _ h e=>H2.s2In h 6 Z (.inr Z) e (fun _ hb=>hb)) (fun v2 w3 fp2 H6=>dV Z Z (fun zw hx=>eA Z) (dV Z Z (fun zw hx=>ag bJ Z dE Z Z) ?_)));obtain ⟨a1,k1,q3⟩:=az (H6.mine 6 Z);cases q3;refine jU Z (wn Z) dE H6 4 1 Z Z Z Z Z (fun _ h e _=>H2.s2In h 4 Z (.inl Z) e (fun _ hb=>by rw [hb]; exact List.mem_cons_self)) (fun w4 H7=>?_);dsimp only[lNA,lCA,lSZ,lSS,aN] at H7;refine dV Z Z (fun zw hx=>eA Z) (dV Z Z (fun zw hx=>ag bJ Z ts4 Z Z) (jU Z (wn Z) ts4 H7 4 0 Z Z Z Z Z (fun _ h e _=>H2.s2In h 4 Z (.inl Z) e (fun _ hb=>by rw [hb]; exact List.mem_cons_self)) (fun w5 H8=>?_)));dsimp only[lNA,lCA,lSZ,lSS,aN] at H8;refine aS (hN _ _ (kG results243 ?_));obtain ⟨fp3,H9⟩:=Tape.fill H8 4 6 Z Z Z trivial
  try dsimp only[lNA,lCA,lSZ,lSS] at H9
  obtain ⟨fp4,H10⟩:=H9.closeW 0 2 3 4 (lm t r z) Z Z Z Z Z Z Z Z Z Z (jv wok1)
  try dsimp only[lNA,lCA,lSZ,lSS] at H10
  have hz:=H10.doneW;exact hz
 ·refine bV Z (wn Z) Z Z (aW func88 Z nJ Z) (fh (by assumption) (H3.sees 3 Z) (H3.sees 4 Z) (H3.sees 5 Z) (by first | assumption | omega)) (fun hS _ _ r _=>H2.s2Call hS r.1) (fun v3 w6 r2=>?_);obtain ⟨e5,sa4,sk4,sa5,sk5,sa6,sk6,rfl,r2⟩:=r2;obtain ⟨fp5,H11⟩:=H3.res e5 r2;refine dF Z ?_ ?_
  ·refine aR Z (wn Z) Z Z (ah aO Z Z (be (H11.holAt 4 Z) 1 Z)) (dx Z (wn Z) Z aO aG Z Z Z Z H11 (fun _ h e=>H2.s2Call h e) (fun b2 w7 e6 g2 H12=>iP Z (wn Z) Z aO aG Z Z Z H12 6 8 7 Z Z Z Z (by unfold maxLen; omega) (by omega) (fun _ h e=>H2.s2In h 6 Z (.inr Z) e (fun _ hb=>hb)) (fun v4 w8 fp6 H13=>dV Z Z (fun zw hx=>eA Z) (dV Z Z (fun zw hx=>ag bJ Z dE Z Z) ?_))));obtain ⟨a2,k2,q4⟩:=az (H13.mine 6 Z);cases q4;refine jU Z (wn Z) dE H13 4 1 Z Z Z Z Z (fun _ h e _=>H2.s2In h 4 Z (.inl Z) e (fun _ hb=>by rw [hb]; exact List.mem_cons_self)) (fun w9 H14=>?_);dsimp only[lNA,lCA,lSZ,lSS,aN] at H14;refine dV Z Z (fun zw hx=>eA Z) (dV Z Z (fun zw hx=>ag bJ Z ts4 Z Z) (jU Z (wn Z) ts4 H14 4 0 Z Z Z Z Z (fun _ h e _=>H2.s2In h 4 Z (.inl Z) e (fun _ hb=>by rw [hb]; exact List.mem_cons_self)) (fun w10 H15=>?_)));dsimp only[lNA,lCA,lSZ,lSS,aN] at H15;refine aS (hN _ _ (kG results243 ?_));obtain ⟨fp7,H16⟩:=Tape.fill H15 4 6 Z Z Z trivial
   try dsimp only[lNA,lCA,lSZ,lSS] at H16
   obtain ⟨fp8,H17⟩:=H16.closeW 0 2 3 4 (lm t r z) Z Z Z Z Z Z Z Z Z Z (jv wok1)
   try dsimp only[lNA,lCA,lSZ,lSS] at H17
   have hz:=H17.doneW;exact hz
  ·refine dx Z (wn Z) Z aO aG Z Z Z Z H11 (fun _ h e=>H2.s2Call h e) (fun b3 w11 e9 g3 H18=>aR Z (wn Z) Z Z (ah aO Z Z (be (H18.holAt 4 Z) 1 Z)) (iP Z (wn Z) Z aO aG Z Z Z H18 6 8 7 Z Z Z Z (by unfold maxLen; omega) (by omega) (fun _ h e=>H2.s2In h 6 Z (.inr Z) e (fun _ hb=>hb)) (fun v5 w12 fp9 H19=>dV Z Z (fun zw hx=>eA Z) (dV Z Z (fun zw hx=>ag bJ Z dE Z Z) ?_))));obtain ⟨a3,k3,q5⟩:=az (H19.mine 6 Z);cases q5;refine jU Z (wn Z) dE H19 4 1 Z Z Z Z Z (fun _ h e _=>H2.s2In h 4 Z (.inl Z) e (fun _ hb=>by rw [hb]; exact List.mem_cons_self)) (fun w13 H20=>?_);dsimp only[lNA,lCA,lSZ,lSS,aN] at H20;refine dV Z Z (fun zw hx=>eA Z) (dV Z Z (fun zw hx=>ag bJ Z ts4 Z Z) (jU Z (wn Z) ts4 H20 4 0 Z Z Z Z Z (fun _ h e _=>H2.s2In h 4 Z (.inl Z) e (fun _ hb=>by rw [hb]; exact List.mem_cons_self)) (fun w14 H21=>?_)));dsimp only[lNA,lCA,lSZ,lSS,aN] at H21;refine aS (hN _ _ (kG results243 ?_));obtain ⟨fp10,H22⟩:=Tape.fill H21 4 6 Z Z Z trivial
   try dsimp only[lNA,lCA,lSZ,lSS] at H22
   obtain ⟨fp11,H23⟩:=H22.closeW 0 2 3 4 (lm t r z) Z Z Z Z Z Z Z Z Z Z (jv wok1)
   try dsimp only[lNA,lCA,lSZ,lSS] at H23
   have hz:=H23.doneW;exact hz
theorem eP {w:World}{z:Wld}{zb t rC6 rC7 rC8:Nat}{fp rF6 rF7 rF8:List Nat}{r:Rec}{rA6 rA7 rA8:Option Addr}(o:OwnW w zb 34 z fp) (nd:fp.Nodup) (rK:r.Ok) (rO6:own false w [.slice rA6 r.Rows.length rC6] r.Rows rF6) (rD6:∀ b∈rF6,b ∉ fp) (rO7:own false w [.slice rA7 r.Data.length rC7] r.Data rF7) (rD7:∀ b∈rF7,b ∉ fp) (rO8:own false w [.slice rA8 r.Delta.length rC8] r.Delta rF8) (rD8:∀ b∈rF8,b ∉ fp) (ht:t<z.Tapes.length) (hb:ca r≤1048576) (hl:(z.Tapes.getD t default).Recs.length≤100000) (hw:z.Writes≤2000000000):Ret Tryz.prog 155 #[.pointer (some ⟨zb,0,none⟩),.int .i64 t,r.val rA6 rC6 rA7 rC7 rA8 rC8] w fun v w'=>(v = .bool (!bQ z)∧MutW w w' fp zb 34 (eY t r z)):=by
 have rK2:=rK;unfold Rec.Ok at rK2
 try unfold I64ok at rK2
 try unfold maxLen at rK2
 have rN2:r.Name.size≤maxLen:=by unfold maxLen; omega
 have rL6:=oL rO6;have rL7:=oL rO7;have rL8:=oL rO8;refine aH (vs:=[.pointer (some ⟨zb,0,none⟩),.int .i64 t,r.val rA6 rC6 rA7 rC7 rA8 rC8]) func155 Z ntmps155 Z (fun Q hQ hN=>?_);have H0:=(((Sep.beginW o nd).seeF (rO6) rD6).seeF (rO7) rD7).seeF (rO8) rD8
 try dsimp only[lNA,lCA,lSZ,lSS] at H0
 refine ab (ba (wn Z) Z Z H0 (fun b1 w1 e1 g1 H1=>ba (wn Z) Z Z H1 (fun b2 w2 e2 g2 H2=>ba (wn Z) Z Z H2 (fun b3 w3 e3 g3 H3=>sA Z Z (aa (ab (sLd Bs (H3.box 1 Z) Z (sV Z (ss Z) (sC func242 t8 Z (la (H3.wldAt 0 Z) (H3.nodup1 (i:=0) Z) (y:=lm t r z) func243 Z tP (fun w1 fp1 o1 n1 s1 e1=>gQ o1 n1 (H3.boxFar 0 1 Z Z Z s1 e1).1 (H3.boxFar 0 1 Z Z Z s1 e1).2 (H3.boxFar 0 2 Z Z Z s1 e1).1 (H3.boxFar 0 2 Z Z Z s1 e1).2 (H3.boxFar 0 3 Z Z Z s1 e1).1 (H3.boxFar 0 3 Z Z Z s1 e1).2 (H3.seeFar 0 0 Z Z s1 e1).1 (H3.seeFar 0 0 Z Z s1 e1).2 (H3.seeFar 0 1 Z Z s1 e1).1 (H3.seeFar 0 1 Z Z s1 e1).2 (H3.seeFar 0 2 Z Z s1 e1).1 (H3.seeFar 0 2 Z Z s1 e1).2 rK ht hb hl) (by first | assumption | omega)) (fun v1 w4 r1=>?_))))))))));obtain ⟨rfl,mm1⟩:=r1;obtain ⟨fp1,H4⟩:=H3.mutW 0 Z mm1
 try dsimp only[lNA,lCA,lSZ,lSS] at H4
 refine rA hQ results155 Z ?_;exact ⟨Z,H4.doneW⟩
theorem jY {w:World}{z:Wld}{zb rC6 rC7 rC8:Nat}{fp rF6 rF7 rF8:List Nat}{r:Rec}{rA6 rA7 rA8:Option Addr}(o:OwnW w zb 34 z fp) (nd:fp.Nodup) (rK:r.Ok) (rO6:own false w [.slice rA6 r.Rows.length rC6] r.Rows rF6) (rD6:∀ b∈rF6,b ∉ fp) (rO7:own false w [.slice rA7 r.Data.length rC7] r.Data rF7) (rD7:∀ b∈rF7,b ∉ fp) (rO8:own false w [.slice rA8 r.Delta.length rC8] r.Delta rF8) (rD8:∀ b∈rF8,b ∉ fp) (hf:dq z=true) (hT:z.Tapes.length=2) (hb:ca r≤1048576) (hw:z.Writes≤1500000000):Ret Tryz.prog 144 #[.pointer (some ⟨zb,0,none⟩),r.val rA6 rC6 rA7 rC7 rA8 rC8] w fun v w'=>(v = .int .i64 2∧MutW w w' fp zb 34 (z)):=by
 have rK2:=rK;unfold Rec.Ok at rK2
 try unfold I64ok at rK2
 try unfold maxLen at rK2
 have rN2:r.Name.size≤maxLen:=by unfold maxLen; omega
 have rL6:=oL rO6;have rL7:=oL rO7;have rL8:=oL rO8;refine aH (vs:=[.pointer (some ⟨zb,0,none⟩),r.val rA6 rC6 rA7 rC7 rA8 rC8]) func144 Z ntmps144 Z (fun Q hQ hN=>?_);have H0:=(((Sep.beginW o nd).seeF (rO6) rD6).seeF (rO7) rD7).seeF (rO8) rD8
 try dsimp only[lNA,lCA,lSZ,lSS] at H0
 refine ab (ba (wn Z) Z Z H0 (fun b1 w1 e1 g1 H1=>sA Z Z (aa (ac (ac ?_)))));obtain ⟨wA1,wC1,wA2,wC2,wA3,wC3,wf1,wf2,wf3,wok1,H2⟩:=H1.openW 0 Z
 try dsimp only[lNA,lCA,lSZ,lSS] at H2
 have wok1U:=wok1;unfold Wld.Ok Shape.Ok I64ok at wok1U;have wL1:=oL (H2.mine 3 Z);have wL2:=oL (H2.mine 4 Z);have wL3:=oL (H2.mine 5 Z);refine an (sM Z Z (sE func197 pP Z (gx (H2.box 0 Z) (by assumption) (H2.msees 3 Z) (H2.msees 4 Z) (H2.msees 5 Z) (by first | assumption | omega)) H2 (fun w2 e2 H3=>sV Z (aT Z Z) (aa (au Z (fun c1=>?_) (fun c1=>?_))))))
 ·refine ab (rA hQ results144 Z ?_);obtain ⟨fp1,H4⟩:=H3.closeW 0 3 4 5 z Z Z Z Z Z Z Z Z Z Z wok1
  try dsimp only[lNA,lCA,lSZ,lSS] at H4
  have hz:=H4.doneW;exact ⟨Z,hz⟩
 ·exact absurd (zr c1) (by simp [hf])
theorem ld {w:World}{z:Wld}{zb rC6 rC7 rC8:Nat}{fp rF6 rF7 rF8:List Nat}{r:Rec}{rA6 rA7 rA8:Option Addr}(o:OwnW w zb 34 z fp) (nd:fp.Nodup) (rK:r.Ok) (rO6:own false w [.slice rA6 r.Rows.length rC6] r.Rows rF6) (rD6:∀ b∈rF6,b ∉ fp) (rO7:own false w [.slice rA7 r.Data.length rC7] r.Data rF7) (rD7:∀ b∈rF7,b ∉ fp) (rO8:own false w [.slice rA8 r.Delta.length rC8] r.Delta rF8) (rD8:∀ b∈rF8,b ∉ fp) (hf:dq z=false) (hT:z.Tapes.length=2) (hb:ca r≤1048576) (hw:z.Writes≤1500000000):Ret Tryz.prog 144 #[.pointer (some ⟨zb,0,none⟩),r.val rA6 rC6 rA7 rC7 rA8 rC8] w fun v w'=>(v = .int .i64 (if ly z r=true then 0 else 9)∧MutW w w' fp zb 34 (kA z r)):=by
 have rK2:=rK;unfold Rec.Ok at rK2
 try unfold I64ok at rK2
 try unfold maxLen at rK2
 have rN2:r.Name.size≤maxLen:=by unfold maxLen; omega
 have rL6:=oL rO6;have rL7:=oL rO7;have rL8:=oL rO8;have aw:=(gq (t:=0) (r:=r) (z:=z)).2;have at_:=ij (t:=0) (r:=r) (z:=z);have ar:=rP (t:=0) (u:=1) (r:=r) (z:=z);have fn_:=ta hf;refine aH (vs:=[.pointer (some ⟨zb,0,none⟩),r.val rA6 rC6 rA7 rC7 rA8 rC8]) func144 Z ntmps144 Z (fun Q hQ hN=>?_);have H0:=(((Sep.beginW o nd).seeF (rO6) rD6).seeF (rO7) rD7).seeF (rO8) rD8
 try dsimp only[lNA,lCA,lSZ,lSS] at H0
 refine ab (ba (wn Z) Z Z H0 (fun b1 w1 e1 g1 H1=>sA Z Z (aa (ac (ac ?_)))));obtain ⟨wA1,wC1,wA2,wC2,wA3,wC3,wf1,wf2,wf3,wok1,H2⟩:=H1.openW 0 Z
 try dsimp only[lNA,lCA,lSZ,lSS] at H2
 have wok1U:=wok1;unfold Wld.Ok Shape.Ok I64ok at wok1U;have wL1:=oL (H2.mine 3 Z);have wL2:=oL (H2.mine 4 Z);have wL3:=oL (H2.mine 5 Z);refine an (sM Z Z (sE func197 pP Z (gx (H2.box 0 Z) (by assumption) (H2.msees 3 Z) (H2.msees 4 Z) (H2.msees 5 Z) (by first | assumption | omega)) H2 (fun w2 e2 H3=>sV Z (aT Z Z) (aa (au Z (fun c1=>?_) (fun c1=>?_))))))
 ·exact absurd (yb c1) (by simp [hf])
 ·refine aj (ab (sM Z Z (sV Z (ak ax Z aJ Z Z (At.whole (H3.box 1 Z))) ?_)));obtain ⟨fp1,H4⟩:=H3.closeW 0 3 4 5 z Z Z Z Z Z Z Z Z Z Z wok1
  try dsimp only[lNA,lCA,lSZ,lSS] at H4
  refine sC func155 pN Z (eP (H4.wldAt 0 Z) (H4.nodup1 (i:=0) Z) (by assumption) (aX (H4.seen 0 Z)) (fun b hb=>H4.off 0 Z 0 Z hb) (aX (H4.seen 1 Z)) (fun b hb=>H4.off 1 Z 0 Z hb) (aX (H4.seen 2 Z)) (fun b hb=>H4.off 2 Z 0 Z hb) (by first | assumption | omega) (by first | assumption | omega) (by first | assumption | omega) (by first | assumption | omega) (t:=0)) (fun v2 w3 r2=>?_);obtain ⟨rfl,mm1⟩:=r2;obtain ⟨fp2,H5⟩:=H4.mutW 0 Z mm1
  try dsimp only[lNA,lCA,lSZ,lSS] at H5
  refine sM Z Z (cK (t:=11) Z (fun hg1=>?_) (fun hg1=>?_))
  ·try simp only [decide_eq_true_eq,decide_eq_false_iff_not] at hg1
   refine am (wg Z Z Z) Z Z (aM Z) (am (wg Z Z Z) Z Z (ak ax Z aJ Z Z (At.whole (H5.box 1 Z))) (dG (wg Z Z Z) Z Z (aW func155 Z pN Z) (eP (H5.wldAt 0 Z) (H5.nodup1 (i:=0) Z) (by assumption) (aX (H5.seen 0 Z)) (fun b hb=>H5.off 0 Z 0 Z hb) (aX (H5.seen 1 Z)) (fun b hb=>H5.off 1 Z 0 Z hb) (aX (H5.seen 2 Z)) (fun b hb=>H5.off 2 Z 0 Z hb) (by first | assumption | omega) (by first | assumption | omega) (by first | assumption | omega) (by first | assumption | omega) (t:=1)) (fun v3 w4 r3=>?_)));obtain ⟨rfl,mm2⟩:=r3;obtain ⟨fp3,H6⟩:=H5.mutW 0 Z mm2
   try dsimp only[lNA,lCA,lSZ,lSS] at H6
   refine sV Z (aI Z Z) (sE func236 p7 Z iY H6 (fun w5 e5 H7=>rA hQ results144 Z ?_));have hnp:bQ z=false:=by simpa using hg1
   have hz:=H7.doneW;rw [← (mG (r:=r) hnp).1] at hz;exact ⟨(by rw [(mG (r:=r) hnp).2]),hz⟩
  ·try simp only [decide_eq_true_eq,decide_eq_false_iff_not] at hg1
   refine sR 3 Z (sV Z (aP Z Z) (sE func236 p7 Z iY H5 (fun w6 e6 H8=>rA hQ results144 Z ?_)));have hnp:bQ z=true:=by simpa using hg1
   have hz:=H8.doneW;rw [← (pb (r:=r) hnp).1] at hz;exact ⟨(by rw [(pb (r:=r) hnp).2]),hz⟩
theorem kJ {w:World}{x:Wld}{xA9 xA10 xA11:Option Addr}{xC9 xC10 xC11:Nat}{c:Int}(xK:x.Ok) (xS9:Sees w [.slice xA9 x.Groups.length xC9] x.Groups) (xS10:Sees w [.slice xA10 x.On.length xC10] x.On) (xS11:Sees w [.slice xA11 x.Tapes.length xC11] x.Tapes) (hc:c≠0∧c≠9):Ret Tryz.prog 70 #[x.val xA9 xC9 xA10 xC10 xA11 xC11,.int .i64 c] w fun v w'=>Ext No w w'∧(v=(⟨c,noWld⟩:WldResult).val none 0 none 0 none 0):=by
 have xK2:=xK;unfold Wld.Ok Shape.Ok at xK2
 try unfold I64ok at xK2
 try unfold maxLen at xK2
 have xL9:=sL xS9;obtain ⟨xF9,xO9⟩:=xS9;have xL10:=sL xS10;obtain ⟨xF10,xO10⟩:=xS10;have xL11:=sL xS11;obtain ⟨xF11,xO11⟩:=xS11;refine aH (vs:=[x.val xA9 xC9 xA10 xC10 xA11 xC11,.int .i64 c]) func70 Z ntmps70 Z (fun Q hQ hN=>?_);have H0:=Sep.start (w:=w) (F:=[seen false [.slice xA9 x.Groups.length xC9] x.Groups xF9,seen false [.slice xA10 x.On.length xC10] x.On xF10,seen false [.slice xA11 x.Tapes.length xC11] x.Tapes xF11]) (ae xO9 (ae xO10 (ae xO11 (by simp))));refine ab (ba (wn Z) Z Z H0 (fun b1 w1 e1 g1 H1=>bI (wn Z) Z zeroValue36 H1 (fun b2 w2 e2 g2 H2=>aa (ac (ab (sR 3 Z (cK (t:=7) Z (fun hg1=>?_) (fun hg1=>?_))))))))
 ·try simp only [decide_eq_true_eq,decide_eq_false_iff_not] at hg1
  refine am (wg Z Z Z) Z Z (aM Z) (am (wg Z Z Z) Z Z (bp Z Z) (sV Z (aI Z Z) (aa (au Z (fun c1=>?_) (fun c1=>?_)))))
  ·refine ab (sM Z Z (sV Z (b0 dX Z Z) (bc (wn Z) dD Z Z Z Z H2 1 Z Z (fun w3 e3 H3=>?_))));dsimp only[lNA,lCA,lSZ,lSS,aN] at H3;refine aa (bM (hQ _ _ (dp results70 Z (aL fi Z dD Z (At.whole (H3.box 1 Z))) ?_)));exact ⟨H3.ext,Z⟩
  ·exfalso; simp_all
 ·exfalso; simp_all
theorem jZ {w:World}{x:Wld}{xA9 xA10 xA11:Option Addr}{xC9 xC10 xC11:Nat}{c:Int}(xK:x.Ok) (xS9:Sees w [.slice xA9 x.Groups.length xC9] x.Groups) (xS10:Sees w [.slice xA10 x.On.length xC10] x.On) (xS11:Sees w [.slice xA11 x.Tapes.length xC11] x.Tapes) (hc:c=0∨c=9):Ret Tryz.prog 70 #[x.val xA9 xC9 xA10 xC10 xA11 xC11,.int .i64 c] w fun v w'=>Ext No w w'∧(v=(⟨c,x⟩:WldResult).val xA9 xC9 xA10 xC10 xA11 xC11):=by
 have xK2:=xK;unfold Wld.Ok Shape.Ok at xK2
 try unfold I64ok at xK2
 try unfold maxLen at xK2
 have xL9:=sL xS9;obtain ⟨xF9,xO9⟩:=xS9;have xL10:=sL xS10;obtain ⟨xF10,xO10⟩:=xS10;have xL11:=sL xS11;obtain ⟨xF11,xO11⟩:=xS11;refine aH (vs:=[x.val xA9 xC9 xA10 xC10 xA11 xC11,.int .i64 c]) func70 Z ntmps70 Z (fun Q hQ hN=>?_);have H0:=Sep.start (w:=w) (F:=[seen false [.slice xA9 x.Groups.length xC9] x.Groups xF9,seen false [.slice xA10 x.On.length xC10] x.On xF10,seen false [.slice xA11 x.Tapes.length xC11] x.Tapes xF11]) (ae xO9 (ae xO10 (ae xO11 (by simp))));refine ab (ba (wn Z) Z Z H0 (fun b1 w1 e1 g1 H1=>bI (wn Z) Z zeroValue36 H1 (fun b2 w2 e2 g2 H2=>aa (ac (ab (sR 3 Z (cK (t:=7) Z (fun hg1=>?_) (fun hg1=>?_))))))))
 ·try simp only [decide_eq_true_eq,decide_eq_false_iff_not] at hg1
  refine am (wg Z Z Z) Z Z (aM Z) (am (wg Z Z Z) Z Z (bp Z Z) (sV Z (aI Z Z) (aa (au Z (fun c1=>?_) (fun c1=>?_)))))
  ·exfalso; simp_all
  ·refine aj (ab (sM Z Z (sV Z (ak aU Z cP Z Z (At.whole (H2.box 0 Z))) (sV Z (b0 dX Z Z) (bc (wn Z) dD Z Z Z Z H2 1 Z Z (fun w3 e3 H3=>?_))))));dsimp only[lNA,lCA,lSZ,lSS,aN] at H3;refine aa (bM (hQ _ _ (dp results70 Z (aL fi Z dD Z (At.whole (H3.box 1 Z))) ?_)));exact ⟨H3.ext,Z⟩
 ·try simp only [decide_eq_true_eq,decide_eq_false_iff_not] at hg1
  refine sR 2 Z (sV Z (aP Z Z) (aa (iG Z (aj (ab (sM Z Z (sV Z (ak aU Z cP Z Z (At.whole (H2.box 0 Z))) (sV Z (b0 dX Z Z) (bc (wn Z) dD Z Z Z Z H2 1 Z Z (fun w4 e4 H4=>?_))))))))));dsimp only[lNA,lCA,lSZ,lSS,aN] at H4;refine aa (bM (hQ _ _ (dp results70 Z (aL fi Z dD Z (At.whole (H4.box 1 Z))) ?_)));exact ⟨H4.ext,Z⟩
theorem oK {w:World}{z:Wld}{zb:Nat}{fp:List Nat}(o:OwnW w zb 34 z fp) (nd:fp.Nodup) (hd:z.Down=false) (hw:z.Writes≤2000000000):Ret Tryz.prog 204 #[.pointer (some ⟨zb,0,none⟩)] w fun v w'=>(v = .bool (!bQ z)∧MutW w w' fp zb 34 (qL z z)):=by
 refine aH (vs:=[.pointer (some ⟨zb,0,none⟩)]) func204 Z ntmps204 Z (fun Q hQ hN=>?_);have H0:=Sep.beginW o nd;refine ab (sA Z Z (aa (ac (ac ?_))));obtain ⟨wA1,wC1,wA2,wC2,wA3,wC3,wf1,wf2,wf3,wok1,H1⟩:=H0.openW 0 Z
 try dsimp only[lNA,lCA,lSZ,lSS] at H1
 have wok1U:=wok1;unfold Wld.Ok Shape.Ok I64ok at wok1U;have wL1:=oL (H1.mine 2 Z);have wL2:=oL (H1.mine 3 Z);have wL3:=oL (H1.mine 4 Z);refine an (sR 2 Z (sF aU Z ts4 (sLd tu4 (H1.box 0 Z) Z (aa (bL Z (fun c1=>?_) (fun c1=>?_))))))
 ·exfalso; simp_all
 ·refine aj (ac (ac (bz (S:=Ext No _) (oQ [1,3,5,7,9,11,13,15,17,19,21,23,25,27,29,30]) (by kernel_rfl) (by kernel_rfl) (by kernel_rfl) Z (fun _=>Ext.refl.drawn _) (fun q1=>?_))));have H2:=H1.drawn q1;refine dR 2 Z (dV Z Z (fun zw hx=>ag aU Z ts2 Z Z) (dV Z Z (fun zw hx=>ah tu2 Z Z (al (hx.heap (H2.box 0 Z)) Z)) (dR 2 Z (cd (t:=12) Z (fun hg1=>?_) (fun hg1=>?_)))))
  ·try simp only [decide_eq_true_eq,decide_eq_false_iff_not] at hg1
   refine aF Z (wg Z Z Z) Z Z (fun zw hx=>aM Z) (aF Z (wg Z Z Z) Z Z (fun zw hx=>eA Z) (aF Z (wg Z Z Z) Z Z (fun zw hx=>ag aU Z ts2 Z Z) (aF Z (wg Z Z Z) Z Z (fun zw hx=>ah tu2 Z Z (al (hx.heap (H2.box 0 Z)) Z)) (aF Z (wg Z Z Z) Z Z (fun zw hx=>aM Z) (aF Z (wg Z Z Z) Z Z (fun zw hx=>eA Z) (aF Z (wg Z Z Z) Z Z (fun zw hx=>ag aU Z ts2 Z Z) (aF Z (wg Z Z Z) Z Z (fun zw hx=>ah tu2 Z Z (al (hx.heap (H2.box 0 Z)) Z)) (aF Z (wg Z Z Z) Z Z (fun zw hx=>sb Z Z) (aR Z (wn Z) Z Z (aI Z Z) (aS (au Z (fun c2=>?_) (fun c2=>?_))))))))))))
   ·refine ac ?_;have hnp:bQ z=true:=ol (by omega) (by omega);refine an (sR 2 Z (sF aU Z ts4 (bA (wn Z) ts4 Z Z Z H2 0 Z Z (fun w1 e1 H3=>?_))));dsimp only[lNA,lCA,lSZ,lSS,aN] at H3;refine aa (ab (sR 2 Z (sF aU Z bB (bA (wn Z) bB Z Z Z H3 0 Z Z (fun w2 e2 H4=>?_)))));dsimp only[lNA,lCA,lSZ,lSS,aN] at H4;refine aa (ab (rA hQ results204 Z ?_));have H5:=H4.nilW (α:=Int)
    try dsimp only[lNA,lCA,lSZ,lSS] at H5
    obtain ⟨fp1,H6⟩:=H5.closeW 0 2 5 4 (sj z) Z Z Z Z Z Z Z Z Z Z (oZ wok1)
    try dsimp only[lNA,lCA,lSZ,lSS] at H6
    have hz:=H6.doneW;rw [← mF (y:=z) hnp] at hz;exact ⟨(by rw [hnp]; rfl),hz⟩
   ·refine aj (ac ?_);have hnp:bQ z=false:=jp (.inr (by omega));refine an (sR 3 Z (sF aU Z ts2 (sLd tu2 (H2.box 0 Z) Z (sV Z (aA Z Z iO) (sV Z (eA Z) (sF aU Z ts2 (bA (wn Z) ts2 Z Z Z H2 0 Z Z (fun w3 e3 H7=>?_))))))));dsimp only[lNA,lCA,lSZ,lSS,aN] at H7;refine aa (ab (rA hQ results204 Z ?_));obtain ⟨fp2,H8⟩:=H7.closeW 0 2 3 4 (ls z) Z Z Z Z Z Z Z Z Z Z (ky wok1 hw)
    try dsimp only[lNA,lCA,lSZ,lSS] at H8
    have hz:=H8.doneW;rw [← fP hnp] at hz;exact ⟨(by rw [hnp]; rfl),hz⟩
  ·try simp only [decide_eq_true_eq,decide_eq_false_iff_not] at hg1
   refine dR 9 Z (aR Z (wn Z) Z Z (aP Z Z) (aS (iG Z (aj (ac ?_)))));have hnp:bQ z=false:=jp (.inl (by omega));refine an (sR 3 Z (sF aU Z ts2 (sLd tu2 (H2.box 0 Z) Z (sV Z (aA Z Z iO) (sV Z (eA Z) (sF aU Z ts2 (bA (wn Z) ts2 Z Z Z H2 0 Z Z (fun w4 e4 H9=>?_))))))));dsimp only[lNA,lCA,lSZ,lSS,aN] at H9;refine aa (ab (rA hQ results204 Z ?_));obtain ⟨fp3,H10⟩:=H9.closeW 0 2 3 4 (ls z) Z Z Z Z Z Z Z Z Z Z (ky wok1 hw)
   try dsimp only[lNA,lCA,lSZ,lSS] at H10
   have hz:=H10.doneW;rw [← fP hnp] at hz;exact ⟨(by rw [hnp]; rfl),hz⟩
theorem gY {w:World}{z:Wld}{zb t rC6 rC7 rC8:Nat}{fp rF6 rF7 rF8:List Nat}{r:Rec}{rA6 rA7 rA8:Option Addr}(o:OwnW w zb 34 z fp) (nd:fp.Nodup) (rK:r.Ok) (rO6:own false w [.slice rA6 r.Rows.length rC6] r.Rows rF6) (rD6:∀ b∈rF6,b ∉ fp) (rO7:own false w [.slice rA7 r.Data.length rC7] r.Data rF7) (rD7:∀ b∈rF7,b ∉ fp) (rO8:own false w [.slice rA8 r.Delta.length rC8] r.Delta rF8) (rD8:∀ b∈rF8,b ∉ fp) (hd:z.Down=false) (ht:t<z.Tapes.length) (hb:ca r≤1048576) (hl:(z.Tapes.getD t default).Recs.length≤100000) (hw:z.Writes≤2000000000):Ret Tryz.prog 153 #[.pointer (some ⟨zb,0,none⟩),.int .i64 t,r.val rA6 rC6 rA7 rC7 rA8 rC8] w fun v w'=>(v = .bool (!bQ z)∧MutW w w' fp zb 34 (eY t r z)):=by
 have rK2:=rK;unfold Rec.Ok at rK2
 try unfold I64ok at rK2
 try unfold maxLen at rK2
 have rN2:r.Name.size≤maxLen:=by unfold maxLen; omega
 have rL6:=oL rO6;have rL7:=oL rO7;have rL8:=oL rO8;refine aH (vs:=[.pointer (some ⟨zb,0,none⟩),.int .i64 t,r.val rA6 rC6 rA7 rC7 rA8 rC8]) func153 Z ntmps153 Z (fun Q hQ hN=>?_);have H0:=(((Sep.beginW o nd).seeF (rO6) rD6).seeF (rO7) rD7).seeF (rO8) rD8
 try dsimp only[lNA,lCA,lSZ,lSS] at H0
 refine ab (ba (wn Z) Z Z H0 (fun b1 w1 e1 g1 H1=>sA Z Z (aa (ac (ab (sM Z Z (sC func204 uC Z (oK (H1.wldAt 0 Z) (H1.nodup1 (i:=0) Z) (by first | assumption | omega) (by first | assumption | omega)) (fun v1 w2 r1=>?_))))))));obtain ⟨rfl,mm1⟩:=r1;obtain ⟨fp1,H2⟩:=H1.mutW 0 Z mm1
 try dsimp only[lNA,lCA,lSZ,lSS] at H2
 refine sV Z (aZ Z) (aa (bL Z (fun c1=>?_) (fun c1=>?_)))
 ·refine ab (rA hQ results153 Z ?_);have hnp:bQ z=true:=by simpa using c1
  have hz:=H2.doneW;rw [mF hnp] at hz;exact ⟨(by rw [hnp]; rfl),(by unfold eY; rw [mF hnp]; exact hz)⟩
 ·refine aj (ac ?_);have hnp:bQ z=false:=by simpa using c1
  obtain ⟨z1,hz1⟩:∃ z1,z1=ls z:=⟨_,Z⟩;have HZ:=H2;rw [fP hnp,← hz1] at HZ;have ht1:t<z1.Tapes.length:=by rw [hz1]; exact ht
  have hl1:(z1.Tapes.getD t default).Recs.length≤100000:=by rw [hz1]; exact hl
  obtain ⟨wA1,wC1,wA2,wC2,wA3,wC3,wf1,wf2,wf3,wok1,H3⟩:=HZ.openW 0 Z
  try dsimp only[lNA,lCA,lSZ,lSS] at H3
  have wok1U:=wok1;unfold Wld.Ok Shape.Ok I64ok at wok1U;have wL1:=oL (H3.mine 3 Z);have wL2:=oL (H3.mine 4 Z);have wL3:=oL (H3.mine 5 Z);obtain ⟨eb1,eo1,eT1,eF1,eG1,ea1,ek1,eg1,ee1,eK1,eH1⟩:=Tape.focus H3 5 Z t (by omega);have eK1U:=eK1;unfold Tape.Ok at eK1U
  try unfold I64ok at eK1U
  try unfold maxLen at eK1U
  try dsimp only[lNA,lCA,lSZ,lSS] at eH1
  refine bz (S:=eH1.S2 5 7) (oQ [1,3,5,7,9,11,13,15,17,19,21,23,27,2014,24,28,30,32,35,37,38,28,2012,24,30,32,35,37,38,30,24,32,35,37,38]) (by kernel_rfl) (by kernel_rfl) (by kernel_rfl) Z (fun _=>show eH1.S2 5 7 _ from Ext.refl.drawn _) (fun q1=>?_);have H4:=eH1.drawn q1;refine dR 2 Z (dV Z Z (fun zw hx=>ag aU Z cX Z Z) (dV Z Z (fun zw hx=>ah bC Z Z (al (eH1.s2Box hx 0 Z Z Z Z Z) Z)) (dR 3 Z (dV Z Z (fun zw hx=>ag aU Z cX Z Z) (dV Z Z (fun zw hx=>ah bC Z Z (al (eH1.s2Box hx 0 Z Z Z Z Z) Z)) (dM Z Z Z (dV Z Z (fun zw hx=>ay bC bS Z Z ee1 t (by omega) (by omega)) (dV Z Z (fun zw hx=>ag bJ Z dE Z Z) (dV Z Z (fun zw hx=>ak ax Z aJ Z Z (At.whole (eH1.s2Box hx 1 Z Z Z Z Z))) (dF Z ?_ ?_))))))))))
  ·refine aR Z (wn Z) Z Z (ah aO Z Z (be (H4.holAt 5 Z) 1 Z)) (bV Z (wn Z) Z Z (aW func85 Z n0 Z) (eS (by assumption) (H4.sees 0 Z) (H4.sees 1 Z) (H4.sees 2 Z) (by first | assumption | omega)) (fun hS _ _ r _=>eH1.s2Call hS r.1) (fun v2 w3 r2=>?_));obtain ⟨e3,sa1,sk1,sa2,sk2,sa3,sk3,rfl,r2⟩:=r2;obtain ⟨fp2,H5⟩:=H4.res e3 r2;refine dx Z (wn Z) Z aO aG Z Z Z Z H5 (fun _ h e=>eH1.s2Call h e) (fun b2 w4 e4 g2 H6=>iP Z (wn Z) Z aO aG Z Z Z H6 7 9 8 Z Z Z Z (by unfold maxLen; omega) (by omega) (fun _ h e=>eH1.s2In h 7 Z (.inr Z) e (fun _ hb=>hb)) (fun v3 w5 fp3 H7=>dV Z Z (fun zw hx=>ay bC bS Z Z ee1 t (by omega) (by omega)) (dV Z Z (fun zw hx=>ag bJ Z dE Z Z) ?_)));obtain ⟨a1,k1,q2⟩:=az (H7.mine 7 Z);cases q2;refine jU Z (wn Z) dE H7 5 1 Z Z Z Z Z (fun _ h e _=>eH1.s2In h 5 Z (.inl Z) e (fun _ hb=>by rw [hb]; exact List.mem_cons_self)) (fun w6 H8=>?_);dsimp only[lNA,lCA,lSZ,lSS,aN] at H8;refine aS (ab (sR 2 Z (sF aU Z cX (sLd bC (H8.box 0 Z) Z (sM Z Z (sV Z (ay bC bS Z Z ee1 t (by omega) (by omega)) (sF bJ Z ts4 (gG (wn Z) ts4 H8 5 0 Z Z Z Z Z (fun w7 H9=>?_)))))))));dsimp only[lNA,lCA,lSZ,lSS,aN] at H9;refine aa (ab (rA hQ results153 Z ?_));obtain ⟨fp4,H10⟩:=Tape.fill H9 5 7 Z Z Z trivial
   try dsimp only[lNA,lCA,lSZ,lSS] at H10
   obtain ⟨fp5,H11⟩:=H10.closeW 0 3 4 5 (lm t r z1) Z Z Z Z Z Z Z Z Z Z (jv wok1)
   try dsimp only[lNA,lCA,lSZ,lSS] at H11
   have hz:=H11.doneW;rw [show lm t r z1=eY t r z from by unfold eY; rw [fP hnp,hz1]; rfl] at hz;exact ⟨(by rw [hnp]; rfl),hz⟩
  ·refine bV Z (wn Z) Z Z (aW func85 Z n0 Z) (eS (by assumption) (H4.sees 0 Z) (H4.sees 1 Z) (H4.sees 2 Z) (by first | assumption | omega)) (fun hS _ _ r _=>eH1.s2Call hS r.1) (fun v4 w8 r3=>?_);obtain ⟨e7,sa4,sk4,sa5,sk5,sa6,sk6,rfl,r3⟩:=r3;obtain ⟨fp6,H12⟩:=H4.res e7 r3;refine dF Z ?_ ?_
   ·refine aR Z (wn Z) Z Z (ah aO Z Z (be (H12.holAt 5 Z) 1 Z)) (dx Z (wn Z) Z aO aG Z Z Z Z H12 (fun _ h e=>eH1.s2Call h e) (fun b3 w9 e8 g3 H13=>iP Z (wn Z) Z aO aG Z Z Z H13 7 9 8 Z Z Z Z (by unfold maxLen; omega) (by omega) (fun _ h e=>eH1.s2In h 7 Z (.inr Z) e (fun _ hb=>hb)) (fun v5 w10 fp7 H14=>dV Z Z (fun zw hx=>ay bC bS Z Z ee1 t (by omega) (by omega)) (dV Z Z (fun zw hx=>ag bJ Z dE Z Z) ?_))));obtain ⟨a2,k2,q3⟩:=az (H14.mine 7 Z);cases q3;refine jU Z (wn Z) dE H14 5 1 Z Z Z Z Z (fun _ h e _=>eH1.s2In h 5 Z (.inl Z) e (fun _ hb=>by rw [hb]; exact List.mem_cons_self)) (fun w11 H15=>?_);dsimp only[lNA,lCA,lSZ,lSS,aN] at H15;refine aS (ab (sR 2 Z (sF aU Z cX (sLd bC (H15.box 0 Z) Z (sM Z Z (sV Z (ay bC bS Z Z ee1 t (by omega) (by omega)) (sF bJ Z ts4 (gG (wn Z) ts4 H15 5 0 Z Z Z Z Z (fun w12 H16=>?_)))))))));dsimp only[lNA,lCA,lSZ,lSS,aN] at H16;refine aa (ab (rA hQ results153 Z ?_));obtain ⟨fp8,H17⟩:=Tape.fill H16 5 7 Z Z Z trivial
    try dsimp only[lNA,lCA,lSZ,lSS] at H17
    obtain ⟨fp9,H18⟩:=H17.closeW 0 3 4 5 (lm t r z1) Z Z Z Z Z Z Z Z Z Z (jv wok1)
    try dsimp only[lNA,lCA,lSZ,lSS] at H18
    have hz:=H18.doneW;rw [show lm t r z1=eY t r z from by unfold eY; rw [fP hnp,hz1]; rfl] at hz;exact ⟨(by rw [hnp]; rfl),hz⟩
   ·refine dx Z (wn Z) Z aO aG Z Z Z Z H12 (fun _ h e=>eH1.s2Call h e) (fun b4 w13 e11 g4 H19=>aR Z (wn Z) Z Z (ah aO Z Z (be (H19.holAt 5 Z) 1 Z)) (iP Z (wn Z) Z aO aG Z Z Z H19 7 9 8 Z Z Z Z (by unfold maxLen; omega) (by omega) (fun _ h e=>eH1.s2In h 7 Z (.inr Z) e (fun _ hb=>hb)) (fun v6 w14 fp10 H20=>dV Z Z (fun zw hx=>ay bC bS Z Z ee1 t (by omega) (by omega)) (dV Z Z (fun zw hx=>ag bJ Z dE Z Z) ?_))));obtain ⟨a3,k3,q4⟩:=az (H20.mine 7 Z);cases q4;refine jU Z (wn Z) dE H20 5 1 Z Z Z Z Z (fun _ h e _=>eH1.s2In h 5 Z (.inl Z) e (fun _ hb=>by rw [hb]; exact List.mem_cons_self)) (fun w15 H21=>?_);dsimp only[lNA,lCA,lSZ,lSS,aN] at H21;refine aS (ab (sR 2 Z (sF aU Z cX (sLd bC (H21.box 0 Z) Z (sM Z Z (sV Z (ay bC bS Z Z ee1 t (by omega) (by omega)) (sF bJ Z ts4 (gG (wn Z) ts4 H21 5 0 Z Z Z Z Z (fun w16 H22=>?_)))))))));dsimp only[lNA,lCA,lSZ,lSS,aN] at H22;refine aa (ab (rA hQ results153 Z ?_));obtain ⟨fp11,H23⟩:=Tape.fill H22 5 7 Z Z Z trivial
    try dsimp only[lNA,lCA,lSZ,lSS] at H23
    obtain ⟨fp12,H24⟩:=H23.closeW 0 3 4 5 (lm t r z1) Z Z Z Z Z Z Z Z Z Z (jv wok1)
    try dsimp only[lNA,lCA,lSZ,lSS] at H24
    have hz:=H24.doneW;rw [show lm t r z1=eY t r z from by unfold eY; rw [fP hnp,hz1]; rfl] at hz;exact ⟨(by rw [hnp]; rfl),hz⟩
theorem oG {w:World}{z:Wld}{zb rC6 rC7 rC8:Nat}{fp rF6 rF7 rF8:List Nat}{r:Rec}{rA6 rA7 rA8:Option Addr}(o:OwnW w zb 34 z fp) (nd:fp.Nodup) (rK:r.Ok) (rO6:own false w [.slice rA6 r.Rows.length rC6] r.Rows rF6) (rD6:∀ b∈rF6,b ∉ fp) (rO7:own false w [.slice rA7 r.Data.length rC7] r.Data rF7) (rD7:∀ b∈rF7,b ∉ fp) (rO8:own false w [.slice rA8 r.Delta.length rC8] r.Delta rF8) (rD8:∀ b∈rF8,b ∉ fp) (hf:dq z=false) (hd:z.Down=false) (hT:z.Tapes.length=2) (hb:ca r≤1048576) (hw:z.Writes≤1500000000):Ret Tryz.prog 135 #[.pointer (some ⟨zb,0,none⟩),r.val rA6 rC6 rA7 rC7 rA8 rC8] w fun v w'=>(v = .bool (ly z r)∧MutW w w' fp zb 34 (kA z r)):=by
 have rK2:=rK;unfold Rec.Ok at rK2
 try unfold I64ok at rK2
 try unfold maxLen at rK2
 have rN2:r.Name.size≤maxLen:=by unfold maxLen; omega
 have rL6:=oL rO6;have rL7:=oL rO7;have rL8:=oL rO8;have aw:=(gq (t:=0) (r:=r) (z:=z)).2;have at_:=ij (t:=0) (r:=r) (z:=z);have ar:=rP (t:=0) (u:=1) (r:=r) (z:=z);have fn_:=ta hf;refine aH (vs:=[.pointer (some ⟨zb,0,none⟩),r.val rA6 rC6 rA7 rC7 rA8 rC8]) func135 Z ntmps135 Z (fun Q hQ hN=>?_);have H0:=(((Sep.beginW o nd).seeF (rO6) rD6).seeF (rO7) rD7).seeF (rO8) rD8
 try dsimp only[lNA,lCA,lSZ,lSS] at H0
 refine ab (ba (wn Z) Z Z H0 (fun b1 w1 e1 g1 H1=>sA Z Z (aa (ab (sM Z Z (sV Z (ak ax Z aJ Z Z (At.whole (H1.box 1 Z))) (sC func153 pz Z (gY (H1.wldAt 0 Z) (H1.nodup1 (i:=0) Z) (by assumption) (aX (H1.seen 0 Z)) (fun b hb=>H1.off 0 Z 0 Z hb) (aX (H1.seen 1 Z)) (fun b hb=>H1.off 1 Z 0 Z hb) (aX (H1.seen 2 Z)) (fun b hb=>H1.off 2 Z 0 Z hb) (by first | assumption | omega) (by first | assumption | omega) (by first | assumption | omega) (by first | assumption | omega) (by first | assumption | omega) (t:=0)) (fun v1 w2 r1=>?_))))))));obtain ⟨rfl,mm1⟩:=r1;obtain ⟨fp1,H2⟩:=H1.mutW 0 Z mm1
 try dsimp only[lNA,lCA,lSZ,lSS] at H2
 refine sM Z Z (cK (t:=8) Z (fun hg1=>?_) (fun hg1=>?_))
 ·have hnp0:bQ z=false:=by simpa using hg1
  have ad:(eY 0 r z).Down=false:=(xn (t:=0) (r:=r) hnp0).trans hd;refine am (wg Z Z Z) Z Z (aM Z) (am (wg Z Z Z) Z Z (ak ax Z aJ Z Z (At.whole (H2.box 1 Z))) (dG (wg Z Z Z) Z Z (aW func153 Z pz Z) (gY (H2.wldAt 0 Z) (H2.nodup1 (i:=0) Z) (by assumption) (aX (H2.seen 0 Z)) (fun b hb=>H2.off 0 Z 0 Z hb) (aX (H2.seen 1 Z)) (fun b hb=>H2.off 1 Z 0 Z hb) (aX (H2.seen 2 Z)) (fun b hb=>H2.off 2 Z 0 Z hb) (by first | assumption | omega) (by first | assumption | omega) (by first | assumption | omega) (by first | assumption | omega) (by first | assumption | omega) (t:=1)) (fun v2 w3 r2=>?_)));obtain ⟨rfl,mm2⟩:=r2;obtain ⟨fp2,H3⟩:=H2.mutW 0 Z mm2
  try dsimp only[lNA,lCA,lSZ,lSS] at H3
  refine sV Z (aI Z Z) (rA hQ results135 Z ?_);have hnp:bQ z=false:=by simpa using hg1
  have hz:=H3.doneW;rw [← (mG (r:=r) hnp).1] at hz;exact ⟨(by rw [(mG (r:=r) hnp).2]),hz⟩
 ·try simp only [decide_eq_true_eq,decide_eq_false_iff_not] at hg1
  refine sR 3 Z (sV Z (aP Z Z) (rA hQ results135 Z ?_));have hnp:bQ z=true:=by simpa using hg1
  have hz:=H2.doneW;rw [← (pb (r:=r) hnp).1] at hz;exact ⟨(by rw [(pb (r:=r) hnp).2]),hz⟩
end Go.Wk
namespace Go.Wk
open Go.Proofs Rp Go.Proofs.Tryz
set_option maxRecDepth 10000
theorem lL {w:World}{xs:List Rec}{xsA:Option Addr}{xsC:Nat}{nm:ByteArray}(xsS:Sees w [.slice xsA xs.length xsC] xs):Ret Tryz.prog 84 #[.slice xsA xs.length xsC,.string nm] w fun v w'=>Ext No w w'∧(v = .int .i64 (rt (itP nm) xs)):=by
 have xsL:=sL xsS;obtain ⟨xsF,xsO⟩:=xsS;refine aH (vs:=[.slice xsA xs.length xsC,.string nm]) func84 Z ntmps84 Z (fun Q hQ hN=>?_);have H0:=Sep.start (w:=w) (F:=[seen false [.slice xsA xs.length xsC] xs xsF]) (ae xsO (by simp));refine ab (sA Z Z (aa (ab (sA Z Z (aa (ac (ab (sA Z Z (aa (ao (bw (γ:=Nat) H0 [(0,_),(1,_),(4,_)] ⟨Z,Z,Z,trivial⟩ (fun k=>[(5,.int .i64 (jO (itP nm) xs k)),(6,.int .i64 k)]) (fun k=>k≤xs.length∧True) (fun k=>xs.length-k) 0 ⟨Z,Z,trivial⟩ ⟨by omega,trivial⟩ (fun k w1 H1 ⟨hk,_⟩=>?_))))))))))));dsimp only[lCA,lNA];refine ac (ab (sR 2 Z (sV Z (aB aO Z) (sV Z (aT Z Z) (aa (au Z (fun c1=>?_) (fun c1=>?_)))))))
 ·refine aj (ac (ao (ac ?_)));obtain ⟨eb1,eo1,es1,ef1,ee1,ec1,eO1,eH1,em1⟩:=aV (H1.seen 0 Z) k (by omega);obtain ⟨ea1,ek1,ea2,ek2,ea3,ek3,eg1,eg2,eg3,rfl,eq1,eK1,eo2,eo3,eo4⟩:=cy eO1;have eK1U:=eK1;unfold Rec.Ok at eK1U
  try unfold I64ok at eK1U
  try unfold maxLen at eK1U
  have eP1:=H1.look1 0 Z eo2 (fun b hb=>eH1 b (by rw [eq1]; simp [hb]));have eL1:=oL eo2;have eP2:=eP1.look1 0 Z eo3 (fun b hb=>eH1 b (by rw [eq1]; simp [hb]));have eL2:=oL eo3;have eP3:=eP2.look1 0 Z eo4 (fun b hb=>eH1 b (by rw [eq1]; simp [hb]));have eL3:=oL eo4;refine an (sR 2 Z (sV Z (ay aO aJ Z Z ee1 k (by omega) (by omega)) (sF ax Z ts2 (sV Z (ah tu2 Z Z (be ec1 0 Z)) (sR 2 Z (bD 7 (j:=6) (want:=true) (t:=26) Z Z Z Z (fun hg1 kk1=>am (wgE Z Z Z hg1) Z Z (aM Z) (am (wgE Z Z Z hg1) Z Z (aM Z) (am (wgE Z Z Z hg1) Z Z (ay aO aJ Z Z ee1 k (by first | omega | (simp only [Bool.or_eq_false_iff,Bool.and_eq_true,Bool.and_eq_false_iff,Bool.or_eq_true,Bool.not_eq_true',Bool.not_eq_false',decide_eq_true_eq,decide_eq_false_iff_not] at hg1; omega)) (by omega)) (am (wgE Z Z Z hg1) Z Z (ag ax Z ts9 Z Z) (am (wgE Z Z Z hg1) Z Z (ah tu9 Z Z (be ec1 2 Z)) (am (wgE Z Z Z hg1) Z Z (aM Z) (am (wgE Z Z Z hg1) Z Z (mU Z Z) (kk1 _ _ (kx Z (kx Z (kx Z (kx Z (kx Z (kx Z (kx Z k0))))))) Z Ext.refl)))))))) (fun w2 e1=>?_)))))));have H2:=eP3.to e1;refine sV Z (bt Z Z) (aa (bL Z (fun c2=>?_) (fun c2=>?_)))
  ·refine an (sR 2 Z (aa (an (sM Z Z (sV Z (aA Z Z iO) (sA Z Z (aa (⟨k+1,⟨eqI (qE (by simpa [itP] using c2)).symm,Z,Z,Z,Z,trivial⟩,⟨(H2.ftake 1),by omega,trivial⟩,by dsimp only; omega⟩))))))))
  ·refine aj (an (sM Z Z (sV Z (aA Z Z iO) (sA Z Z (aa (⟨k+1,⟨eqI (rr (by simpa [itP] using c2)).symm,Z,Z,Z,Z,trivial⟩,⟨(H2.ftake 1),by omega,trivial⟩,by dsimp only; omega⟩))))))
 ·refine aQ (ab (sR 2 Z (rN hQ results84 Z ?_)));obtain rfl:k=xs.length:=by omega
  exact ⟨H1.ext,Z⟩
end Go.Wk
namespace Go.Wk
open Rp (sz own)
section
variable {xs rs:List Rec}{r:Rec}{k a:Nat}{z:Wld}{nm:ByteArray}
theorem gU (hk:k<xs.length) (h1:(xs.getD k default).Kind=1) (h2:¬ (xs.getD k default).Length<0) (h3:rt (itP (xs.getD k default).Name) xs=k):fC xs k=true:=by
  unfold fC
  rw [tx hk (iI.2 ⟨h1,rfl⟩),decide_eq_true h1,decide_eq_true (show (xs.getD k default).Length ≠ -1 by omega),decide_eq_true h3]
  rfl
theorem mh (h1:(xs.getD k default).Kind≠1):fC xs k=false:=by unfold fC; rw [decide_eq_false h1]; rfl
theorem xV (hl:(xs.getD k default).Kind=1 → -1≤(xs.getD k default).Length) (h2:(xs.getD k default).Length<0):fC xs k=false:=by
  by_cases h1:(xs.getD k default).Kind=1
  · have:=hl h1
    unfold fC
    rw [decide_eq_false (show ¬ (xs.getD k default).Length ≠ -1 by omega)]
    simp
  · exact mh h1
theorem xE (hk:k<xs.length) (h3:rt (itP (xs.getD k default).Name) xs≠k):fC xs k=false:=by
  by_cases h1:(xs.getD k default).Kind=1
  · unfold fC
    rw [tx hk (iI.2 ⟨h1,rfl⟩),decide_eq_false h3]
    simp
  · exact mh h1
theorem gX (h:fC xs k=true):fE xs (k+1)=fE xs k++[xs.getD k default]:=by rw [fE,if_pos h]
theorem qC (h:fC xs k=false):fE xs (k+1)=fE xs k:=by rw [fE,if_neg (by simp [h])]
theorem Aa (h:∀ i,a≤i→i<rs.length→nLt (bH r) (bH (rs.getD i default))):∀ y∈rs.drop a,nLt (bH r) (bH y):=fun y hy=>by
  obtain ⟨i,hi,e⟩:=List.getElem_of_mem hy
  rw [List.length_drop] at hi
  rw [List.getElem_drop] at e
  have:=h (a+i) (by omega) (by omega)
  rw [bE (by omega),e] at this
  exact this
theorem xA (h:Ord nLt bH rs) {i j:Nat}(hij:i<j) (hj:j<rs.length):¬ nLt (bH (rs.getD j default)) (bH (rs.getD i default)):=by
  induction rs generalizing i j with
  | nil=>simp at hj
  | cons x l ih=>
    cases h with
    | cons h1 h2=>
      cases j with
      | zero=>omega
      | succ j=>
        have hj':j<l.length:=by simpa using hj
        cases i with
        | zero=>
          show ¬ nLt (bH (l.getD j default)) (bH x)
          rw [bE hj']
          exact h1 _ (List.getElem_mem _)
        | succ i=>exact ih h2 (by omega) hj'
theorem zO (ho:Ord nLt bH rs) (ha:a≤rs.length) (h1:a=0∨¬ nLt (bH r) (bH (rs.getD (a-1) default))):∀ y∈rs.take a,¬ nLt (bH r) (bH y):=fun y hy hlt=>by
  obtain ⟨i,hi,e⟩:=List.getElem_of_mem hy
  rw [List.length_take] at hi
  rw [List.getElem_take] at e
  rcases h1 with h1 | h1
  · omega
  · have e2:rs.getD i default=y:=by rw [bE (by omega),e]
    by_cases c:i=a-1
    · subst c; rw [e2] at h1; exact h1 hlt
    · have h3:=xA ho (show i<a-1 by omega) (by omega)
      rw [e2] at h3
      rcases qi.tot (bH r) (bH (rs.getD (a-1) default)) with q | q | q
      · exact h1 q
      · rw [← q] at h3; exact h3 hlt
      · exact h3 (qi.tr _ _ _ q hlt)
theorem jh (h:Stable nLt bH xs rs) (ha:a≤rs.length) (h1:a=0∨¬ nLt (bH r) (bH (rs.getD (a-1) default))) (hB:∀ i,a≤i→i<rs.length→nLt (bH r) (bH (rs.getD i default))) :
    Stable nLt bH (xs++[r]) (rs.take a++r::rs.drop a):=
  fb qi (by rw [List.take_append_drop]; exact h) (Aa hB) (zO h.1 ha h1)
theorem xH:Stable nLt bH (fE xs 0) []:=⟨.nil,.refl⟩
theorem AB {s:Shape}(h:fL s r=0) (h1:r.Kind=1) : -1≤r.Length:=by
  unfold fL eI at h
  rw [if_pos h1] at h
  by_cases c:r.Length = -1
  · omega
  · by_cases q:r.Length<1
    · exfalso
      have hi:eU s r=false:=by unfold eU cm; rw [if_neg c,if_pos q]; rfl
      have hA:(if bg r.Name≠0 then bg r.Name else if eU s r=true then 0 else 3)≠(0:Int):=by
        by_cases n:bg r.Name=0
        · rw [if_neg (by simp [n]),hi]; simp
        · rw [if_pos n]; exact n
      rw [if_pos hA] at h
      split at h
      · split at h
        · exact hA h
        · omega
      · omega
    · omega
theorem yZ (hw:dS z=0) (hr:r∈dI z) (h1:r.Kind=1) : -1≤r.Length:=AB (yo hw hr) h1
end
end Go.Wk
namespace Go.Wk
open Go.Proofs Rp Go.Proofs.Tryz
set_option maxRecDepth 10000
theorem nG {w:World}{xs:List Rec}{vs:List RecV}{A:Option Addr}{n C:Nat}{ft:List Nat}(vS:Sees w [.slice A n C] vs) (hR:RdV w ft vs) (hM:vs.map RecV.r=xs) (hl:xs.length≤600000) (hln:∀ r∈xs,r.Kind=1 → -1≤r.Length):Ret Tryz.prog 93 #[.slice A n C] w fun v w'=>Ext No w w'∧(∃ us,Res w w' [v] us∧RdV w' ft us∧Stable nLt bH (pn xs) (us.map RecV.r)):=by
 obtain ⟨f0,vO⟩:=vS;obtain rfl:=dH vO;have vL:=oL vO;have hvl:vs.length=xs.length:=by rw [← hM,List.length_map]
 refine aH (vs:=[.slice A vs.length C]) func93 Z ntmps93 Z (fun Q hQ hN=>?_);have H0:=Sep.start (w:=w) (F:=[seen false [.slice A vs.length C] vs f0]) (ae vO (by simp));refine ab (sA Z Z (aa (ab (fT (α:=RecV) (wn Z) Z aO aG H0 (fun b1 w1 e1 g1 H1=>sA Z Z (aa (ac (ab (sA Z Z (aa (ao (gP (α:=RecV) (γ:=Nat × List RecV) (fun (k,uu)=>uu) (0,[]) H1 0 Z 3 Z [(0,_),(2,_)] ⟨Z,Z,trivial⟩ (fun (k,uu)=>[(4,.int .i64 k)]) (fun (k,uu)=>k≤xs.length∧RdV w ft uu∧Stable nLt bH (fE xs k) (uu.map RecV.r)) (fun (k,uu)=>xs.length-k) ⟨Z,trivial⟩ ⟨by (try dsimp only); omega,RdV.nil,xH⟩ (fun (k,uu) vA1 fA1 w2 H2 ⟨hk,hRv,hM2⟩=>?_)))))))))))));dsimp only[lCA,lNA,lSZ,lSS] at H2 ⊢;refine ac (ab (sR 2 Z (sV Z (aB aO Z) (sV Z (aT Z Z) (aa (au Z (fun c1=>?_) (fun c1=>?_)))))))
 ·refine aj (ac (ao (ac ?_)));obtain ⟨oa1,ok1,oq1⟩:=az (H2.mine 0 Z);cases oq1;have hel:(vs.getD k default).r=(xs.getD k default):=bY hM (by omega);have hvu:uu.length=(fE xs k).length:=by have:=hM2.2.len; rwa [List.length_map] at this
  have hnt:=oc (xs:=xs) (k:=k);obtain ⟨eb1,eo1,ee1,ec1,eK1⟩:=H2.viewSeen 0 Z k (by omega);refine an (sR 2 Z (sV Z (ay aO aJ Z Z ee1 k (by omega) (by omega)) (sV Z (ak ax Z aJ Z Z ec1) (bI (wn Z) Z zeroValue94 H2 (fun b2 w3 e2 g2 H3=>bc (wn Z) aJ Z Z Z Z H3 1 Z Z (fun w4 e3 H4=>?_))))));dsimp only[lNA,lCA,lSZ,lSS,aN] at H4;refine aa (ac (ab (sF ax Z ts2 (sLd tu2 (H4.box 1 Z) Z (sR 2 Z (cK (t:=21) Z (fun hg1=>?_) (fun hg1=>?_)))))))
  ·try simp only [decide_eq_true_eq,decide_eq_false_iff_not] at hg1
   refine sR 3 Z (sV Z (aI Z Z) (sR 7 Z (sV Z (aI Z Z) (aa (cR Z (aQ (an (sM Z Z (sV Z (aA Z Z iO) (sA Z Z (aa ?_)))))))))));exact ⟨((k+1,uu),_,_),⟨Z,Z,Z,Z,trivial⟩,⟨(H4.dtake 1),by (try dsimp only); omega,hRv,by (try dsimp only); rw [qC (mh (by rw [← hel]; omega))]; exact hM2⟩,by dsimp only; omega⟩
  ·try simp only [decide_eq_true_eq,decide_eq_false_iff_not] at hg1
   refine am (wg Z Z Z) Z Z (ag ax Z ts2 Z Z) (am (wg Z Z Z) Z Z (ah tu2 Z Z (al (H4.box 1 Z) Z)) (am (wg Z Z Z) Z Z (aT Z Z) (sV Z (aP Z Z) (sM Z Z (cK (t:=26) Z (fun hg2=>?_) (fun hg2=>?_))))))
   ·try simp only [decide_eq_true_eq,decide_eq_false_iff_not] at hg2
    refine sR 6 Z (sV Z (aI Z Z) (aa (cR Z (aQ (an (sM Z Z (sV Z (aA Z Z iO) (sA Z Z (aa ?_)))))))));exact ⟨((k+1,uu),_,_),⟨Z,Z,Z,Z,trivial⟩,⟨(H4.dtake 1),by (try dsimp only); omega,hRv,by (try dsimp only); rw [qC (xV (hln _ (by rw [bE (by omega)]; exact List.getElem_mem _)) (by rw [← hel]; first | omega | simp_all))]; exact hM2⟩,by dsimp only; omega⟩
   ·try simp only [decide_eq_true_eq,decide_eq_false_iff_not] at hg2
    refine am (wg Z Z Z) Z Z (aM Z) (am (wg Z Z Z) Z Z (ag ax Z ts9 Z Z) (am (wg Z Z Z) Z Z (ah tu9 Z Z (al (H4.box 1 Z) Z)) ?_));have lc:=lL (xs:=vs.map RecV.r) (nm:=(vs.getD k default).r.Name) (by rw [List.length_map]; exact (hR.to H4.ext).list (H4.seen 0 Z));rw [List.length_map,hM] at lc;refine dG (wg Z Z Z) Z Z (aW func84 Z xW Z) lc (fun v1 w5 r1=>?_);obtain ⟨e4,rfl⟩:=r1;have H5:=H4.to e4;refine am (wg Z Z Z) Z Z (aM Z) (am (wg Z Z Z) Z Z (bp Z Z) (sV Z (aP Z Z) (aa (au Z (fun c2=>?_) (fun c2=>?_)))))
    ·refine aQ (an (sM Z Z (sV Z (aA Z Z iO) (sA Z Z (aa ?_)))));exact ⟨((k+1,uu),_,_),⟨Z,Z,Z,Z,trivial⟩,⟨(H5.dtake 1),by (try dsimp only); omega,hRv,by (try dsimp only); rw [qC (xE (by omega) (by rw [← hel]; first | omega | simp_all))]; exact hM2⟩,by dsimp only; omega⟩
    ·refine aj (ac ?_);have HS:=H5.share 0 Z
     try dsimp only[lNA,lCA,lSZ,lSS] at HS
     have usl:=uu.length_map RecV.r;refine an (sM Z Z (sV Z (aB aO Z) (sA Z Z (aa (ac (ao (bw (γ:=Nat) HS [(0,_),(2,_),(3,_),(4,_),(5,_)] ⟨Z,Z,Z,Z,Z,trivial⟩ (fun a=>[(6,.int .i64 a)]) (fun a=>a≤uu.length∧(∀ i,a≤i→i<uu.length→nLt (bH (vs.getD k default).r) (bH (uu.getD i default).r))) (fun a=>a) uu.length ⟨Z,trivial⟩ ⟨by omega,fun i h1 h2=>by omega⟩ (fun a w6 H6 ⟨ha,hB⟩=>?_))))))));dsimp only[lCA,lNA];refine ac (ac (bz (S:=Ext No _) [(0,true),(1,true),(2,true),(3,true),(4,true),(5,true),(6,true),(7,true),(8,true),(9,true),(10,true),(11,true),(12,false)] (by kernel_rfl) (by kernel_rfl) (by kernel_rfl) Z (fun _=>Ext.refl.drawn _) (fun q1=>?_)));have H7:=H6.drawn q1;refine dR 3 Z (cd (t:=38) Z (fun hg3=>?_) (fun hg3=>?_))
     ·try simp only [decide_eq_true_eq,decide_eq_false_iff_not] at hg3
      refine aF Z (wg Z Z Z) Z Z (fun zw hx=>ag ax Z ts9 Z Z) (aF Z (wg Z Z Z) Z Z (fun zw hx=>ah tu9 Z Z (al (hx.heap (H7.box 1 Z)) Z)) (aF Z (wg Z Z Z) Z Z (fun zw hx=>aM Z) (aF Z (wg Z Z Z) Z Z (fun zw hx=>aM Z) (aF Z (wg Z Z Z) Z Z (fun zw hx=>bu Z Z iO) ?_))));obtain ⟨eb2,eo2,ee2,ec2,eK2⟩:=H7.viewSeen 1 Z (a-1) (by omega);refine aF Z (wg Z Z Z) Z Z (fun zw hx=>ay aO aJ Z Z ee2 (a-1) (by omega) (by omega)) (aF Z (wg Z Z Z) Z Z (fun zw hx=>ag ax Z ts9 Z Z) (aF Z (wg Z Z Z) Z Z (fun zw hx=>ah tu9 Z Z (be (hx.at ec2) 2 Z)) (aF Z (wg Z Z Z) Z Z (fun zw hx=>zZ Z Z) (aR Z (wn Z) Z Z (aI Z Z) (aS (bL Z (fun c3=>?_) (fun c3=>?_)))))))
      ·refine aj (ao (an (sM Z Z (sV Z (bu Z Z iO) (sA Z Z (aa (⟨a-1,⟨eqI (by omega),Z,Z,Z,Z,Z,trivial⟩,⟨H7,by omega,fun i h1 h2=>?_⟩,by dsimp only; omega⟩)))))))
       by_cases e:i=a-1
       ·subst e; simpa [nLt,bH] using c3
       ·exact hB i (by omega) h2
      ·refine aQ (bz (S:=Ext No _) [(1,true),(2,true),(3,true),(5,true),(8,true),(9,true),(10,true),(1012,false),(0,false),(1005,false),(4,false),(6,false),(7,false),(11,false),(12,false),(6,false),(4,false),(7,false),(11,false),(12,false),(6,false),(0,false),(4,false),(7,false),(11,false),(12,false)] (by kernel_rfl) (by kernel_rfl) (by kernel_rfl) Z (fun _=>Ext.refl.drawn _) (fun q2=>?_));have H8:=H7.drawn q2;refine dM Z Z Z (dM Z Z Z ?_);have sc1:=cW (H8.seen 1 Z);obtain ⟨sf1,so1,ss1⟩:=ew (H8.seen 1 Z) (0) (a) _ (by omega) (by omega) (by omega) (Nat.le_refl _);have H9:=H8.look1 1 Z so1 ss1;have sl1:=eD (xs:=uu) (l:=0) (h:=a) (by omega);refine dV Z Z (fun zw hx=>gt aO aJ Z Z (a) (by omega) (by omega) sl1) (dV Z Z (fun zw hx=>ak ax Z aJ Z Z (At.whole (hx.heap (H8.box 1 Z)))) (dM Z Z Z (dM Z Z Z ?_)));have sc2:=cW (H9.seen 1 Z);obtain ⟨sf2,so2,ss2⟩:=ew (H9.seen 1 Z) (a) (uu.length) _ (by omega) (by omega) (by omega) (Nat.le_refl _);have H10:=H9.look1 1 Z so2 ss2;have sl2:=eD (xs:=uu) (l:=a) (h:=uu.length) (by omega);refine dV Z Z (fun zw hx=>mJ aO aJ Z Z (a) (by omega) (by omega) sl2) (dF Z ?_ ?_)
       ·refine d_S (fun hs1=>?_) (by simp);refine jA (α:=RecV) Z (wn Z) Z aO aG H10 (fun _ h e=>h.trans e.no) (fun b3 w7 e5 g3 H11=>dF Z ?_ ?_)
        ·refine d_S (fun hs2=>?_) (by simp);refine cv Z (wn Z) Z aO aG Z Z Z H11 2 Z (H11.seen 2 Z) (by (try simp only [List.length_append,List.length_nil,List.length_cons]); unfold maxLen; omega) (by (try simp only [List.length_append,List.length_nil,List.length_cons]); omega) (fun b hb=>by simp only [List.mem_singleton] at hb; rw [hb]; exact Nat.le_trans hs1.size g3) (fun v2 w8 fp1 sb1 H12=>?_)
         try dsimp only[lNA,lCA,lSZ,lSS] at H12
         refine dx Z (wn Z) Z aO aG Z Z Z Z H12 (fun _ h e=>h.trans e.no) (fun b4 w9 e6 g4 H13=>d_S (fun hs3=>?_) (by simp));refine ff Z (wn Z) Z aO aG Z Z Z H13 2 3 Z Z (dA (v:=(vs.getD k default)) (by assumption)) (by (try simp only [List.length_append,List.length_nil,List.length_cons]); unfold maxLen; omega) (by (try simp only [List.length_append,List.length_nil,List.length_cons]); omega) (fun b hb=>(sb1 b hb).elim (((fun b hb=>by simp only [List.mem_singleton] at hb; rw [hb]; exact Nat.le_trans hs1.size g3):∀ b∈_,_≤b) b) (fun h=>Nat.le_trans hs2.size h)) (fun v3 w10 fp2 sb2 H14=>?_)
         try dsimp only[lNA,lCA,lSZ,lSS] at H14
         refine d_S (fun hs4=>?_) (by simp);refine cv Z (wn Z) Z aO aG Z Z Z H14 2 Z (H14.seen 3 Z) (by (try simp only [List.length_append,List.length_nil,List.length_cons]); unfold maxLen; omega) (by (try simp only [List.length_append,List.length_nil,List.length_cons]); omega) (fun b hb=>(sb2 b hb).elim (((fun b hb=>(sb1 b hb).elim (((fun b hb=>by simp only [List.mem_singleton] at hb; rw [hb]; exact Nat.le_trans hs1.size g3):∀ b∈_,_≤b) b) (fun h=>Nat.le_trans hs2.size h)):∀ b∈_,_≤b) b) (fun h=>Nat.le_trans hs3.size h)) (fun v4 w11 fp3 sb3 H15=>?_)
         try dsimp only[lNA,lCA,lSZ,lSS] at H15
         refine aR Z (wn Z) Z Z (bk Z) (aS (an (sM Z Z (sV Z (aA Z Z iO) (sA Z Z (aa ?_))))));have hny:fC xs k=true:=gU (by omega) (by rw [← hel]; omega) (by rw [← hel]; first | omega | simp_all) (by rw [← hel]; first | omega | simp_all);exact ⟨((k+1,_),_,_),⟨Z,Z,Z,Z,trivial⟩,⟨(H15.ftake 1).sub (.cons _ (.cons _ (.cons_cons _ (.cons _ List.Sublist.slnil)))),by (try dsimp only); omega,((hRv.sub cC).snoc (hR.inAt (k:=k) (by omega))).app (hRv.sub cC),by (try dsimp only); rw [gX hny,← hel,ev Z (by omega)]; exact jh hM2 (by omega) (.inr (by rw [← bY Z (by omega)]; simpa [nLt,bH] using c3)) (fun i h1 h2=>by rw [← bY Z (by omega)]; exact hB i h1 (by omega))⟩,by dsimp only; omega⟩
        ·refine dx Z (wn Z) Z aO aG Z Z Z Z H11 (fun _ h e=>h.trans e.no) (fun b5 w12 e7 g5 H16=>d_S (fun hs5=>?_) (by simp));refine cv Z (wn Z) Z aO aG Z Z Z H16 2 Z (H16.seen 2 Z) (by (try simp only [List.length_append,List.length_nil,List.length_cons]); unfold maxLen; omega) (by (try simp only [List.length_append,List.length_nil,List.length_cons]); omega) (fun b hb=>by simp only [List.mem_singleton] at hb; rw [hb]; exact Nat.le_trans hs1.size g3) (fun v5 w13 fp4 sb4 H17=>?_)
         try dsimp only[lNA,lCA,lSZ,lSS] at H17
         refine d_S (fun hs6=>?_) (by simp);refine ff Z (wn Z) Z aO aG Z Z Z H17 2 3 Z Z (dA (v:=(vs.getD k default)) (by assumption)) (by (try simp only [List.length_append,List.length_nil,List.length_cons]); unfold maxLen; omega) (by (try simp only [List.length_append,List.length_nil,List.length_cons]); omega) (fun b hb=>(sb4 b hb).elim (((fun b hb=>by simp only [List.mem_singleton] at hb; rw [hb]; exact Nat.le_trans hs1.size g3):∀ b∈_,_≤b) b) (fun h=>Nat.le_trans hs5.size h)) (fun v6 w14 fp5 sb5 H18=>?_)
         try dsimp only[lNA,lCA,lSZ,lSS] at H18
         refine d_S (fun hs7=>?_) (by simp);refine cv Z (wn Z) Z aO aG Z Z Z H18 2 Z (H18.seen 3 Z) (by (try simp only [List.length_append,List.length_nil,List.length_cons]); unfold maxLen; omega) (by (try simp only [List.length_append,List.length_nil,List.length_cons]); omega) (fun b hb=>(sb5 b hb).elim (((fun b hb=>(sb4 b hb).elim (((fun b hb=>by simp only [List.mem_singleton] at hb; rw [hb]; exact Nat.le_trans hs1.size g3):∀ b∈_,_≤b) b) (fun h=>Nat.le_trans hs5.size h)):∀ b∈_,_≤b) b) (fun h=>Nat.le_trans hs6.size h)) (fun v7 w15 fp6 sb6 H19=>?_)
         try dsimp only[lNA,lCA,lSZ,lSS] at H19
         refine aR Z (wn Z) Z Z (bk Z) (aS (an (sM Z Z (sV Z (aA Z Z iO) (sA Z Z (aa ?_))))));have hny:fC xs k=true:=gU (by omega) (by rw [← hel]; omega) (by rw [← hel]; first | omega | simp_all) (by rw [← hel]; first | omega | simp_all);exact ⟨((k+1,_),_,_),⟨Z,Z,Z,Z,trivial⟩,⟨(H19.ftake 1).sub (.cons _ (.cons _ (.cons_cons _ (.cons _ List.Sublist.slnil)))),by (try dsimp only); omega,((hRv.sub cC).snoc (hR.inAt (k:=k) (by omega))).app (hRv.sub cC),by (try dsimp only); rw [gX hny,← hel,ev Z (by omega)]; exact jh hM2 (by omega) (.inr (by rw [← bY Z (by omega)]; simpa [nLt,bH] using c3)) (fun i h1 h2=>by rw [← bY Z (by omega)]; exact hB i h1 (by omega))⟩,by dsimp only; omega⟩
       ·refine dx Z (wn Z) Z aO aG Z Z Z Z H10 (fun _ h e=>h.trans e.no) (fun b6 w16 e8 g6 H20=>d_S (fun hs8=>?_) (by simp));refine jA (α:=RecV) Z (wn Z) Z aO aG H20 (fun _ h e=>h.trans e.no) (fun b7 w17 e9 g7 H21=>d_S (fun hs9=>?_) (by simp));refine cv Z (wn Z) Z aO aG Z Z Z H21 3 Z (H21.seen 2 Z) (by (try simp only [List.length_append,List.length_nil,List.length_cons]); unfold maxLen; omega) (by (try simp only [List.length_append,List.length_nil,List.length_cons]); omega) (fun b hb=>by simp only [List.mem_singleton] at hb; rw [hb]; exact Nat.le_trans hs8.size g7) (fun v8 w18 fp7 sb7 H22=>?_)
        try dsimp only[lNA,lCA,lSZ,lSS] at H22
        refine d_S (fun hs10=>?_) (by simp);refine ff Z (wn Z) Z aO aG Z Z Z H22 3 2 Z Z (dA (v:=(vs.getD k default)) (by assumption)) (by (try simp only [List.length_append,List.length_nil,List.length_cons]); unfold maxLen; omega) (by (try simp only [List.length_append,List.length_nil,List.length_cons]); omega) (fun b hb=>(sb7 b hb).elim (((fun b hb=>by simp only [List.mem_singleton] at hb; rw [hb]; exact Nat.le_trans hs8.size g7):∀ b∈_,_≤b) b) (fun h=>Nat.le_trans hs9.size h)) (fun v9 w19 fp8 sb8 H23=>?_)
        try dsimp only[lNA,lCA,lSZ,lSS] at H23
        refine d_S (fun hs11=>?_) (by simp);refine cv Z (wn Z) Z aO aG Z Z Z H23 3 Z (H23.seen 3 Z) (by (try simp only [List.length_append,List.length_nil,List.length_cons]); unfold maxLen; omega) (by (try simp only [List.length_append,List.length_nil,List.length_cons]); omega) (fun b hb=>(sb8 b hb).elim (((fun b hb=>(sb7 b hb).elim (((fun b hb=>by simp only [List.mem_singleton] at hb; rw [hb]; exact Nat.le_trans hs8.size g7):∀ b∈_,_≤b) b) (fun h=>Nat.le_trans hs9.size h)):∀ b∈_,_≤b) b) (fun h=>Nat.le_trans hs10.size h)) (fun v10 w20 fp9 sb9 H24=>?_)
        try dsimp only[lNA,lCA,lSZ,lSS] at H24
        refine aR Z (wn Z) Z Z (bk Z) (aS (an (sM Z Z (sV Z (aA Z Z iO) (sA Z Z (aa ?_))))));have hny:fC xs k=true:=gU (by omega) (by rw [← hel]; omega) (by rw [← hel]; first | omega | simp_all) (by rw [← hel]; first | omega | simp_all);exact ⟨((k+1,_),_,_),⟨Z,Z,Z,Z,trivial⟩,⟨(H24.ftake 1).sub (.cons _ (.cons _ (.cons _ (.cons_cons _ List.Sublist.slnil)))),by (try dsimp only); omega,((hRv.sub cC).snoc (hR.inAt (k:=k) (by omega))).app (hRv.sub cC),by (try dsimp only); rw [gX hny,← hel,ev Z (by omega)]; exact jh hM2 (by omega) (.inr (by rw [← bY Z (by omega)]; simpa [nLt,bH] using c3)) (fun i h1 h2=>by rw [← bY Z (by omega)]; exact hB i h1 (by omega))⟩,by dsimp only; omega⟩
     ·try simp only [decide_eq_true_eq,decide_eq_false_iff_not] at hg3
      refine dR 9 Z (aR Z (wn Z) Z Z (aP Z Z) (aS (iG Z (aQ (bz (S:=Ext No _) [(1,true),(2,true),(3,true),(5,true),(8,true),(9,true),(10,true),(1012,false),(0,false),(1005,false),(4,false),(6,false),(7,false),(11,false),(12,false),(6,false),(4,false),(7,false),(11,false),(12,false),(6,false),(0,false),(4,false),(7,false),(11,false),(12,false)] (by kernel_rfl) (by kernel_rfl) (by kernel_rfl) Z (fun _=>Ext.refl.drawn _) (fun q3=>?_))))));have H25:=H7.drawn q3;refine dM Z Z Z (dM Z Z Z ?_);have sc3:=cW (H25.seen 1 Z);obtain ⟨sf3,so3,ss3⟩:=ew (H25.seen 1 Z) (0) (a) _ (by omega) (by omega) (by omega) (Nat.le_refl _);have H26:=H25.look1 1 Z so3 ss3;have sl3:=eD (xs:=uu) (l:=0) (h:=a) (by omega);refine dV Z Z (fun zw hx=>gt aO aJ Z Z (a) (by omega) (by omega) sl3) (dV Z Z (fun zw hx=>ak ax Z aJ Z Z (At.whole (hx.heap (H25.box 1 Z)))) (dM Z Z Z (dM Z Z Z ?_)));have sc4:=cW (H26.seen 1 Z);obtain ⟨sf4,so4,ss4⟩:=ew (H26.seen 1 Z) (a) (uu.length) _ (by omega) (by omega) (by omega) (Nat.le_refl _);have H27:=H26.look1 1 Z so4 ss4;have sl4:=eD (xs:=uu) (l:=a) (h:=uu.length) (by omega);refine dV Z Z (fun zw hx=>mJ aO aJ Z Z (a) (by omega) (by omega) sl4) (dF Z ?_ ?_)
      ·refine d_S (fun hs12=>?_) (by simp);refine jA (α:=RecV) Z (wn Z) Z aO aG H27 (fun _ h e=>h.trans e.no) (fun b8 w21 e10 g8 H28=>dF Z ?_ ?_)
       ·refine d_S (fun hs13=>?_) (by simp);refine cv Z (wn Z) Z aO aG Z Z Z H28 2 Z (H28.seen 2 Z) (by (try simp only [List.length_append,List.length_nil,List.length_cons]); unfold maxLen; omega) (by (try simp only [List.length_append,List.length_nil,List.length_cons]); omega) (fun b hb=>by simp only [List.mem_singleton] at hb; rw [hb]; exact Nat.le_trans hs12.size g8) (fun v11 w22 fp10 sb10 H29=>?_)
        try dsimp only[lNA,lCA,lSZ,lSS] at H29
        refine dx Z (wn Z) Z aO aG Z Z Z Z H29 (fun _ h e=>h.trans e.no) (fun b9 w23 e11 g9 H30=>d_S (fun hs14=>?_) (by simp));refine ff Z (wn Z) Z aO aG Z Z Z H30 2 3 Z Z (dA (v:=(vs.getD k default)) (by assumption)) (by (try simp only [List.length_append,List.length_nil,List.length_cons]); unfold maxLen; omega) (by (try simp only [List.length_append,List.length_nil,List.length_cons]); omega) (fun b hb=>(sb10 b hb).elim (((fun b hb=>by simp only [List.mem_singleton] at hb; rw [hb]; exact Nat.le_trans hs12.size g8):∀ b∈_,_≤b) b) (fun h=>Nat.le_trans hs13.size h)) (fun v12 w24 fp11 sb11 H31=>?_)
        try dsimp only[lNA,lCA,lSZ,lSS] at H31
        refine d_S (fun hs15=>?_) (by simp);refine cv Z (wn Z) Z aO aG Z Z Z H31 2 Z (H31.seen 3 Z) (by (try simp only [List.length_append,List.length_nil,List.length_cons]); unfold maxLen; omega) (by (try simp only [List.length_append,List.length_nil,List.length_cons]); omega) (fun b hb=>(sb11 b hb).elim (((fun b hb=>(sb10 b hb).elim (((fun b hb=>by simp only [List.mem_singleton] at hb; rw [hb]; exact Nat.le_trans hs12.size g8):∀ b∈_,_≤b) b) (fun h=>Nat.le_trans hs13.size h)):∀ b∈_,_≤b) b) (fun h=>Nat.le_trans hs14.size h)) (fun v13 w25 fp12 sb12 H32=>?_)
        try dsimp only[lNA,lCA,lSZ,lSS] at H32
        refine aR Z (wn Z) Z Z (bk Z) (aS (an (sM Z Z (sV Z (aA Z Z iO) (sA Z Z (aa ?_))))));have hny:fC xs k=true:=gU (by omega) (by rw [← hel]; omega) (by rw [← hel]; first | omega | simp_all) (by rw [← hel]; first | omega | simp_all);exact ⟨((k+1,_),_,_),⟨Z,Z,Z,Z,trivial⟩,⟨(H32.ftake 1).sub (.cons _ (.cons _ (.cons_cons _ (.cons _ List.Sublist.slnil)))),by (try dsimp only); omega,((hRv.sub cC).snoc (hR.inAt (k:=k) (by omega))).app (hRv.sub cC),by (try dsimp only); rw [gX hny,← hel,ev Z (by omega)]; exact jh hM2 (by omega) (.inl (by omega)) (fun i h1 h2=>by rw [← bY Z (by omega)]; exact hB i h1 (by omega))⟩,by dsimp only; omega⟩
       ·refine dx Z (wn Z) Z aO aG Z Z Z Z H28 (fun _ h e=>h.trans e.no) (fun b10 w26 e12 g10 H33=>d_S (fun hs16=>?_) (by simp));refine cv Z (wn Z) Z aO aG Z Z Z H33 2 Z (H33.seen 2 Z) (by (try simp only [List.length_append,List.length_nil,List.length_cons]); unfold maxLen; omega) (by (try simp only [List.length_append,List.length_nil,List.length_cons]); omega) (fun b hb=>by simp only [List.mem_singleton] at hb; rw [hb]; exact Nat.le_trans hs12.size g8) (fun v14 w27 fp13 sb13 H34=>?_)
        try dsimp only[lNA,lCA,lSZ,lSS] at H34
        refine d_S (fun hs17=>?_) (by simp);refine ff Z (wn Z) Z aO aG Z Z Z H34 2 3 Z Z (dA (v:=(vs.getD k default)) (by assumption)) (by (try simp only [List.length_append,List.length_nil,List.length_cons]); unfold maxLen; omega) (by (try simp only [List.length_append,List.length_nil,List.length_cons]); omega) (fun b hb=>(sb13 b hb).elim (((fun b hb=>by simp only [List.mem_singleton] at hb; rw [hb]; exact Nat.le_trans hs12.size g8):∀ b∈_,_≤b) b) (fun h=>Nat.le_trans hs16.size h)) (fun v15 w28 fp14 sb14 H35=>?_)
        try dsimp only[lNA,lCA,lSZ,lSS] at H35
        refine d_S (fun hs18=>?_) (by simp);refine cv Z (wn Z) Z aO aG Z Z Z H35 2 Z (H35.seen 3 Z) (by (try simp only [List.length_append,List.length_nil,List.length_cons]); unfold maxLen; omega) (by (try simp only [List.length_append,List.length_nil,List.length_cons]); omega) (fun b hb=>(sb14 b hb).elim (((fun b hb=>(sb13 b hb).elim (((fun b hb=>by simp only [List.mem_singleton] at hb; rw [hb]; exact Nat.le_trans hs12.size g8):∀ b∈_,_≤b) b) (fun h=>Nat.le_trans hs16.size h)):∀ b∈_,_≤b) b) (fun h=>Nat.le_trans hs17.size h)) (fun v16 w29 fp15 sb15 H36=>?_)
        try dsimp only[lNA,lCA,lSZ,lSS] at H36
        refine aR Z (wn Z) Z Z (bk Z) (aS (an (sM Z Z (sV Z (aA Z Z iO) (sA Z Z (aa ?_))))));have hny:fC xs k=true:=gU (by omega) (by rw [← hel]; omega) (by rw [← hel]; first | omega | simp_all) (by rw [← hel]; first | omega | simp_all);exact ⟨((k+1,_),_,_),⟨Z,Z,Z,Z,trivial⟩,⟨(H36.ftake 1).sub (.cons _ (.cons _ (.cons_cons _ (.cons _ List.Sublist.slnil)))),by (try dsimp only); omega,((hRv.sub cC).snoc (hR.inAt (k:=k) (by omega))).app (hRv.sub cC),by (try dsimp only); rw [gX hny,← hel,ev Z (by omega)]; exact jh hM2 (by omega) (.inl (by omega)) (fun i h1 h2=>by rw [← bY Z (by omega)]; exact hB i h1 (by omega))⟩,by dsimp only; omega⟩
      ·refine dx Z (wn Z) Z aO aG Z Z Z Z H27 (fun _ h e=>h.trans e.no) (fun b11 w30 e13 g11 H37=>d_S (fun hs19=>?_) (by simp));refine jA (α:=RecV) Z (wn Z) Z aO aG H37 (fun _ h e=>h.trans e.no) (fun b12 w31 e14 g12 H38=>d_S (fun hs20=>?_) (by simp));refine cv Z (wn Z) Z aO aG Z Z Z H38 3 Z (H38.seen 2 Z) (by (try simp only [List.length_append,List.length_nil,List.length_cons]); unfold maxLen; omega) (by (try simp only [List.length_append,List.length_nil,List.length_cons]); omega) (fun b hb=>by simp only [List.mem_singleton] at hb; rw [hb]; exact Nat.le_trans hs19.size g12) (fun v17 w32 fp16 sb16 H39=>?_)
       try dsimp only[lNA,lCA,lSZ,lSS] at H39
       refine d_S (fun hs21=>?_) (by simp);refine ff Z (wn Z) Z aO aG Z Z Z H39 3 2 Z Z (dA (v:=(vs.getD k default)) (by assumption)) (by (try simp only [List.length_append,List.length_nil,List.length_cons]); unfold maxLen; omega) (by (try simp only [List.length_append,List.length_nil,List.length_cons]); omega) (fun b hb=>(sb16 b hb).elim (((fun b hb=>by simp only [List.mem_singleton] at hb; rw [hb]; exact Nat.le_trans hs19.size g12):∀ b∈_,_≤b) b) (fun h=>Nat.le_trans hs20.size h)) (fun v18 w33 fp17 sb17 H40=>?_)
       try dsimp only[lNA,lCA,lSZ,lSS] at H40
       refine d_S (fun hs22=>?_) (by simp);refine cv Z (wn Z) Z aO aG Z Z Z H40 3 Z (H40.seen 3 Z) (by (try simp only [List.length_append,List.length_nil,List.length_cons]); unfold maxLen; omega) (by (try simp only [List.length_append,List.length_nil,List.length_cons]); omega) (fun b hb=>(sb17 b hb).elim (((fun b hb=>(sb16 b hb).elim (((fun b hb=>by simp only [List.mem_singleton] at hb; rw [hb]; exact Nat.le_trans hs19.size g12):∀ b∈_,_≤b) b) (fun h=>Nat.le_trans hs20.size h)):∀ b∈_,_≤b) b) (fun h=>Nat.le_trans hs21.size h)) (fun v19 w34 fp18 sb18 H41=>?_)
       try dsimp only[lNA,lCA,lSZ,lSS] at H41
       refine aR Z (wn Z) Z Z (bk Z) (aS (an (sM Z Z (sV Z (aA Z Z iO) (sA Z Z (aa ?_))))));have hny:fC xs k=true:=gU (by omega) (by rw [← hel]; omega) (by rw [← hel]; first | omega | simp_all) (by rw [← hel]; first | omega | simp_all);exact ⟨((k+1,_),_,_),⟨Z,Z,Z,Z,trivial⟩,⟨(H41.ftake 1).sub (.cons _ (.cons _ (.cons _ (.cons_cons _ List.Sublist.slnil)))),by (try dsimp only); omega,((hRv.sub cC).snoc (hR.inAt (k:=k) (by omega))).app (hRv.sub cC),by (try dsimp only); rw [gX hny,← hel,ev Z (by omega)]; exact jh hM2 (by omega) (.inl (by omega)) (fun i h1 h2=>by rw [← bY Z (by omega)]; exact hB i h1 (by omega))⟩,by dsimp only; omega⟩
 ·refine aQ (ab (sR 2 Z (rN hQ results93 Z ?_)));obtain rfl:k=xs.length:=by omega
  exact ⟨H2.ext,uu,H2.out 0 Z,hRv.to H2.ext,hM2⟩
end Go.Wk
namespace Go.Wk
open Go.Proofs Rp Go.Proofs.Tryz
set_option maxRecDepth 10000
theorem oU {w:World}{z:Wld}{zb rC6 rC7 rC8:Nat}{fp rF6 rF7 rF8:List Nat}{r:Rec}{rA6 rA7 rA8:Option Addr}(o:OwnW w zb 34 z fp) (nd:fp.Nodup) (rK:r.Ok) (rO6:own false w [.slice rA6 r.Rows.length rC6] r.Rows rF6) (rD6:∀ b∈rF6,b ∉ fp) (rO7:own false w [.slice rA7 r.Data.length rC7] r.Data rF7) (rD7:∀ b∈rF7,b ∉ fp) (rO8:own false w [.slice rA8 r.Delta.length rC8] r.Delta rF8) (rD8:∀ b∈rF8,b ∉ fp) (hT:z.Tapes.length=2) (hb:ca r≤1048576) (hw:z.Writes≤1500000000):Ret Tryz.prog 144 #[.pointer (some ⟨zb,0,none⟩),r.val rA6 rC6 rA7 rC7 rA8 rC8] w fun v w'=>(v = .int .i64 (sx z r)∧MutW w w' fp zb 34 (oJ z r)):=by
 cases hf:dq z
 ·rw [(jk hf).1,(jk hf).2]; exact ld o nd rK rO6 rD6 rO7 rD7 rO8 rD8 hf hT hb hw
 ·rw [(gV hf).1,(gV hf).2]; exact jY o nd rK rO6 rD6 rO7 rD7 rO8 rD8 hf hT hb hw
theorem lw {w:World}{x:Wld}{xA9 xA10 xA11:Option Addr}{xC9 xC10 xC11:Nat}{c:Int}(xK:x.Ok) (xS9:Sees w [.slice xA9 x.Groups.length xC9] x.Groups) (xS10:Sees w [.slice xA10 x.On.length xC10] x.On) (xS11:Sees w [.slice xA11 x.Tapes.length xC11] x.Tapes) (hc:c≠0∧c≠9):Ret Tryz.prog 61 #[x.val xA9 xC9 xA10 xC10 xA11 xC11,.int .i64 c] w fun v w'=>Ext No w w'∧(v=(⟨c,noWld⟩:WldResult).val none 0 none 0 none 0):=by
 have xK2:=xK;unfold Wld.Ok Shape.Ok at xK2
 try unfold I64ok at xK2
 try unfold maxLen at xK2
 have xL9:=sL xS9;obtain ⟨xF9,xO9⟩:=xS9;have xL10:=sL xS10;obtain ⟨xF10,xO10⟩:=xS10;have xL11:=sL xS11;obtain ⟨xF11,xO11⟩:=xS11;refine aH (vs:=[x.val xA9 xC9 xA10 xC10 xA11 xC11,.int .i64 c]) func61 Z ntmps61 Z (fun Q hQ hN=>?_);have H0:=Sep.start (w:=w) (F:=[seen false [.slice xA9 x.Groups.length xC9] x.Groups xF9,seen false [.slice xA10 x.On.length xC10] x.On xF10,seen false [.slice xA11 x.Tapes.length xC11] x.Tapes xF11]) (ae xO9 (ae xO10 (ae xO11 (by simp))));refine ab (ba (wn Z) Z Z H0 (fun b1 w1 e1 g1 H1=>bI (wn Z) Z zeroValue36 H1 (fun b2 w2 e2 g2 H2=>aa (ac (ab (sR 3 Z (cK (t:=7) Z (fun hg1=>?_) (fun hg1=>?_))))))))
 ·try simp only [decide_eq_true_eq,decide_eq_false_iff_not] at hg1
  refine am (wg Z Z Z) Z Z (aM Z) (am (wg Z Z Z) Z Z (bp Z Z) (sV Z (aI Z Z) (aa (au Z (fun c1=>?_) (fun c1=>?_)))))
  ·refine ab (sM Z Z (sV Z (b0 dX Z Z) (bc (wn Z) dD Z Z Z Z H2 1 Z Z (fun w3 e3 H3=>?_))));dsimp only[lNA,lCA,lSZ,lSS,aN] at H3;refine aa (bM (hQ _ _ (dp results61 Z (aL fi Z dD Z (At.whole (H3.box 1 Z))) ?_)));exact ⟨H3.ext,Z⟩
  ·exfalso; simp_all
 ·exfalso; simp_all
theorem qD {w:World}{x:Wld}{xA9 xA10 xA11:Option Addr}{xC9 xC10 xC11:Nat}{c:Int}(xK:x.Ok) (xS9:Sees w [.slice xA9 x.Groups.length xC9] x.Groups) (xS10:Sees w [.slice xA10 x.On.length xC10] x.On) (xS11:Sees w [.slice xA11 x.Tapes.length xC11] x.Tapes) (hc:c=0∨c=9):Ret Tryz.prog 61 #[x.val xA9 xC9 xA10 xC10 xA11 xC11,.int .i64 c] w fun v w'=>Ext No w w'∧(v=(⟨c,x⟩:WldResult).val xA9 xC9 xA10 xC10 xA11 xC11):=by
 have xK2:=xK;unfold Wld.Ok Shape.Ok at xK2
 try unfold I64ok at xK2
 try unfold maxLen at xK2
 have xL9:=sL xS9;obtain ⟨xF9,xO9⟩:=xS9;have xL10:=sL xS10;obtain ⟨xF10,xO10⟩:=xS10;have xL11:=sL xS11;obtain ⟨xF11,xO11⟩:=xS11;refine aH (vs:=[x.val xA9 xC9 xA10 xC10 xA11 xC11,.int .i64 c]) func61 Z ntmps61 Z (fun Q hQ hN=>?_);have H0:=Sep.start (w:=w) (F:=[seen false [.slice xA9 x.Groups.length xC9] x.Groups xF9,seen false [.slice xA10 x.On.length xC10] x.On xF10,seen false [.slice xA11 x.Tapes.length xC11] x.Tapes xF11]) (ae xO9 (ae xO10 (ae xO11 (by simp))));refine ab (ba (wn Z) Z Z H0 (fun b1 w1 e1 g1 H1=>bI (wn Z) Z zeroValue36 H1 (fun b2 w2 e2 g2 H2=>aa (ac (ab (sR 3 Z (cK (t:=7) Z (fun hg1=>?_) (fun hg1=>?_))))))))
 ·try simp only [decide_eq_true_eq,decide_eq_false_iff_not] at hg1
  refine am (wg Z Z Z) Z Z (aM Z) (am (wg Z Z Z) Z Z (bp Z Z) (sV Z (aI Z Z) (aa (au Z (fun c1=>?_) (fun c1=>?_)))))
  ·exfalso; simp_all
  ·refine aj (ab (sM Z Z (sV Z (ak aU Z cP Z Z (At.whole (H2.box 0 Z))) (sV Z (b0 dX Z Z) (bc (wn Z) dD Z Z Z Z H2 1 Z Z (fun w3 e3 H3=>?_))))));dsimp only[lNA,lCA,lSZ,lSS,aN] at H3;refine aa (bM (hQ _ _ (dp results61 Z (aL fi Z dD Z (At.whole (H3.box 1 Z))) ?_)));exact ⟨H3.ext,Z⟩
 ·try simp only [decide_eq_true_eq,decide_eq_false_iff_not] at hg1
  refine sR 2 Z (sV Z (aP Z Z) (aa (iG Z (aj (ab (sM Z Z (sV Z (ak aU Z cP Z Z (At.whole (H2.box 0 Z))) (sV Z (b0 dX Z Z) (bc (wn Z) dD Z Z Z Z H2 1 Z Z (fun w4 e4 H4=>?_))))))))));dsimp only[lNA,lCA,lSZ,lSS,aN] at H4;refine aa (bM (hQ _ _ (dp results61 Z (aL fi Z dD Z (At.whole (H4.box 1 Z))) ?_)));exact ⟨H4.ext,Z⟩
end Go.Wk
namespace Go.Wk
open Go.Proofs Rp Go.Proofs.Tryz
set_option maxRecDepth 10000
theorem jc {w:World}{zb zC9 zC10 zC11:Nat}{z:Wld}{zA9 zA10 zA11:Option Addr}{zF9 zF10 zF11:List Nat}(zB:w.heap[zb]? = some (.cells [.int .i64 z.Shape.Groups,.int .i64 z.Shape.Column,.int .i64 z.Shape.Data,.int .i64 z.Shape.Spare,.int .i64 z.Shape.Rows,.int .i64 z.Shape.Cap,.int .i64 z.Shape.Batch,.int .i64 z.Shape.Queue,.int .i64 z.Shape.Stage,.slice zA9 z.Groups.length zC9,.slice zA10 z.On.length zC10,.slice zA11 z.Tapes.length zC11,.int .i64 z.Writes,.int .i64 z.Stop,.bool z.Down].toArray 34)) (zK:z.Ok) (zO9:own false w [.slice zA9 z.Groups.length zC9] z.Groups zF9) (zO10:own false w [.slice zA10 z.On.length zC10] z.On zF10) (zO11:own false w [.slice zA11 z.Tapes.length zC11] z.Tapes zF11) (hq:SeqOK z) (hT:z.Tapes.length=2) (hrl:∀ k,(z.Tapes.getD k default).Recs.length≤200000):Ret Tryz.prog 196 #[.pointer (some ⟨zb,0,none⟩)] w fun v w'=>Ext No w w'∧(v = .tuple #[.int .i64 (nsV z),.int .i64 (nsC z)]):=by
 have zK2:=zK;unfold Wld.Ok Shape.Ok at zK2
 try unfold I64ok at zK2
 try unfold maxLen at zK2
 have zL9:=oL zO9;have zL10:=oL zO10;have zL11:=oL zO11;have hqb:=se hq;refine aH (vs:=[.pointer (some ⟨zb,0,none⟩)]) func196 Z ntmps196 Z (fun Q hQ hN=>?_);have H0:=Sep.start (w:=w) (F:=[box zb (.cells [.int .i64 z.Shape.Groups,.int .i64 z.Shape.Column,.int .i64 z.Shape.Data,.int .i64 z.Shape.Spare,.int .i64 z.Shape.Rows,.int .i64 z.Shape.Cap,.int .i64 z.Shape.Batch,.int .i64 z.Shape.Queue,.int .i64 z.Shape.Stage,.slice zA9 z.Groups.length zC9,.slice zA10 z.On.length zC10,.slice zA11 z.Tapes.length zC11,.int .i64 z.Writes,.int .i64 z.Stop,.bool z.Down].toArray 34),seen false [.slice zA9 z.Groups.length zC9] z.Groups zF9,seen false [.slice zA10 z.On.length zC10] z.On zF10,seen false [.slice zA11 z.Tapes.length zC11] z.Tapes zF11]) (ae (by exact zB) (ae zO9 (ae zO10 (ae zO11 (by simp)))));refine ab (sR 2 Z (aa (ab (sM Z Z (sC func173 qx Z (fB (H0.fbox 0 Z) (by assumption) (aX (H0.seen 1 Z)) (aX (H0.seen 2 Z)) (aX (H0.seen 3 Z)) (by first | assumption | omega) (by first | assumption | omega)) (fun v1 w1 r1=>?_))))));obtain ⟨e1,vs1,r1,hR1,hM1⟩:=r1;obtain ⟨fp1,H1⟩:=H0.res e1 r1;obtain ⟨sa1,sk1,sq1⟩:=az (H1.mine 0 Z);cases sq1;have hl1:vs1.length=(dI z).length:=by rw [← hM1,List.length_map]
 have hb1:=jP (z:=z) (by first | assumption | omega) (by assumption);have hRw1:RdV w zF11 vs1:=hR1.back H1.ext (Rp.lt zO11);refine sR 2 Z (aa (ac (ab (sM Z Z (sV Z (aB aO Z) (sV Z (cV Z Z) (aa (au Z (fun c1=>?_) (fun c1=>?_)))))))))
 ·have hnx:=Bi hM1 (by omega);obtain ⟨eb1,eo1,ee1,ec1,eK1⟩:=H1.viewAt 0 Z (vs1.length-1) (by omega);refine an (sR 2 Z (sV Z (aB aO Z) (sV Z (bu Z Z iO) (sV Z (ay aO aJ Z Z ee1 (vs1.length-1) (by omega) (by omega)) (sF ax Z ts2 (sV Z (ah tu2 Z Z (be ec1 1 Z)) (sV Z (aA Z Z iO) (sA Z Z (aa (ac (ab (sR 2 Z (aa (au Z (fun c2=>?_) (fun c2=>?_)))))))))))))))
  ·refine ab (sR 2 Z (aa (bM (hQ _ _ (vZ results196 Z Z ?_)))));exact ⟨H1.ext,by rw [nsV,nsC,if_pos (by omega),if_pos (by omega)]⟩
  ·refine aj (ab (sR 3 Z (aa (bM (hQ _ _ (vZ results196 Z Z ?_))))));have hnm:¬ 1000000000<nxQ z:=by omega
   exact ⟨H1.ext,by rw [nsV,nsC,if_neg hnm,if_neg hnm,hnx]⟩
 ·refine aj (ac (ab (sR 2 Z (aa (au Z (fun c3=>?_) (fun c3=>?_))))))
  ·refine ab (sR 2 Z (aa (bM (hQ _ _ (vZ results196 Z Z ?_)))));have hnx:=tA hM1 (by omega);exact ⟨H1.ext,by rw [nsV,nsC,if_pos (by omega),if_pos (by omega)]⟩
  ·refine aj (ab (sR 3 Z (aa (bM (hQ _ _ (vZ results196 Z Z ?_))))));have hnx:=tA hM1 (by omega);have hnm:¬ 1000000000<nxQ z:=by omega
   exact ⟨H1.ext,by rw [nsV,nsC,if_neg hnm,if_neg hnm,hnx]⟩
theorem pI {w:World}{vs:List RecV}{A:Option Addr}{n C:Nat}(vS:Sees w [.slice A n C] vs) (hb:vs.length≤1000000):Ret Tryz.prog 195 #[.slice A n C] w fun v w'=>Ext No w w'∧(v = .int .i64 (qg (vs.map RecV.r))):=by
 obtain ⟨f0,vO⟩:=vS;obtain rfl:=dH vO;have vL:=oL vO;refine aH (vs:=[.slice A vs.length C]) func195 Z ntmps195 Z (fun Q hQ hN=>?_);have H0:=Sep.start (w:=w) (F:=[seen false [.slice A vs.length C] vs f0]) (ae vO (by simp));refine ab (sA Z Z (aa (ac (ab (sM Z Z (sV Z (aB aO Z) (sV Z (bX Z Z) (aa (au Z (fun c1=>?_) (fun c1=>?_))))))))))
 ·refine ab (rA hQ results195 Z ?_);exact ⟨H0.ext,congrArg (Value.int .i64) (ru (by omega)).symm⟩
 ·refine aj (ac ?_);obtain ⟨eb1,eo1,ee1,ec1,eK1⟩:=H0.viewSeen 0 Z (vs.length-1) (by omega);refine an (sR 2 Z (sV Z (aB aO Z) (sV Z (bu Z Z iO) (sV Z (ay aO aJ Z Z ee1 (vs.length-1) (by omega) (by omega)) (sF ax Z ts2 (sV Z (ah tu2 Z Z (be ec1 1 Z)) (rA hQ results195 Z ?_)))))));exact ⟨H0.ext,congrArg (Value.int .i64) (wz).symm⟩
theorem ja {w:World}{z:Wld}{zb rC6 rC7 rC8:Nat}{fp rF6 rF7 rF8:List Nat}{r:Rec}{rA6 rA7 rA8:Option Addr}(o:OwnW w zb 34 z fp) (nd:fp.Nodup) (rK:r.Ok) (rO6:own false w [.slice rA6 r.Rows.length rC6] r.Rows rF6) (rD6:∀ b∈rF6,b ∉ fp) (rO7:own false w [.slice rA7 r.Data.length rC7] r.Data rF7) (rD7:∀ b∈rF7,b ∉ fp) (rO8:own false w [.slice rA8 r.Delta.length rC8] r.Delta rF8) (rD8:∀ b∈rF8,b ∉ fp) (hq:SeqOK z) (hT:z.Tapes.length=2) (hrl:∀ k,(z.Tapes.getD k default).Recs.length≤200000) (hw:z.Writes≤1500000000) (hb:ca r≤1048576):Ret Tryz.prog 179 #[.pointer (some ⟨zb,0,none⟩),r.val rA6 rC6 rA7 rC7 rA8 rC8] w fun v w'=>(v = .int .i64 (nxC z r)∧MutW w w' fp zb 34 ((nxZ z r))):=by
 have rK2:=rK;unfold Rec.Ok at rK2
 try unfold I64ok at rK2
 try unfold maxLen at rK2
 have rN2:r.Name.size≤maxLen:=by unfold maxLen; omega
 have rL6:=oL rO6;have rL7:=oL rO7;have rL8:=oL rO8;refine aH (vs:=[.pointer (some ⟨zb,0,none⟩),r.val rA6 rC6 rA7 rC7 rA8 rC8]) func179 Z ntmps179 Z (fun Q hQ hN=>?_);have H0:=(((Sep.beginW o nd).seeF (rO6) rD6).seeF (rO7) rD7).seeF (rO8) rD8
 try dsimp only[lNA,lCA,lSZ,lSS] at H0
 refine ab (ba (wn Z) Z Z H0 (fun b1 w1 e1 g1 H1=>sA Z Z (aa (ac ?_))));obtain ⟨wA1,wC1,wA2,wC2,wA3,wC3,wf1,wf2,wf3,wok1,H2⟩:=H1.openW 0 Z
 try dsimp only[lNA,lCA,lSZ,lSS] at H2
 have wok1U:=wok1;unfold Wld.Ok Shape.Ok I64ok at wok1U;have wL1:=oL (H2.mine 3 Z);have wL2:=oL (H2.mine 4 Z);have wL3:=oL (H2.mine 5 Z);refine an (sM Z Z (sE func196 uP Z (jc (H2.box 0 Z) (by assumption) (aX (H2.mine 3 Z)) (aX (H2.mine 4 Z)) (aX (H2.mine 5 Z)) (by first | assumption | omega) (by first | assumption | omega) (by first | assumption | omega)) H2 (fun w2 e2 H3=>sR 5 Z (aa (ac (ab (sR 2 Z (aa (au Z (fun c1=>?_) (fun c1=>?_))))))))))
 ·refine ab (sR 2 Z (rN hQ results179 Z ?_));obtain ⟨fp1,H4⟩:=H3.closeW 0 3 4 5 z Z Z Z Z Z Z Z Z Z Z wok1
  try dsimp only[lNA,lCA,lSZ,lSS] at H4
  have hmany:1000000000<nxQ z:=by
   by_cases q:1000000000<nxQ z
   ·exact q
   ·exfalso; rw [nsC,if_neg q] at c1; exact c1 rfl
  have hz:=H4.doneW;rw [(kP (r:=r) hmany).1,(kP (r:=r) hmany).2];exact ⟨by rw [nsC,if_pos hmany]; rfl,hz⟩
 ·refine aj (ac ?_)
  skip
  refine an (sM Z Z (sF ax Z ts2 (bA (wn Z) ts2 Z Z Z H3 1 Z Z (fun w3 e3 H5=>?_))));dsimp only[lNA,lCA,lSZ,lSS,aN] at H5;refine aa (ac ?_);have hgo:¬ 1000000000<nxQ z:=by intro q; rw [nsC,if_pos q] at c1; exact absurd (by decide) c1
  have hnsv:nsV z=nxQ z:=if_neg hgo;have hqb:=se hq;have hxk:(nS r (nsV z)).Ok:=wt rK (by unfold I64ok; omega);refine an (sM Z Z (sV Z (ak ax Z aJ Z Z (At.whole (H5.box 1 Z))) ?_));obtain ⟨fp2,H6⟩:=H5.closeW 0 3 4 5 z Z Z Z Z Z Z Z Z Z Z wok1
  try dsimp only[lNA,lCA,lSZ,lSS] at H6
  refine sC func144 u2 Z (oU (H6.wldAt 0 Z) (H6.nodup1 (i:=0) Z) (by assumption) (aX (H6.seen 0 Z)) (fun b hb=>H6.off 0 Z 0 Z hb) (aX (H6.seen 1 Z)) (fun b hb=>H6.off 1 Z 0 Z hb) (aX (H6.seen 2 Z)) (fun b hb=>H6.off 2 Z 0 Z hb) (by first | assumption | omega) (by first | assumption | omega) (by first | assumption | omega) (r:=(nS r (nsV z)))) (fun v2 w4 r2=>?_);obtain ⟨rfl,mm1⟩:=r2;obtain ⟨fp3,H7⟩:=H6.mutW 0 Z mm1
  try dsimp only[lNA,lCA,lSZ,lSS] at H7
  refine rA hQ results179 Z ?_;have hz:=H7.doneW;rw [hnsv] at hz;rw [(lx (r:=r) hgo).1,(lx (r:=r) hgo).2];exact ⟨by rw [hnsv],hz⟩
theorem nv {w:World}{z:Wld}{zb rC6 rC7 rC8:Nat}{fp rF6 rF7 rF8:List Nat}{r:Rec}{rA6 rA7 rA8:Option Addr}(o:OwnW w zb 34 z fp) (nd:fp.Nodup) (rK:r.Ok) (rO6:own false w [.slice rA6 r.Rows.length rC6] r.Rows rF6) (rD6:∀ b∈rF6,b ∉ fp) (rO7:own false w [.slice rA7 r.Data.length rC7] r.Data rF7) (rD7:∀ b∈rF7,b ∉ fp) (rO8:own false w [.slice rA8 r.Delta.length rC8] r.Delta rF8) (rD8:∀ b∈rF8,b ∉ fp) (hd:z.Down=false) (hrr:(z.Tapes.getD 0 default).Recs.length≤1000∧(z.Tapes.getD 1 default).Recs.length≤1000) (hq:SeqOK z) (hT:z.Tapes.length=2) (hrl:∀ k,(z.Tapes.getD k default).Recs.length≤200000) (hw:z.Writes≤1500000000) (hb:ca r≤1048576):Ret Tryz.prog 177 #[.pointer (some ⟨zb,0,none⟩),r.val rA6 rC6 rA7 rC7 rA8 rC8] w fun v w'=>(v = .int .i64 (nxC z r)∧MutW w w' fp zb 34 ((nxZ z r))):=by
 have rK2:=rK;unfold Rec.Ok at rK2
 try unfold I64ok at rK2
 try unfold maxLen at rK2
 have rN2:r.Name.size≤maxLen:=by unfold maxLen; omega
 have rL6:=oL rO6;have rL7:=oL rO7;have rL8:=oL rO8;have hqb0:=se hq;have hqe0:nxQ z=qg (dI z)+1:=Z;refine aH (vs:=[.pointer (some ⟨zb,0,none⟩),r.val rA6 rC6 rA7 rC7 rA8 rC8]) func177 Z ntmps177 Z (fun Q hQ hN=>?_);have H0:=(((Sep.beginW o nd).seeF (rO6) rD6).seeF (rO7) rD7).seeF (rO8) rD8
 try dsimp only[lNA,lCA,lSZ,lSS] at H0
 refine ab (ba (wn Z) Z Z H0 (fun b1 w1 e1 g1 H1=>sA Z Z (aa (ac ?_))));obtain ⟨wA1,wC1,wA2,wC2,wA3,wC3,wf1,wf2,wf3,wok1,H2⟩:=H1.openW 0 Z
 try dsimp only[lNA,lCA,lSZ,lSS] at H2
 have wok1U:=wok1;unfold Wld.Ok Shape.Ok I64ok at wok1U;have wL1:=oL (H2.mine 3 Z);have wL2:=oL (H2.mine 4 Z);have wL3:=oL (H2.mine 5 Z);refine an (sM Z Z (sC func83 qX Z (gJ (H2.box 0 Z) (by assumption) (aX (H2.mine 3 Z)) (aX (H2.mine 4 Z)) (aX (H2.mine 5 Z)) (by first | assumption | omega) (by first | assumption | omega)) (fun v1 w2 r1=>?_)));obtain ⟨e2,vs1,r1,hR1,hM1⟩:=r1;obtain ⟨fp1,H3⟩:=H2.res e2 r1;obtain ⟨sa1,sk1,sq1⟩:=az (H3.mine 6 Z);cases sq1;have hl1:vs1.length=(dI z).length:=by rw [← hM1,List.length_map]
 have hb1:=jP (z:=z) (by first | assumption | omega) (by assumption);have lt:=pI (vs:=vs1) ⟨_,aX (H3.mine 6 Z)⟩ (by omega);rw [hM1] at lt;refine sE func195 uR Z lt H3 (fun w3 e3 H4=>sV Z (aA Z Z iO) (sF ax Z ts2 (bA (wn Z) ts2 Z Z Z H4 1 Z Z (fun w4 e4 H5=>?_))));dsimp only[lNA,lCA,lSZ,lSS,aN] at H5;refine aa (ac (ab (sF ax Z ts2 (sLd tu2 (H5.box 1 Z) Z (sR 2 Z (cK (t:=13) Z (fun hg1=>?_) (fun hg1=>?_)))))))
 ·try simp only [decide_eq_true_eq,decide_eq_false_iff_not] at hg1
  refine sR 2 Z (sV Z (aI Z Z) (aa (cR Z (ab (rA hQ results177 Z ?_)))));obtain ⟨fp2,H6⟩:=H5.closeW 0 3 4 5 z Z Z Z Z Z Z Z Z Z Z wok1
  try dsimp only[lNA,lCA,lSZ,lSS] at H6
  have hz:=H6.doneW
  by_cases hm:1000000000<nxQ z
  ·rw [(kP (r:=r) hm).1,(kP (r:=r) hm).2]; exact ⟨rfl,hz⟩
  ·have hf:dq z=true:=by rw [← pR]; first | assumption | (exfalso; apply hm; show 1000000000<qg (dI z)+1; omega)
   rw [(lx (r:=r) hm).1,(lx (r:=r) hm).2,(gV hf).1,(gV hf).2]; exact ⟨rfl,hz⟩
 ·try simp only [decide_eq_true_eq,decide_eq_false_iff_not] at hg1
  refine am (wg Z Z Z) Z Z (aM Z) (dG (wg Z Z Z) Z Z (aW func134 Z wc Z) (nR (H5.box 0 Z) (by assumption) (H5.msees 3 Z) (H5.msees 4 Z) (H5.msees 5 Z) (by first | assumption | omega) (by first | assumption | omega) (by first | assumption | omega)) (fun v3 w5 r3=>?_));obtain ⟨e5,rfl⟩:=r3;have H7:=H5.to e5;refine sV Z (aP Z Z) (aa (bL Z (fun c1=>?_) (fun c1=>?_)))
  ·refine ab (rA hQ results177 Z ?_);obtain ⟨fp3,H8⟩:=H7.closeW 0 3 4 5 z Z Z Z Z Z Z Z Z Z Z wok1
   try dsimp only[lNA,lCA,lSZ,lSS] at H8
   have hz:=H8.doneW
   by_cases hm:1000000000<nxQ z
   ·rw [(kP (r:=r) hm).1,(kP (r:=r) hm).2]; exact ⟨rfl,hz⟩
   ·have hf:dq z=true:=by rw [← pR]; first | assumption | (exfalso; apply hm; show 1000000000<qg (dI z)+1; omega)
    rw [(lx (r:=r) hm).1,(lx (r:=r) hm).2,(gV hf).1,(gV hf).2]; exact ⟨rfl,hz⟩
  ·refine aj (ac (ac ?_));have hm:¬ 1000000000<nxQ z:=by show ¬ 1000000000<qg (dI z)+1; omega
   have hqb:=se hq;have hqe:qg (dI z)+1=nxQ z:=Z;have hf:dq z=false:=by rw [← pR]; simpa using c1
   have hxk:(nS r (nxQ z)).Ok:=wt rK (by unfold I64ok; omega);refine an (sM Z Z (sV Z (ak ax Z aJ Z Z (At.whole (H7.box 1 Z))) ?_));obtain ⟨fp4,H9⟩:=H7.closeW 0 3 4 5 z Z Z Z Z Z Z Z Z Z Z wok1
   try dsimp only[lNA,lCA,lSZ,lSS] at H9
   refine sC func135 wa Z (oG (H9.wldAt 0 Z) (H9.nodup1 (i:=0) Z) (by assumption) (aX (H9.seen 0 Z)) (fun b hb=>H9.off 0 Z 0 Z hb) (aX (H9.seen 1 Z)) (fun b hb=>H9.off 1 Z 0 Z hb) (aX (H9.seen 2 Z)) (fun b hb=>H9.off 2 Z 0 Z hb) (by assumption) (by assumption) (by first | assumption | omega) (by first | assumption | omega) (by first | assumption | omega) (r:=(nS r (nxQ z)))) (fun v4 w6 r4=>?_);obtain ⟨rfl,mm1⟩:=r4;obtain ⟨fp5,H10⟩:=H9.mutW 0 Z mm1
   try dsimp only[lNA,lCA,lSZ,lSS] at H10
   refine sV Z (aZ Z) (aa (bL Z (fun c2=>?_) (fun c2=>?_)))
   ·refine ab (rA hQ results177 Z ?_);have hz:=H10.doneW;have hlo:ly z (nS r (nxQ z))=false:=by simpa using c2
    rw [(lx (r:=r) hm).1,(lx (r:=r) hm).2,(jk hf).1,(jk hf).2,hlo];exact ⟨Z,hz⟩
   ·refine aj (ab (rA hQ results177 Z ?_));have hz:=H10.doneW;have hlo:ly z (nS r (nxQ z))=true:=by simpa using c2
    rw [(lx (r:=r) hm).1,(lx (r:=r) hm).2,(jk hf).1,(jk hf).2,hlo];exact ⟨Z,hz⟩
end Go.Wk
namespace Go.Wk
open Go.Proofs Rp Go.Proofs.Tryz
set_option maxRecDepth 10000
theorem go {w:World}{z:Wld}{zA9 zA10 zA11:Option Addr}{zC9 zC10 zC11:Nat}{nm:ByteArray}(zK:z.Ok) (zS9:Sees w [.slice zA9 z.Groups.length zC9] z.Groups) (zS10:Sees w [.slice zA10 z.On.length zC10] z.On) (zS11:Sees w [.slice zA11 z.Tapes.length zC11] z.Tapes) (hnm:nm.size≤1048576):Ret Tryz.prog 97 #[z.val zA9 zC9 zA10 zC10 zA11 zC11,.string nm] w fun v w'=>Ext No w w'∧(v = .int .i64 (if upF z=0 then bg nm else upF z)):=by
 have zK2:=zK;unfold Wld.Ok Shape.Ok at zK2
 try unfold I64ok at zK2
 try unfold maxLen at zK2
 have zL9:=sL zS9;obtain ⟨zF9,zO9⟩:=zS9;have zL10:=sL zS10;obtain ⟨zF10,zO10⟩:=zS10;have zL11:=sL zS11;obtain ⟨zF11,zO11⟩:=zS11;have hnb:nm.size≤maxLen:=by unfold maxLen; omega
 refine aH (vs:=[z.val zA9 zC9 zA10 zC10 zA11 zC11,.string nm]) func97 Z ntmps97 Z (fun Q hQ hN=>?_);have H0:=Sep.start (w:=w) (F:=[seen false [.slice zA9 z.Groups.length zC9] z.Groups zF9,seen false [.slice zA10 z.On.length zC10] z.On zF10,seen false [.slice zA11 z.Tapes.length zC11] z.Tapes zF11]) (ae zO9 (ae zO10 (ae zO11 (by simp))));refine ab (ba (wn Z) Z Z H0 (fun b1 w1 e1 g1 H1=>sA Z Z (aa (ac (ab (sV Z (ak aU Z cP Z Z (At.whole (H1.box 0 Z))) (sE func66 xZ Z (ni (by assumption) (H1.sees 0 Z) (H1.sees 1 Z) (H1.sees 2 Z)) H1 (fun w2 e2 H2=>sA Z Z (aa (ab (sR 2 Z (aa (au Z (fun c1=>?_) (fun c1=>?_))))))))))))))
 ·refine ab (sR 2 Z (rN hQ results97 Z ?_));exact ⟨H2.ext,congrArg (Value.int .i64) (if_neg (by omega)).symm⟩
 ·refine aj (ac ?_);have hu:upF z=0:=by omega
  refine an (sM Z Z (sE func178 p5 Z (gK (by assumption)) H2 (fun w3 e3 H3=>rA hQ results97 Z ?_)));exact ⟨H3.ext,congrArg (Value.int .i64) (if_pos hu).symm⟩
end Go.Wk
namespace Go.Wk
open Rp (sz own)
theorem ms {b:ByteArray}(h:bg b=0):b.size≤8:=by
  unfold bg at h
  split at h
  · next e=>
    simp only [hX,Bool.and_eq_true,decide_eq_true_eq] at e
    omega
  · omega
section
variable {z:Wld}{k:Nat}{r:Rec}
theorem ny (hb:dj z≤1048576) (h:r∈liveL z):r.Data.length≤1048576:=by
  have h1:=Bh (yK h)
  have h2:r.Data.length≤ca r:=by unfold ca; omega
  omega
theorem pc (hb:dj z≤1048576) (hl:(liveL z).length≤600000) (hk:k≤(liveL z).length):0≤fq (liveL z) k∧fq (liveL z) k≤700000000000:=by
  obtain ⟨h1,h2⟩:=rm (rs:=liveL z) (B:=1048576) (fun r hr=>ny hb hr) hk
  refine ⟨h1,Int.le_trans h2 ?_⟩
  have h3:(k:Int)≤600000:=by omega
  have h4:(k:Int)*((1048576:Nat):Int)≤600000*((1048576:Nat):Int):=Int.mul_le_mul_of_nonneg_right h3 (by omega)
  omega
theorem oz {d:Int}(h:d=((liveL z).getD k default).Data.length):fq (liveL z) k+d=fq (liveL z) (k+1):=by rw [fq,h]
end
end Go.Wk
namespace Go.Wk
open Go.Proofs Rp Go.Proofs.Tryz
set_option maxRecDepth 10000
theorem iZ {w:World}{zb zC9 zC10 zC11:Nat}{z:Wld}{zA9 zA10 zA11:Option Addr}{zF9 zF10 zF11:List Nat}(zB:w.heap[zb]? = some (.cells [.int .i64 z.Shape.Groups,.int .i64 z.Shape.Column,.int .i64 z.Shape.Data,.int .i64 z.Shape.Spare,.int .i64 z.Shape.Rows,.int .i64 z.Shape.Cap,.int .i64 z.Shape.Batch,.int .i64 z.Shape.Queue,.int .i64 z.Shape.Stage,.slice zA9 z.Groups.length zC9,.slice zA10 z.On.length zC10,.slice zA11 z.Tapes.length zC11,.int .i64 z.Writes,.int .i64 z.Stop,.bool z.Down].toArray 34)) (zK:z.Ok) (zO9:own false w [.slice zA9 z.Groups.length zC9] z.Groups zF9) (zO10:own false w [.slice zA10 z.On.length zC10] z.On zF10) (zO11:own false w [.slice zA11 z.Tapes.length zC11] z.Tapes zF11) (hT:z.Tapes.length=2) (hrl:∀ k,(z.Tapes.getD k default).Recs.length≤200000) (hb:dj z≤1048576):Ret Tryz.prog 183 #[.pointer (some ⟨zb,0,none⟩)] w fun v w'=>Ext No w w'∧(v = .int .i64 (ou z)):=by
 have zK2:=zK;unfold Wld.Ok Shape.Ok at zK2
 try unfold I64ok at zK2
 try unfold maxLen at zK2
 have zL9:=oL zO9;have zL10:=oL zO10;have zL11:=oL zO11;have hll:=nr (z:=z);have hcb:=jP (z:=z) hT hrl;refine aH (vs:=[.pointer (some ⟨zb,0,none⟩)]) func183 Z ntmps183 Z (fun Q hQ hN=>?_);have H0:=Sep.start (w:=w) (F:=[box zb (.cells [.int .i64 z.Shape.Groups,.int .i64 z.Shape.Column,.int .i64 z.Shape.Data,.int .i64 z.Shape.Spare,.int .i64 z.Shape.Rows,.int .i64 z.Shape.Cap,.int .i64 z.Shape.Batch,.int .i64 z.Shape.Queue,.int .i64 z.Shape.Stage,.slice zA9 z.Groups.length zC9,.slice zA10 z.On.length zC10,.slice zA11 z.Tapes.length zC11,.int .i64 z.Writes,.int .i64 z.Stop,.bool z.Down].toArray 34),seen false [.slice zA9 z.Groups.length zC9] z.Groups zF9,seen false [.slice zA10 z.On.length zC10] z.On zF10,seen false [.slice zA11 z.Tapes.length zC11] z.Tapes zF11]) (ae (by exact zB) (ae zO9 (ae zO10 (ae zO11 (by simp)))));refine ab (sA Z Z (aa (ab (sA Z Z (aa (ac (ab (sM Z Z (sC func95 xI Z (jQ (H0.fbox 0 Z) (by assumption) (aX (H0.seen 1 Z)) (aX (H0.seen 2 Z)) (aX (H0.seen 3 Z)) (by first | assumption | omega) (by first | assumption | omega)) (fun v1 w1 r1=>?_))))))))));obtain ⟨e1,vs1,r1,hR1,hM1⟩:=r1;obtain ⟨fp1,H1⟩:=H0.res e1 r1;obtain ⟨sa1,sk1,sq1⟩:=az (H1.mine 0 Z);cases sq1;have hl1:vs1.length=(liveL z).length:=by rw [← hM1,List.length_map]
 have hRw1:RdV w zF11 vs1:=hR1.back H1.ext (Rp.lt zO11);refine sV Z (aB aO Z) (sM Z Z (aa (ao (bw (γ:=Nat) H1 [(2,_),(7,_),(8,_)] ⟨Z,Z,Z,trivial⟩ (fun k=>[(3,.int .i64 (fq (liveL z) k)),(9,.int .i64 k)]) (fun k=>k≤(liveL z).length∧True) (fun k=>(liveL z).length-k) 0 ⟨Z,Z,trivial⟩ ⟨by omega,trivial⟩ (fun k w2 H2 ⟨hk,_⟩=>?_)))));dsimp only[lCA,lNA];refine ab (sV Z (aT Z Z) (aa (ac (au Z (fun c1=>?_) (fun c1=>?_)))))
 ·refine aj (ac (ao (ac ?_)));obtain ⟨eb1,eo1,ee1,ec1,eK1⟩:=H2.viewAt 0 Z k (by omega);refine an (sV Z (ay aO aJ Z Z ee1 k (by omega) (by omega)) (sV Z (ak ax Z aJ Z Z ec1) (bI (wn Z) Z zeroValue94 H2 (fun b1 w3 e2 g1 H3=>bc (wn Z) aJ Z Z Z Z H3 1 Z Z (fun w4 e3 H4=>?_)))));dsimp only[lNA,lCA,lSZ,lSS,aN] at H4;refine aa ?_;have hwb:=pc hb (by omega) (show k≤(liveL z).length by omega);have hdl:=ny hb (qW (z:=z) (k:=k) (by omega));have hme:=bY hM1 (show k<vs1.length by omega);have hdl2:(vs1.getD k default).r.Data.length≤1048576:=by rw [hme]; exact hdl
  refine an (sM Z Z (sF ax Z bd (sLd bi (H4.box 1 Z) Z (sE func119 ep Z (cG (((hRw1.to H4.ext).sees (v:=vs1.getD k default) (by rw [bE (by omega)]; exact List.getElem_mem _)).2.2.1)) H4 (fun w5 e4 H5=>sV Z (aA Z Z iO) (sA Z Z (aa (an (sV Z (aA Z Z iO) (sM Z Z (aa ?_)))))))))));exact ⟨k+1,⟨eqI (oz (by rw [bY hM1 (by omega)])),eqI (by omega),Z,Z,Z,trivial⟩,⟨(H5.dtake 1),by (try dsimp only); omega,trivial⟩,by dsimp only; omega⟩
 ·refine aQ (ab (sR 2 Z (rN hQ results183 Z ?_)));obtain rfl:k=(liveL z).length:=by omega
  exact ⟨H2.ext,Z⟩
theorem ll {w:World}{z:Wld}{vs:List RecV}{A:Option Addr}{n C:Nat}{ft:List Nat}(vS:Sees w [.slice A n C] vs) (hR:RdV w ft vs) (hM:vs.map RecV.r=dI z) (hl:vs.length≤600000) (hw0:dS z=0) (hb:dj z≤1048576):Ret Tryz.prog 181 #[.slice A n C] w fun v w'=>Ext No w w'∧(v = .int .i64 (ou z)):=by
 obtain ⟨f0,vO⟩:=vS;obtain rfl:=dH vO;have vL:=oL vO;have hvl:vs.length=(dI z).length:=by rw [← hM,List.length_map]
 have hll:=nr (z:=z);refine aH (vs:=[.slice A vs.length C]) func181 Z ntmps181 Z (fun Q hQ hN=>?_);have H0:=Sep.start (w:=w) (F:=[seen false [.slice A vs.length C] vs f0]) (ae vO (by simp));refine ab (sA Z Z (aa (ab (sM Z Z (sC func93 xp Z (nG (xs:=dI z) (ft:=ft) (H0.sees 0 Z) (hR.to H0.ext) hM (by omega) (fun r hr=>yZ hw0 hr)) (fun v1 w1 r1=>?_))))));obtain ⟨e1,us1,r1,hR1,hS1⟩:=r1;obtain ⟨fp1,H1⟩:=H0.res e1 r1;obtain ⟨sa1,sk1,sq1⟩:=az (H1.mine 0 Z);cases sq1;have hM1:us1.map RecV.r=liveL z:=wI hS1;have hl1:us1.length=(liveL z).length:=by rw [← hM1,List.length_map]
 refine sA Z Z (aa (ab (sA Z Z (aa (ac (ab (sA Z Z (aa (ao (bw (γ:=Nat) H1 [(2,_),(3,_)] ⟨Z,Z,trivial⟩ (fun k=>[(4,.int .i64 (fq (liveL z) k)),(5,.int .i64 k)]) (fun k=>k≤(liveL z).length∧True) (fun k=>(liveL z).length-k) 0 ⟨Z,Z,trivial⟩ ⟨by omega,trivial⟩ (fun k w2 H2 ⟨hk,_⟩=>?_)))))))))));dsimp only[lCA,lNA];refine ac (ab (sR 2 Z (sV Z (aB aO Z) (sV Z (aT Z Z) (aa (au Z (fun c1=>?_) (fun c1=>?_)))))))
 ·refine aj (ac (ao ?_));have hwb:=pc hb (by omega) (show k≤(liveL z).length by omega);have hdl:=ny hb (qW (z:=z) (k:=k) (by omega));have hme:=bY hM1 (show k<us1.length by omega);have hdl2:(us1.getD k default).r.Data.length≤1048576:=by rw [hme]; exact hdl
  obtain ⟨eb1,eo1,ee1,ec1,eK1⟩:=H2.viewAt 0 Z k (by omega);refine an (sR 3 Z (sV Z (ay aO aJ Z Z ee1 k (by omega) (by omega)) (sF ax Z bd (sV Z (ah bi Z Z (be ec1 7 Z)) (sV Z (aB bi Z) (sV Z (aA Z Z iO) (sA Z Z (aa (an (sM Z Z (sV Z (aA Z Z iO) (sA Z Z (aa ?_)))))))))))));exact ⟨k+1,⟨eqI (oz (by rw [bY hM1 (by omega)])),eqI (by omega),Z,Z,trivial⟩,⟨H2,by (try dsimp only); omega,trivial⟩,by dsimp only; omega⟩
 ·refine aQ (ab (sR 2 Z (rN hQ results181 Z ?_)));obtain rfl:k=(liveL z).length:=by omega
  exact ⟨H2.ext,Z⟩
theorem fz {w:World}{z:Wld}{zb:Nat}{fp:List Nat}{nm:ByteArray}{xs:List UInt8}{xsA:Option Addr}{xsC:Nat}{xsF:List Nat}(o:OwnW w zb 34 z fp) (nd:fp.Nodup) (xsO:own false w [.slice xsA xs.length xsC] xs xsF) (xsD:∀ b∈xsF,b ∉ fp) (hs:z.Shape.ok=true) (hq:SeqOK z) (hT:z.Tapes.length=2) (hrl:∀ k,(z.Tapes.getD k default).Recs.length≤200000) (hw:z.Writes≤1400000000) (hn8:nm.size≤8) (hxl:xs.length≤1048576) (hb:dj z≤1048576):Ret Tryz.prog 100 #[.pointer (some ⟨zb,0,none⟩),.string nm,.slice xsA xs.length xsC] w fun v w'=>(v = .int .i64 (puC z nm xs)∧MutW w w' fp zb 34 ((puZ z nm xs))):=by
 have xsL:=oL xsO;have sbd:=bU hs;have hnb:nm.size≤maxLen:=by unfold maxLen; omega
 have hll:=nr (z:=z);have hcb:=jP (z:=z) hT hrl;refine aH (vs:=[.pointer (some ⟨zb,0,none⟩),.string nm,.slice xsA xs.length xsC]) func100 Z ntmps100 Z (fun Q hQ hN=>?_);have H0:=(Sep.beginW o nd).seeF xsO xsD
 try dsimp only[lNA,lCA,lSZ,lSS] at H0
 refine ab (sA Z Z (aa (ac (ac ?_))));obtain ⟨wA1,wC1,wA2,wC2,wA3,wC3,wf1,wf2,wf3,wok1,H1⟩:=H0.openW 0 Z
 try dsimp only[lNA,lCA,lSZ,lSS] at H1
 have wok1U:=wok1;unfold Wld.Ok Shape.Ok I64ok at wok1U;have wL1:=oL (H1.mine 2 Z);have wL2:=oL (H1.mine 3 Z);have wL3:=oL (H1.mine 4 Z);refine bz (S:=Ext No _) (oQ [1,3,5,7,9,10,12,15,17,19,21,22]) (by kernel_rfl) (by kernel_rfl) (by kernel_rfl) Z (fun _=>Ext.refl.drawn _) (fun q1=>?_);have H2:=H1.drawn q1;refine dR 2 Z (dV Z Z (fun zw hx=>ag aU Z bZ Z Z) (dV Z Z (fun zw hx=>ak bq Z bZ Z Z (At.sub (hx.heap (H2.box 0 Z)) 9)) (dM Z Z Z (dC func119 ep Z (cG (H2.sees 0 Z)) (fun v1 w1 r1=>?_)))));obtain ⟨e1,rfl⟩:=r1;have H3:=H2.to e1;refine dC func182 pV Z (fV (by assumption) (by unfold I64ok; omega)) (fun v2 w2 r2=>?_);obtain ⟨e2,rfl⟩:=r2;have H4:=H3.to e2;refine dR 3 Z (dV Z Z (fun zw hx=>bk Z) (aR Z (wn Z) Z Z (bk Z) (aS (ab (sR 2 Z (aa (au Z (fun c1=>?_) (fun c1=>?_))))))))
 ·refine ab (sR 2 Z (rN hQ results100 Z ?_));obtain ⟨fp1,H5⟩:=H4.closeW 0 2 3 4 z Z Z Z Z Z Z Z Z Z Z wok1
  try dsimp only[lNA,lCA,lSZ,lSS] at H5
  have hz:=H5.doneW;obtain ⟨d1,d2⟩:=wk (z:=z) (nm:=nm) (xs:=xs) (by omega);rw [d1,d2];exact ⟨Z,hz⟩
 ·refine aj (ac (ac ?_));have hwb:=pc (z:=z) (k:=(liveL z).length) hb (by omega) (Nat.le_refl _);have hwe:fq (liveL z) (liveL z).length=ou z:=Z;refine bz (S:=Ext No _) (oQ [1,5,11,13,15,17,19,2,6,9,20]) (by kernel_rfl) (by kernel_rfl) (by kernel_rfl) Z (fun _=>Ext.refl.drawn _) (fun q2=>?_);have H6:=H4.drawn q2;refine dR 4 Z (dV Z Z (fun zw hx=>ag aU Z bZ Z Z) (dV Z Z (fun zw hx=>ag bq Z ts2 Z Z) (dV Z Z (fun zw hx=>ah tu2 Z Z (al (hx.heap (H6.box 0 Z)) Z)) (dC func183 ud Z (iZ (H6.box 0 Z) (by assumption) (aX (H6.mine 2 Z)) (aX (H6.mine 3 Z)) (aX (H6.mine 4 Z)) (by first | assumption | omega) (by first | assumption | omega) (by first | assumption | omega)) (fun v3 w3 r3=>?_)))));obtain ⟨e3,rfl⟩:=r3;have H7:=H6.to e3;refine dC func119 ep Z (cG (H7.sees 0 Z)) (fun v4 w4 r4=>?_);obtain ⟨e4,rfl⟩:=r4;have H8:=H7.to e4;refine dV Z Z (fun zw hx=>aA Z Z iO) (aR Z (wn Z) Z Z (cV Z Z) (aS (au Z (fun c2=>?_) (fun c2=>?_))))
  ·refine ab (rA hQ results100 Z ?_);obtain ⟨fp2,H9⟩:=H8.closeW 0 2 3 4 z Z Z Z Z Z Z Z Z Z Z wok1
   try dsimp only[lNA,lCA,lSZ,lSS] at H9
   have hz:=H9.doneW;obtain ⟨d1,d2⟩:=wC (z:=z) (nm:=nm) (xs:=xs) (by omega) (by omega);rw [d1,d2];exact ⟨Z,hz⟩
  ·refine aj (ac ?_);have hlz:=kL (s:=z.Shape) (len:=xs.length) (by omega);have hdk:(md nm xs).Ok:=by unfold Rec.Ok md; refine ⟨?_,?_,hnb,?_,?_,?_⟩<;>(unfold I64ok; dsimp only; omega)
   have hdz:ca (md nm xs)=nm.size+xs.length:=by show nm.size+0+xs.length+0=_; omega
   refine an (sR 3 Z (sE func119 ep Z (cG (H8.sees 0 Z)) H8 (fun w5 e5 H10=>sM Z Z (sC func111 bl Z (aY (H10.sees 0 Z) (by omega)) (fun v6 w6 r6=>?_)))));obtain ⟨e6,r6⟩:=r6;obtain ⟨fp3,H11⟩:=H10.res e6 r6;obtain ⟨a1,k1,q3⟩:=az (H11.mine 5 Z);cases q3;refine sV Z (b0 nL Z Z) ?_;obtain ⟨fp4,H12⟩:=H11.closeW 0 2 3 4 z Z Z Z Z Z Z Z Z Z Z wok1
   try dsimp only[lNA,lCA,lSZ,lSS] at H12
   refine sC func179 tZ Z (ja (H12.wldAt 0 Z) (H12.nodup1 (i:=0) Z) (by assumption) (.inr (.inl ⟨Z,Z,Z⟩)) (by simp) (aX (H12.mine 5 Z)) (fun b hb=>H12.apart (i:=0) (j:=5) Z Z Z b hb) (.inr (.inl ⟨Z,Z,Z⟩)) (by simp) (by first | assumption | omega) (by first | assumption | omega) (by first | assumption | omega) (by first | assumption | omega) (by first | assumption | omega) (r:=(md nm xs))) (fun v7 w7 r7=>?_);obtain ⟨rfl,mm1⟩:=r7;obtain ⟨fp5,H13⟩:=H12.mutW 0 Z mm1
   try dsimp only[lNA,lCA,lSZ,lSS] at H13
   refine rA hQ results100 Z ?_;have hz:=H13.doneW;obtain ⟨d1,d2⟩:=AN (z:=z) (nm:=nm) (xs:=xs) (by omega) (by omega);rw [d1,d2];exact ⟨Z,hz⟩
theorem oO {w:World}{z:Wld}{zb:Nat}{fp:List Nat}{nm:ByteArray}{xs:List UInt8}{xsA:Option Addr}{xsC:Nat}{xsF:List Nat}(o:OwnW w zb 34 z fp) (nd:fp.Nodup) (xsO:own false w [.slice xsA xs.length xsC] xs xsF) (xsD:∀ b∈xsF,b ∉ fp) (nq:bg nm≠0) (hnm:nm.size≤1048576):Ret Tryz.prog 99 #[.pointer (some ⟨zb,0,none⟩),.string nm,.slice xsA xs.length xsC] w fun v w'=>(v = .int .i64 (bg nm)∧MutW w w' fp zb 34 (z)):=by
 have xsL:=oL xsO;have hnb:nm.size≤maxLen:=by unfold maxLen; omega
 refine aH (vs:=[.pointer (some ⟨zb,0,none⟩),.string nm,.slice xsA xs.length xsC]) func99 Z ntmps99 Z (fun Q hQ hN=>?_);have H0:=(Sep.beginW o nd).seeF xsO xsD
 try dsimp only[lNA,lCA,lSZ,lSS] at H0
 refine ab (sA Z Z (aa (ac (ab (sM Z Z (sE func109 mm Z (eW (by assumption)) H0 (fun w1 e1 H1=>sA Z Z (aa (ab (sR 2 Z (aa (au Z (fun c1=>?_) (fun c1=>?_)))))))))))))
 ·refine ab (sR 2 Z (rN hQ results99 Z ?_));have hz:=H1.doneW;exact ⟨Z,hz⟩
 ·exfalso; omega
theorem lu {w:World}{z:Wld}{zb:Nat}{fp:List Nat}{nm:ByteArray}{xs:List UInt8}{xsA:Option Addr}{xsC:Nat}{xsF:List Nat}(o:OwnW w zb 34 z fp) (nd:fp.Nodup) (xsO:own false w [.slice xsA xs.length xsC] xs xsF) (xsD:∀ b∈xsF,b ∉ fp) (aq:bg nm=0) (hw0:dS z=0) (hd:z.Down=false) (hrr:(z.Tapes.getD 0 default).Recs.length≤1000∧(z.Tapes.getD 1 default).Recs.length≤1000) (hs:z.Shape.ok=true) (hq:SeqOK z) (hT:z.Tapes.length=2) (hrl:∀ k,(z.Tapes.getD k default).Recs.length≤200000) (hw:z.Writes≤1400000000) (hn8:nm.size≤8) (hxl:xs.length≤1048576) (hb:dj z≤1048576):Ret Tryz.prog 99 #[.pointer (some ⟨zb,0,none⟩),.string nm,.slice xsA xs.length xsC] w fun v w'=>(v = .int .i64 (puC z nm xs)∧MutW w w' fp zb 34 ((puZ z nm xs))):=by
 have xsL:=oL xsO;have sbd:=bU hs;have hnb:nm.size≤maxLen:=by unfold maxLen; omega
 have hll:=nr (z:=z);have hcb:=jP (z:=z) hT hrl;refine aH (vs:=[.pointer (some ⟨zb,0,none⟩),.string nm,.slice xsA xs.length xsC]) func99 Z ntmps99 Z (fun Q hQ hN=>?_);have H0:=(Sep.beginW o nd).seeF xsO xsD
 try dsimp only[lNA,lCA,lSZ,lSS] at H0
 refine ab (sA Z Z (aa (ac (ab (sM Z Z (sE func109 mm Z (eW (by assumption)) H0 (fun w1 e1 H1=>sA Z Z (aa (ab (sR 2 Z (aa (au Z (fun c1=>?_) (fun c1=>?_)))))))))))))
 ·exfalso; omega
 ·refine aj (ac (ac ?_));obtain ⟨wA1,wC1,wA2,wC2,wA3,wC3,wf1,wf2,wf3,wok1,H2⟩:=H1.openW 0 Z
  try dsimp only[lNA,lCA,lSZ,lSS] at H2
  have wok1U:=wok1;unfold Wld.Ok Shape.Ok I64ok at wok1U;have wL1:=oL (H2.mine 2 Z);have wL2:=oL (H2.mine 3 Z);have wL3:=oL (H2.mine 4 Z);refine an (sR 2 Z (sF aU Z bZ (sV Z (ak bq Z bZ Z Z (At.sub (H2.box 0 Z) 9)) (sM Z Z (sV Z (aB bi Z) (sE func180 pY Z (je (by assumption)) H2 (fun w2 e2 H3=>sA Z Z (aa (ab (sR 2 Z (aa (au Z (fun c2=>?_) (fun c2=>?_)))))))))))))
  ·refine ab (sR 2 Z (rN hQ results99 Z ?_));obtain ⟨fp1,H4⟩:=H3.closeW 0 2 3 4 z Z Z Z Z Z Z Z Z Z Z wok1
   try dsimp only[lNA,lCA,lSZ,lSS] at H4
   have hz:=H4.doneW;obtain ⟨d1,d2⟩:=wk (z:=z) (nm:=nm) (xs:=xs) (by omega);rw [d1,d2];exact ⟨Z,hz⟩
  ·refine aj (ac (ac ?_));have hwb:=pc (z:=z) (k:=(liveL z).length) hb (by omega) (Nat.le_refl _);have hwe:fq (liveL z) (liveL z).length=ou z:=Z;refine bz (S:=Ext No _) (oQ [1,7,9,13,15,17,19,21,2,4,11,22]) (by kernel_rfl) (by kernel_rfl) (by kernel_rfl) Z (fun _=>Ext.refl.drawn _) (fun q1=>?_);have H5:=H3.drawn q1;refine dR 2 Z (dV Z Z (fun zw hx=>aB bi Z) (dR 2 Z (dV Z Z (fun zw hx=>ag aU Z bZ Z Z) (dV Z Z (fun zw hx=>ag bq Z ts2 Z Z) (dV Z Z (fun zw hx=>ah tu2 Z Z (al (hx.heap (H5.box 0 Z)) Z)) (dC func83 qX Z (gJ (H5.box 0 Z) (by assumption) (aX (H5.mine 2 Z)) (aX (H5.mine 3 Z)) (aX (H5.mine 4 Z)) (by first | assumption | omega) (by first | assumption | omega)) (fun v3 w3 r3=>?_)))))));obtain ⟨e3,vs1,r3,hR1,hM1⟩:=r3;obtain ⟨fp2,H6⟩:=H5.res e3 r3;obtain ⟨sa1,sk1,sq1⟩:=az (H6.mine 5 Z);cases sq1;have hl1:vs1.length=(dI z).length:=by rw [← hM1,List.length_map]
   have hb1:=jP (z:=z) (by first | assumption | omega) (by assumption);refine dC func181 uX Z (ll (z:=z) (H6.msees 5 Z) hR1 hM1 (by omega) hw0 hb) (fun v4 w4 r4=>?_);obtain ⟨e4,rfl⟩:=r4;have H7:=H6.to e4;refine dV Z Z (fun zw hx=>aA Z Z iO) (aR Z (wn Z) Z Z (cV Z Z) (aS (au Z (fun c3=>?_) (fun c3=>?_))))
   ·refine ab (rA hQ results99 Z ?_);obtain ⟨fp3,H8⟩:=H7.closeW 0 2 3 4 z Z Z Z Z Z Z Z Z Z Z wok1
    try dsimp only[lNA,lCA,lSZ,lSS] at H8
    have hz:=H8.doneW;obtain ⟨d1,d2⟩:=wC (z:=z) (nm:=nm) (xs:=xs) (by omega) (by omega);rw [d1,d2];exact ⟨Z,hz⟩
   ·refine aj (ac ?_);have hlz:=kL (s:=z.Shape) (len:=xs.length) (by omega);have hdk:(md nm xs).Ok:=by unfold Rec.Ok md; refine ⟨?_,?_,hnb,?_,?_,?_⟩<;>(unfold I64ok; dsimp only; omega)
    have hdz:ca (md nm xs)=nm.size+xs.length:=by show nm.size+0+xs.length+0=_; omega
    refine an (sR 3 Z (sV Z (aB bi Z) (sM Z Z (sV Z (b0 nL Z Z) ?_))));obtain ⟨fp4,H9⟩:=H7.closeW 0 2 3 4 z Z Z Z Z Z Z Z Z Z Z wok1
    try dsimp only[lNA,lCA,lSZ,lSS] at H9
    refine sC func177 uK Z (nv (H9.wldAt 0 Z) (H9.nodup1 (i:=0) Z) (by assumption) (.inr (.inl ⟨Z,Z,Z⟩)) (by simp) (aX (H9.seen 0 Z)) (fun b hb=>H9.off 0 Z 0 Z hb) (.inr (.inl ⟨Z,Z,Z⟩)) (by simp) (by first | assumption | omega) (by first | assumption | omega) (by first | assumption | omega) (by first | assumption | omega) (by first | assumption | omega) (by first | assumption | omega) (by first | assumption | omega) (r:=(md nm xs))) (fun v5 w5 r5=>?_);obtain ⟨rfl,mm1⟩:=r5;obtain ⟨fp5,H10⟩:=H9.mutW 0 Z mm1
    try dsimp only[lNA,lCA,lSZ,lSS] at H10
    refine rA hQ results99 Z ?_;have hz:=H10.doneW;obtain ⟨d1,d2⟩:=AN (z:=z) (nm:=nm) (xs:=xs) (by omega) (by omega);rw [d1,d2];exact ⟨Z,hz⟩
end Go.Wk
namespace Go.Wk
open Go.Proofs Rp Go.Proofs.Tryz
set_option maxRecDepth 10000
theorem jR {w:World}{z:Wld}{zA9 zA10 zA11:Option Addr}{zC9 zC10 zC11:Nat}{nm:ByteArray}{xs:List UInt8}{xsA:Option Addr}{xsC:Nat}(zK:z.Ok) (zS9:Sees w [.slice zA9 z.Groups.length zC9] z.Groups) (zS10:Sees w [.slice zA10 z.On.length zC10] z.On) (zS11:Sees w [.slice zA11 z.Tapes.length zC11] z.Tapes) (xsS:Sees w [.slice xsA xs.length xsC] xs) (hb:dj z≤1048576) (hnm:nm.size≤1048576) (hxl:xs.length≤1048576) (hc:puC z nm xs≠0∧puC z nm xs≠9):Ret Tryz.prog 37 #[z.val zA9 zC9 zA10 zC10 zA11 zC11,.string nm,.slice xsA xs.length xsC] w fun v w'=>Ext No w w'∧(∃ A10 C10 A11 C11 A12 C12,v=(aC z nm xs).val A10 C10 A11 C11 A12 C12∧Res w w' [.int .i64 (aC z nm xs).Code,.int .i64 (aC z nm xs).Wd.Shape.Groups,.int .i64 (aC z nm xs).Wd.Shape.Column,.int .i64 (aC z nm xs).Wd.Shape.Data,.int .i64 (aC z nm xs).Wd.Shape.Spare,.int .i64 (aC z nm xs).Wd.Shape.Rows,.int .i64 (aC z nm xs).Wd.Shape.Cap,.int .i64 (aC z nm xs).Wd.Shape.Batch,.int .i64 (aC z nm xs).Wd.Shape.Queue,.int .i64 (aC z nm xs).Wd.Shape.Stage,.slice A10 (aC z nm xs).Wd.Groups.length C10,.slice A11 (aC z nm xs).Wd.On.length C11,.slice A12 (aC z nm xs).Wd.Tapes.length C12,.int .i64 (aC z nm xs).Wd.Writes,.int .i64 (aC z nm xs).Wd.Stop,.bool (aC z nm xs).Wd.Down] (aC z nm xs)):=by
 have zK2:=zK;unfold Wld.Ok Shape.Ok at zK2
 try unfold I64ok at zK2
 try unfold maxLen at zK2
 have zL9:=sL zS9;obtain ⟨zF9,zO9⟩:=zS9;have zL10:=sL zS10;obtain ⟨zF10,zO10⟩:=zS10;have zL11:=sL zS11;obtain ⟨zF11,zO11⟩:=zS11;have xsL:=sL xsS;obtain ⟨xsF,xsO⟩:=xsS;refine aH (vs:=[z.val zA9 zC9 zA10 zC10 zA11 zC11,.string nm,.slice xsA xs.length xsC]) func37 Z ntmps37 Z (fun Q hQ hN=>?_);have H0:=Sep.start (w:=w) (F:=[seen false [.slice zA9 z.Groups.length zC9] z.Groups zF9,seen false [.slice zA10 z.On.length zC10] z.On zF10,seen false [.slice zA11 z.Tapes.length zC11] z.Tapes zF11,seen false [.slice xsA xs.length xsC] xs xsF]) (ae zO9 (ae zO10 (ae zO11 (ae xsO (by simp)))));refine ab (ba (wn Z) Z Z H0 (fun b1 w1 e1 g1 H1=>bI (wn Z) Z zeroValue36 H1 (fun b2 w2 e2 g2 H2=>aa (ac (ab (sV Z (ak aU Z cP Z Z (At.whole (H2.box 0 Z))) (sM Z Z (sE func97 rJ Z (go (by assumption) (H2.sees 0 Z) (H2.sees 1 Z) (H2.sees 2 Z) (by first | assumption | omega)) H2 (fun w3 e3 H3=>sA Z Z (aa (ab (sR 2 Z (aa (au Z (fun c1=>?_) (fun c1=>?_)))))))))))))))
 ·refine ab (sM Z Z (sV Z (b0 dX Z Z) (bc (wn Z) dD Z Z Z Z H3 1 Z Z (fun w4 e4 H4=>?_))));dsimp only[lNA,lCA,lSZ,lSS,aN] at H4;refine aa (bM (hQ _ _ (dp results37 Z (aL fi Z dD Z (At.whole (H4.box 1 Z))) ?_)))
  by_cases q:upF z=0
  ·have aq:bg nm≠0:=by have:=c1; rwa [if_pos q] at this
   rw [aC,qb q aq,if_pos q];exact ⟨H4.ext,none,0,none,0,none,0,Z,gh (by unfold I64ok; have:=nf (nm:=nm); (try dsimp only); omega)⟩
  ·rw [aC,m0 q,if_neg q];exact ⟨H4.ext,none,0,none,0,none,0,Z,gh (by unfold I64ok; have:=nK (z:=z); (try dsimp only); omega)⟩
 ·refine aj (ac ?_);have hu:upF z=0:=by
   by_cases q:upF z=0
   ·exact q
   ·have:=c1; rw [if_neg q] at this; omega
  obtain ⟨hwf,hdn⟩:=jF hu;obtain ⟨hs,hG,hO⟩:=cI hwf;have hT:=(cI hwf).2.2.2.1;obtain ⟨hw0,hw1,_,_⟩:=fl hwf;have hrl:=mz hwf;have hrl2:=kV hwf;have hq:=gu hwf;have aq:bg nm=0:=by have:=c1; rw [if_pos hu] at this; omega
  have hn8:=ms aq;refine an (sV Z (ak aU Z cP Z Z (At.whole (H3.box 0 Z))) (sC func68 qR Z (gr (by assumption) (H3.sees 0 Z) (H3.sees 1 Z) (H3.sees 2 Z) (by first | assumption | omega)) (fun v2 w5 r2=>?_)));obtain ⟨e5,sa1,sk1,sa2,sk2,sa3,sk3,rfl,r2⟩:=r2;obtain ⟨fp1,H5⟩:=H3.res e5 r2;obtain ⟨sf1,sf2,sf3,sq1,sok1,so1,so2,so3⟩:=eq (H5.mine 2 Z);have H6:=H5.part 2 Z [mine [.slice _ z.Groups.length _] z.Groups sf1,mine [.slice _ z.On.length _] z.On sf2,mine [.slice _ z.Tapes.length _] z.Tapes sf3] (ae so1 (ae so2 (ae so3 (by simp)))) (by simp [blocks,mine,sq1])
  try dsimp only[lNA,lCA,lSZ,lSS] at H6
  refine bI (wn Z) Z zeroValue34 H6 (fun b3 w6 e6 g3 H7=>bc (wn Z) cP Z Z Z Z H7 6 Z Z (fun w7 e7 H8=>?_));dsimp only[lNA,lCA,lSZ,lSS,aN] at H8;refine aa (ab (sM Z Z (sM Z Z ?_)));obtain ⟨fp2,H9⟩:=H8.closeW 6 3 4 5 z Z Z Z Z Z Z Z Z Z Z zK
  try dsimp only[lNA,lCA,lSZ,lSS] at H9
  refine sC func100 pt Z (fz (H9.wldAt 6 Z) (H9.nodup1 (i:=6) Z) (aX (H9.seen 3 Z)) (fun b hb=>H9.off 3 Z 6 Z hb) (by first | assumption | omega) (by first | assumption | omega) (by first | assumption | omega) (by first | assumption | omega) (by first | assumption | omega) (by first | assumption | omega) (by first | assumption | omega) (by first | assumption | omega)) (fun v3 w8 r3=>?_);obtain ⟨rfl,mm1⟩:=r3;obtain ⟨fp3,H10⟩:=H9.mutW 6 Z mm1
  try dsimp only[lNA,lCA,lSZ,lSS] at H10
  refine sA Z Z (aa (ac ?_));obtain ⟨wA1,wC1,wA2,wC2,wA3,wC3,wf1,wf2,wf3,wok1,H11⟩:=H10.openW 6 Z
  try dsimp only[lNA,lCA,lSZ,lSS] at H11
  have wok1U:=wok1;unfold Wld.Ok Shape.Ok I64ok at wok1U;have wL1:=oL (H11.mine 8 Z);have wL2:=oL (H11.mine 9 Z);have wL3:=oL (H11.mine 10 Z);refine an (sV Z (ak aU Z cP Z Z (At.whole (H11.box 6 Z))) (sM Z Z (sE func70 qZ Z (kJ (by assumption) (H11.msees 8 Z) (H11.msees 9 Z) (H11.msees 10 Z) (by first | assumption | omega)) H11 (fun w9 e9 H12=>bc (wn Z) dD Z Z Z Z H12 1 Z Z (fun w10 e10 H13=>?_)))));dsimp only[lNA,lCA,lSZ,lSS,aN] at H13;refine aa (bM (hQ _ _ (dp results37 Z (aL fi Z dD Z (At.whole (H13.box 1 Z))) ?_)));rw [aC,wj hu aq hc];exact ⟨H13.ext,none,0,none,0,none,0,Z,gh (by unfold I64ok; have:=qG (z:=z) (nm:=nm) (xs:=xs); (try dsimp only); omega)⟩
theorem kj {w:World}{z:Wld}{zA9 zA10 zA11:Option Addr}{zC9 zC10 zC11:Nat}{nm:ByteArray}{xs:List UInt8}{xsA:Option Addr}{xsC:Nat}(zK:z.Ok) (zS9:Sees w [.slice zA9 z.Groups.length zC9] z.Groups) (zS10:Sees w [.slice zA10 z.On.length zC10] z.On) (zS11:Sees w [.slice zA11 z.Tapes.length zC11] z.Tapes) (xsS:Sees w [.slice xsA xs.length xsC] xs) (hb:dj z≤1048576) (hnm:nm.size≤1048576) (hxl:xs.length≤1048576) (hc:puC z nm xs=0∨puC z nm xs=9):Ret Tryz.prog 37 #[z.val zA9 zC9 zA10 zC10 zA11 zC11,.string nm,.slice xsA xs.length xsC] w fun v w'=>Ext No w w'∧(∃ A10 C10 A11 C11 A12 C12,v=(aC z nm xs).val A10 C10 A11 C11 A12 C12∧Res w w' [.int .i64 (aC z nm xs).Code,.int .i64 (aC z nm xs).Wd.Shape.Groups,.int .i64 (aC z nm xs).Wd.Shape.Column,.int .i64 (aC z nm xs).Wd.Shape.Data,.int .i64 (aC z nm xs).Wd.Shape.Spare,.int .i64 (aC z nm xs).Wd.Shape.Rows,.int .i64 (aC z nm xs).Wd.Shape.Cap,.int .i64 (aC z nm xs).Wd.Shape.Batch,.int .i64 (aC z nm xs).Wd.Shape.Queue,.int .i64 (aC z nm xs).Wd.Shape.Stage,.slice A10 (aC z nm xs).Wd.Groups.length C10,.slice A11 (aC z nm xs).Wd.On.length C11,.slice A12 (aC z nm xs).Wd.Tapes.length C12,.int .i64 (aC z nm xs).Wd.Writes,.int .i64 (aC z nm xs).Wd.Stop,.bool (aC z nm xs).Wd.Down] (aC z nm xs)):=by
 have zK2:=zK;unfold Wld.Ok Shape.Ok at zK2
 try unfold I64ok at zK2
 try unfold maxLen at zK2
 have zL9:=sL zS9;obtain ⟨zF9,zO9⟩:=zS9;have zL10:=sL zS10;obtain ⟨zF10,zO10⟩:=zS10;have zL11:=sL zS11;obtain ⟨zF11,zO11⟩:=zS11;have xsL:=sL xsS;obtain ⟨xsF,xsO⟩:=xsS;refine aH (vs:=[z.val zA9 zC9 zA10 zC10 zA11 zC11,.string nm,.slice xsA xs.length xsC]) func37 Z ntmps37 Z (fun Q hQ hN=>?_);have H0:=Sep.start (w:=w) (F:=[seen false [.slice zA9 z.Groups.length zC9] z.Groups zF9,seen false [.slice zA10 z.On.length zC10] z.On zF10,seen false [.slice zA11 z.Tapes.length zC11] z.Tapes zF11,seen false [.slice xsA xs.length xsC] xs xsF]) (ae zO9 (ae zO10 (ae zO11 (ae xsO (by simp)))));refine ab (ba (wn Z) Z Z H0 (fun b1 w1 e1 g1 H1=>bI (wn Z) Z zeroValue36 H1 (fun b2 w2 e2 g2 H2=>aa (ac (ab (sV Z (ak aU Z cP Z Z (At.whole (H2.box 0 Z))) (sM Z Z (sE func97 rJ Z (go (by assumption) (H2.sees 0 Z) (H2.sees 1 Z) (H2.sees 2 Z) (by first | assumption | omega)) H2 (fun w3 e3 H3=>sA Z Z (aa (ab (sR 2 Z (aa (au Z (fun c1=>?_) (fun c1=>?_)))))))))))))))
 ·refine ab (sM Z Z (sV Z (b0 dX Z Z) (bc (wn Z) dD Z Z Z Z H3 1 Z Z (fun w4 e4 H4=>?_))));dsimp only[lNA,lCA,lSZ,lSS,aN] at H4;refine aa (bM (hQ _ _ (dp results37 Z (aL fi Z dD Z (At.whole (H4.box 1 Z))) ?_)))
  by_cases q:upF z=0
  ·have aq:bg nm≠0:=by have:=c1; rwa [if_pos q] at this
   rw [aC,qb q aq,if_pos q];exact ⟨H4.ext,none,0,none,0,none,0,Z,gh (by unfold I64ok; have:=nf (nm:=nm); (try dsimp only); omega)⟩
  ·rw [aC,m0 q,if_neg q];exact ⟨H4.ext,none,0,none,0,none,0,Z,gh (by unfold I64ok; have:=nK (z:=z); (try dsimp only); omega)⟩
 ·refine aj (ac ?_);have hu:upF z=0:=by
   by_cases q:upF z=0
   ·exact q
   ·have:=c1; rw [if_neg q] at this; omega
  obtain ⟨hwf,hdn⟩:=jF hu;obtain ⟨hs,hG,hO⟩:=cI hwf;have hT:=(cI hwf).2.2.2.1;obtain ⟨hw0,hw1,_,_⟩:=fl hwf;have hrl:=mz hwf;have hrl2:=kV hwf;have hq:=gu hwf;have aq:bg nm=0:=by have:=c1; rw [if_pos hu] at this; omega
  have hn8:=ms aq;refine an (sV Z (ak aU Z cP Z Z (At.whole (H3.box 0 Z))) (sC func68 qR Z (gr (by assumption) (H3.sees 0 Z) (H3.sees 1 Z) (H3.sees 2 Z) (by first | assumption | omega)) (fun v2 w5 r2=>?_)));obtain ⟨e5,sa1,sk1,sa2,sk2,sa3,sk3,rfl,r2⟩:=r2;obtain ⟨fp1,H5⟩:=H3.res e5 r2;obtain ⟨sf1,sf2,sf3,sq1,sok1,so1,so2,so3⟩:=eq (H5.mine 2 Z);have H6:=H5.part 2 Z [mine [.slice _ z.Groups.length _] z.Groups sf1,mine [.slice _ z.On.length _] z.On sf2,mine [.slice _ z.Tapes.length _] z.Tapes sf3] (ae so1 (ae so2 (ae so3 (by simp)))) (by simp [blocks,mine,sq1])
  try dsimp only[lNA,lCA,lSZ,lSS] at H6
  refine bI (wn Z) Z zeroValue34 H6 (fun b3 w6 e6 g3 H7=>bc (wn Z) cP Z Z Z Z H7 6 Z Z (fun w7 e7 H8=>?_));dsimp only[lNA,lCA,lSZ,lSS,aN] at H8;refine aa (ab (sM Z Z (sM Z Z ?_)));obtain ⟨fp2,H9⟩:=H8.closeW 6 3 4 5 z Z Z Z Z Z Z Z Z Z Z zK
  try dsimp only[lNA,lCA,lSZ,lSS] at H9
  refine sC func100 pt Z (fz (H9.wldAt 6 Z) (H9.nodup1 (i:=6) Z) (aX (H9.seen 3 Z)) (fun b hb=>H9.off 3 Z 6 Z hb) (by first | assumption | omega) (by first | assumption | omega) (by first | assumption | omega) (by first | assumption | omega) (by first | assumption | omega) (by first | assumption | omega) (by first | assumption | omega) (by first | assumption | omega)) (fun v3 w8 r3=>?_);obtain ⟨rfl,mm1⟩:=r3;obtain ⟨fp3,H10⟩:=H9.mutW 6 Z mm1
  try dsimp only[lNA,lCA,lSZ,lSS] at H10
  refine sA Z Z (aa (ac ?_));obtain ⟨wA1,wC1,wA2,wC2,wA3,wC3,wf1,wf2,wf3,wok1,H11⟩:=H10.openW 6 Z
  try dsimp only[lNA,lCA,lSZ,lSS] at H11
  have wok1U:=wok1;unfold Wld.Ok Shape.Ok I64ok at wok1U;have wL1:=oL (H11.mine 8 Z);have wL2:=oL (H11.mine 9 Z);have wL3:=oL (H11.mine 10 Z);refine an (sV Z (ak aU Z cP Z Z (At.whole (H11.box 6 Z))) (sM Z Z (sE func70 qZ Z (jZ (by assumption) (H11.msees 8 Z) (H11.msees 9 Z) (H11.msees 10 Z) (by first | assumption | (split<;>simp))) H11 (fun w9 e9 H12=>bc (wn Z) dD Z Z Z Z H12 1 Z Z (fun w10 e10 H13=>?_)))));dsimp only[lNA,lCA,lSZ,lSS,aN] at H13;refine aa (bM (hQ _ _ (dp results37 Z (aL fi Z dD Z (At.whole (H13.box 1 Z))) ?_)));rw [aC,wH hu aq hc];exact ⟨H13.ext,_,_,_,_,_,_,Z,WldResult.out (x:=⟨puC z nm xs,puZ z nm xs⟩) (H13.sub (.cons _ (.cons _ (.cons _ (.cons _ (.cons _ (.cons _ (.cons _ (.cons _ (.cons_cons _ (.cons_cons _ (.cons_cons _ List.Sublist.slnil)))))))))))) ⟨(by have:=qG (z:=z) (nm:=nm) (xs:=xs); show I64ok (puC z nm xs); unfold I64ok; omega),(by assumption)⟩⟩
theorem iH {w:World}{z:Wld}{zA9 zA10 zA11:Option Addr}{zC9 zC10 zC11:Nat}{nm:ByteArray}{xs:List UInt8}{xsA:Option Addr}{xsC:Nat}(zK:z.Ok) (zS9:Sees w [.slice zA9 z.Groups.length zC9] z.Groups) (zS10:Sees w [.slice zA10 z.On.length zC10] z.On) (zS11:Sees w [.slice zA11 z.Tapes.length zC11] z.Tapes) (xsS:Sees w [.slice xsA xs.length xsC] xs) (hb:dj z≤1048576) (hnm:nm.size≤1048576) (hxl:xs.length≤1048576):Ret Tryz.prog 37 #[z.val zA9 zC9 zA10 zC10 zA11 zC11,.string nm,.slice xsA xs.length xsC] w fun v w'=>Ext No w w'∧(∃ A10 C10 A11 C11 A12 C12,v=(aC z nm xs).val A10 C10 A11 C11 A12 C12∧Res w w' [.int .i64 (aC z nm xs).Code,.int .i64 (aC z nm xs).Wd.Shape.Groups,.int .i64 (aC z nm xs).Wd.Shape.Column,.int .i64 (aC z nm xs).Wd.Shape.Data,.int .i64 (aC z nm xs).Wd.Shape.Spare,.int .i64 (aC z nm xs).Wd.Shape.Rows,.int .i64 (aC z nm xs).Wd.Shape.Cap,.int .i64 (aC z nm xs).Wd.Shape.Batch,.int .i64 (aC z nm xs).Wd.Shape.Queue,.int .i64 (aC z nm xs).Wd.Shape.Stage,.slice A10 (aC z nm xs).Wd.Groups.length C10,.slice A11 (aC z nm xs).Wd.On.length C11,.slice A12 (aC z nm xs).Wd.Tapes.length C12,.int .i64 (aC z nm xs).Wd.Writes,.int .i64 (aC z nm xs).Wd.Stop,.bool (aC z nm xs).Wd.Down] (aC z nm xs)):=by
 by_cases h2:puC z nm xs=0∨puC z nm xs=9
 ·exact kj zK zS9 zS10 zS11 xsS hb hnm hxl h2
 ·exact jR zK zS9 zS10 zS11 xsS hb hnm hxl (by omega)
theorem iz {w:World}{z:Wld}{zA9 zA10 zA11:Option Addr}{zC9 zC10 zC11:Nat}{nm:ByteArray}{xs:List UInt8}{xsA:Option Addr}{xsC:Nat}(zK:z.Ok) (zS9:Sees w [.slice zA9 z.Groups.length zC9] z.Groups) (zS10:Sees w [.slice zA10 z.On.length zC10] z.On) (zS11:Sees w [.slice zA11 z.Tapes.length zC11] z.Tapes) (xsS:Sees w [.slice xsA xs.length xsC] xs) (hb:dj z≤1048576) (hnm:nm.size≤1048576) (hxl:xs.length≤1048576) (aq:bg nm=0) (hc:puC z nm xs≠0∧puC z nm xs≠9):Ret Tryz.prog 35 #[z.val zA9 zC9 zA10 zC10 zA11 zC11,.string nm,.slice xsA xs.length xsC] w fun v w'=>Ext No w w'∧(∃ A10 C10 A11 C11 A12 C12,v=(aC z nm xs).val A10 C10 A11 C11 A12 C12∧Res w w' [.int .i64 (aC z nm xs).Code,.int .i64 (aC z nm xs).Wd.Shape.Groups,.int .i64 (aC z nm xs).Wd.Shape.Column,.int .i64 (aC z nm xs).Wd.Shape.Data,.int .i64 (aC z nm xs).Wd.Shape.Spare,.int .i64 (aC z nm xs).Wd.Shape.Rows,.int .i64 (aC z nm xs).Wd.Shape.Cap,.int .i64 (aC z nm xs).Wd.Shape.Batch,.int .i64 (aC z nm xs).Wd.Shape.Queue,.int .i64 (aC z nm xs).Wd.Shape.Stage,.slice A10 (aC z nm xs).Wd.Groups.length C10,.slice A11 (aC z nm xs).Wd.On.length C11,.slice A12 (aC z nm xs).Wd.Tapes.length C12,.int .i64 (aC z nm xs).Wd.Writes,.int .i64 (aC z nm xs).Wd.Stop,.bool (aC z nm xs).Wd.Down] (aC z nm xs)):=by
 have zK2:=zK;unfold Wld.Ok Shape.Ok at zK2
 try unfold I64ok at zK2
 try unfold maxLen at zK2
 have zL9:=sL zS9;obtain ⟨zF9,zO9⟩:=zS9;have zL10:=sL zS10;obtain ⟨zF10,zO10⟩:=zS10;have zL11:=sL zS11;obtain ⟨zF11,zO11⟩:=zS11;have xsL:=sL xsS;obtain ⟨xsF,xsO⟩:=xsS;refine aH (vs:=[z.val zA9 zC9 zA10 zC10 zA11 zC11,.string nm,.slice xsA xs.length xsC]) func35 Z ntmps35 Z (fun Q hQ hN=>?_);have H0:=Sep.start (w:=w) (F:=[seen false [.slice zA9 z.Groups.length zC9] z.Groups zF9,seen false [.slice zA10 z.On.length zC10] z.On zF10,seen false [.slice zA11 z.Tapes.length zC11] z.Tapes zF11,seen false [.slice xsA xs.length xsC] xs xsF]) (ae zO9 (ae zO10 (ae zO11 (ae xsO (by simp)))));refine ab (ba (wn Z) Z Z H0 (fun b1 w1 e1 g1 H1=>bI (wn Z) Z zeroValue36 H1 (fun b2 w2 e2 g2 H2=>aa (ac (ab (sV Z (ak aU Z cP Z Z (At.whole (H2.box 0 Z))) (sE func79 nQ Z (fS (by assumption) (H2.sees 0 Z) (H2.sees 1 Z) (H2.sees 2 Z)) H2 (fun w3 e3 H3=>sA Z Z (aa (ab (sR 2 Z (aa (au Z (fun c1=>?_) (fun c1=>?_))))))))))))))
 ·refine ab (sM Z Z (sV Z (b0 dX Z Z) (bc (wn Z) dD Z Z Z Z H3 1 Z Z (fun w4 e4 H4=>?_))));dsimp only[lNA,lCA,lSZ,lSS,aN] at H4;refine aa (bM (hQ _ _ (dp results35 Z (aL fi Z dD Z (At.whole (H4.box 1 Z))) ?_)));rw [aC,m0 (by omega)];exact ⟨H4.ext,none,0,none,0,none,0,Z,gh (by unfold I64ok; have:=nK (z:=z); (try dsimp only); omega)⟩
 ·refine aj (ac ?_);have hu:upF z=0:=by omega
  obtain ⟨hwf,hdn⟩:=jF hu;obtain ⟨hs,hG,hO⟩:=cI hwf;have hT:=(cI hwf).2.2.2.1;obtain ⟨hw0,hw1,_,_⟩:=fl hwf;have hrl:=mz hwf;have hrl2:=kV hwf;have hq:=gu hwf;have hn8:=ms aq;refine an (sV Z (ak aU Z cP Z Z (At.whole (H3.box 0 Z))) (sC func59 nN Z (ge (by assumption) (H3.sees 0 Z) (H3.sees 1 Z) (H3.sees 2 Z) (by first | assumption | omega)) (fun v2 w5 r2=>?_)));obtain ⟨e5,sa1,sk1,sa2,sk2,sa3,sk3,rfl,r2⟩:=r2;obtain ⟨fp1,H5⟩:=H3.res e5 r2;obtain ⟨sf1,sf2,sf3,sq1,sok1,so1,so2,so3⟩:=eq (H5.mine 2 Z);have H6:=H5.part 2 Z [mine [.slice _ z.Groups.length _] z.Groups sf1,mine [.slice _ z.On.length _] z.On sf2,mine [.slice _ z.Tapes.length _] z.Tapes sf3] (ae so1 (ae so2 (ae so3 (by simp)))) (by simp [blocks,mine,sq1])
  try dsimp only[lNA,lCA,lSZ,lSS] at H6
  refine bI (wn Z) Z zeroValue34 H6 (fun b3 w6 e6 g3 H7=>bc (wn Z) cP Z Z Z Z H7 6 Z Z (fun w7 e7 H8=>?_));dsimp only[lNA,lCA,lSZ,lSS,aN] at H8;refine aa (ab (sM Z Z (sM Z Z ?_)));obtain ⟨fp2,H9⟩:=H8.closeW 6 3 4 5 z Z Z Z Z Z Z Z Z Z Z zK
  try dsimp only[lNA,lCA,lSZ,lSS] at H9
  refine sC func99 nM Z (lu (H9.wldAt 6 Z) (H9.nodup1 (i:=6) Z) (aX (H9.seen 3 Z)) (fun b hb=>H9.off 3 Z 6 Z hb) (by first | assumption | omega) (by first | assumption | omega) (by first | assumption | omega) (by first | assumption | omega) (by first | assumption | omega) (by first | assumption | omega) (by first | assumption | omega) (by first | assumption | omega) (by first | assumption | omega) (by first | assumption | omega) (by first | assumption | omega) (by first | assumption | omega)) (fun v3 w8 r3=>?_);obtain ⟨rfl,mm1⟩:=r3;obtain ⟨fp3,H10⟩:=H9.mutW 6 Z mm1
  try dsimp only[lNA,lCA,lSZ,lSS] at H10
  refine sA Z Z (aa (ac ?_));obtain ⟨wA1,wC1,wA2,wC2,wA3,wC3,wf1,wf2,wf3,wok1,H11⟩:=H10.openW 6 Z
  try dsimp only[lNA,lCA,lSZ,lSS] at H11
  have wok1U:=wok1;unfold Wld.Ok Shape.Ok I64ok at wok1U;have wL1:=oL (H11.mine 8 Z);have wL2:=oL (H11.mine 9 Z);have wL3:=oL (H11.mine 10 Z);refine an (sV Z (ak aU Z cP Z Z (At.whole (H11.box 6 Z))) (sM Z Z (sE func61 nu Z (lw (by assumption) (H11.msees 8 Z) (H11.msees 9 Z) (H11.msees 10 Z) (by first | assumption | omega)) H11 (fun w9 e9 H12=>bc (wn Z) dD Z Z Z Z H12 1 Z Z (fun w10 e10 H13=>?_)))));dsimp only[lNA,lCA,lSZ,lSS,aN] at H13;refine aa (bM (hQ _ _ (dp results35 Z (aL fi Z dD Z (At.whole (H13.box 1 Z))) ?_)));rw [aC,wj hu aq hc];exact ⟨H13.ext,none,0,none,0,none,0,Z,gh (by unfold I64ok; have:=qG (z:=z) (nm:=nm) (xs:=xs); (try dsimp only); omega)⟩
theorem iX {w:World}{z:Wld}{zA9 zA10 zA11:Option Addr}{zC9 zC10 zC11:Nat}{nm:ByteArray}{xs:List UInt8}{xsA:Option Addr}{xsC:Nat}(zK:z.Ok) (zS9:Sees w [.slice zA9 z.Groups.length zC9] z.Groups) (zS10:Sees w [.slice zA10 z.On.length zC10] z.On) (zS11:Sees w [.slice zA11 z.Tapes.length zC11] z.Tapes) (xsS:Sees w [.slice xsA xs.length xsC] xs) (hb:dj z≤1048576) (hnm:nm.size≤1048576) (hxl:xs.length≤1048576) (aq:bg nm=0) (hc:puC z nm xs=0∨puC z nm xs=9):Ret Tryz.prog 35 #[z.val zA9 zC9 zA10 zC10 zA11 zC11,.string nm,.slice xsA xs.length xsC] w fun v w'=>Ext No w w'∧(∃ A10 C10 A11 C11 A12 C12,v=(aC z nm xs).val A10 C10 A11 C11 A12 C12∧Res w w' [.int .i64 (aC z nm xs).Code,.int .i64 (aC z nm xs).Wd.Shape.Groups,.int .i64 (aC z nm xs).Wd.Shape.Column,.int .i64 (aC z nm xs).Wd.Shape.Data,.int .i64 (aC z nm xs).Wd.Shape.Spare,.int .i64 (aC z nm xs).Wd.Shape.Rows,.int .i64 (aC z nm xs).Wd.Shape.Cap,.int .i64 (aC z nm xs).Wd.Shape.Batch,.int .i64 (aC z nm xs).Wd.Shape.Queue,.int .i64 (aC z nm xs).Wd.Shape.Stage,.slice A10 (aC z nm xs).Wd.Groups.length C10,.slice A11 (aC z nm xs).Wd.On.length C11,.slice A12 (aC z nm xs).Wd.Tapes.length C12,.int .i64 (aC z nm xs).Wd.Writes,.int .i64 (aC z nm xs).Wd.Stop,.bool (aC z nm xs).Wd.Down] (aC z nm xs)):=by
 have zK2:=zK;unfold Wld.Ok Shape.Ok at zK2
 try unfold I64ok at zK2
 try unfold maxLen at zK2
 have zL9:=sL zS9;obtain ⟨zF9,zO9⟩:=zS9;have zL10:=sL zS10;obtain ⟨zF10,zO10⟩:=zS10;have zL11:=sL zS11;obtain ⟨zF11,zO11⟩:=zS11;have xsL:=sL xsS;obtain ⟨xsF,xsO⟩:=xsS;refine aH (vs:=[z.val zA9 zC9 zA10 zC10 zA11 zC11,.string nm,.slice xsA xs.length xsC]) func35 Z ntmps35 Z (fun Q hQ hN=>?_);have H0:=Sep.start (w:=w) (F:=[seen false [.slice zA9 z.Groups.length zC9] z.Groups zF9,seen false [.slice zA10 z.On.length zC10] z.On zF10,seen false [.slice zA11 z.Tapes.length zC11] z.Tapes zF11,seen false [.slice xsA xs.length xsC] xs xsF]) (ae zO9 (ae zO10 (ae zO11 (ae xsO (by simp)))));refine ab (ba (wn Z) Z Z H0 (fun b1 w1 e1 g1 H1=>bI (wn Z) Z zeroValue36 H1 (fun b2 w2 e2 g2 H2=>aa (ac (ab (sV Z (ak aU Z cP Z Z (At.whole (H2.box 0 Z))) (sE func79 nQ Z (fS (by assumption) (H2.sees 0 Z) (H2.sees 1 Z) (H2.sees 2 Z)) H2 (fun w3 e3 H3=>sA Z Z (aa (ab (sR 2 Z (aa (au Z (fun c1=>?_) (fun c1=>?_))))))))))))))
 ·refine ab (sM Z Z (sV Z (b0 dX Z Z) (bc (wn Z) dD Z Z Z Z H3 1 Z Z (fun w4 e4 H4=>?_))));dsimp only[lNA,lCA,lSZ,lSS,aN] at H4;refine aa (bM (hQ _ _ (dp results35 Z (aL fi Z dD Z (At.whole (H4.box 1 Z))) ?_)));rw [aC,m0 (by omega)];exact ⟨H4.ext,none,0,none,0,none,0,Z,gh (by unfold I64ok; have:=nK (z:=z); (try dsimp only); omega)⟩
 ·refine aj (ac ?_);have hu:upF z=0:=by omega
  obtain ⟨hwf,hdn⟩:=jF hu;obtain ⟨hs,hG,hO⟩:=cI hwf;have hT:=(cI hwf).2.2.2.1;obtain ⟨hw0,hw1,_,_⟩:=fl hwf;have hrl:=mz hwf;have hrl2:=kV hwf;have hq:=gu hwf;have hn8:=ms aq;refine an (sV Z (ak aU Z cP Z Z (At.whole (H3.box 0 Z))) (sC func59 nN Z (ge (by assumption) (H3.sees 0 Z) (H3.sees 1 Z) (H3.sees 2 Z) (by first | assumption | omega)) (fun v2 w5 r2=>?_)));obtain ⟨e5,sa1,sk1,sa2,sk2,sa3,sk3,rfl,r2⟩:=r2;obtain ⟨fp1,H5⟩:=H3.res e5 r2;obtain ⟨sf1,sf2,sf3,sq1,sok1,so1,so2,so3⟩:=eq (H5.mine 2 Z);have H6:=H5.part 2 Z [mine [.slice _ z.Groups.length _] z.Groups sf1,mine [.slice _ z.On.length _] z.On sf2,mine [.slice _ z.Tapes.length _] z.Tapes sf3] (ae so1 (ae so2 (ae so3 (by simp)))) (by simp [blocks,mine,sq1])
  try dsimp only[lNA,lCA,lSZ,lSS] at H6
  refine bI (wn Z) Z zeroValue34 H6 (fun b3 w6 e6 g3 H7=>bc (wn Z) cP Z Z Z Z H7 6 Z Z (fun w7 e7 H8=>?_));dsimp only[lNA,lCA,lSZ,lSS,aN] at H8;refine aa (ab (sM Z Z (sM Z Z ?_)));obtain ⟨fp2,H9⟩:=H8.closeW 6 3 4 5 z Z Z Z Z Z Z Z Z Z Z zK
  try dsimp only[lNA,lCA,lSZ,lSS] at H9
  refine sC func99 nM Z (lu (H9.wldAt 6 Z) (H9.nodup1 (i:=6) Z) (aX (H9.seen 3 Z)) (fun b hb=>H9.off 3 Z 6 Z hb) (by first | assumption | omega) (by first | assumption | omega) (by first | assumption | omega) (by first | assumption | omega) (by first | assumption | omega) (by first | assumption | omega) (by first | assumption | omega) (by first | assumption | omega) (by first | assumption | omega) (by first | assumption | omega) (by first | assumption | omega) (by first | assumption | omega)) (fun v3 w8 r3=>?_);obtain ⟨rfl,mm1⟩:=r3;obtain ⟨fp3,H10⟩:=H9.mutW 6 Z mm1
  try dsimp only[lNA,lCA,lSZ,lSS] at H10
  refine sA Z Z (aa (ac ?_));obtain ⟨wA1,wC1,wA2,wC2,wA3,wC3,wf1,wf2,wf3,wok1,H11⟩:=H10.openW 6 Z
  try dsimp only[lNA,lCA,lSZ,lSS] at H11
  have wok1U:=wok1;unfold Wld.Ok Shape.Ok I64ok at wok1U;have wL1:=oL (H11.mine 8 Z);have wL2:=oL (H11.mine 9 Z);have wL3:=oL (H11.mine 10 Z);refine an (sV Z (ak aU Z cP Z Z (At.whole (H11.box 6 Z))) (sM Z Z (sE func61 nu Z (qD (by assumption) (H11.msees 8 Z) (H11.msees 9 Z) (H11.msees 10 Z) (by first | assumption | (split<;>simp))) H11 (fun w9 e9 H12=>bc (wn Z) dD Z Z Z Z H12 1 Z Z (fun w10 e10 H13=>?_)))));dsimp only[lNA,lCA,lSZ,lSS,aN] at H13;refine aa (bM (hQ _ _ (dp results35 Z (aL fi Z dD Z (At.whole (H13.box 1 Z))) ?_)));rw [aC,wH hu aq hc];exact ⟨H13.ext,_,_,_,_,_,_,Z,WldResult.out (x:=⟨puC z nm xs,puZ z nm xs⟩) (H13.sub (.cons _ (.cons _ (.cons _ (.cons _ (.cons _ (.cons _ (.cons _ (.cons _ (.cons_cons _ (.cons_cons _ (.cons_cons _ List.Sublist.slnil)))))))))))) ⟨(by have:=qG (z:=z) (nm:=nm) (xs:=xs); show I64ok (puC z nm xs); unfold I64ok; omega),(by assumption)⟩⟩
theorem kK {w:World}{z:Wld}{zA9 zA10 zA11:Option Addr}{zC9 zC10 zC11:Nat}{nm:ByteArray}{xs:List UInt8}{xsA:Option Addr}{xsC:Nat}(zK:z.Ok) (zS9:Sees w [.slice zA9 z.Groups.length zC9] z.Groups) (zS10:Sees w [.slice zA10 z.On.length zC10] z.On) (zS11:Sees w [.slice zA11 z.Tapes.length zC11] z.Tapes) (xsS:Sees w [.slice xsA xs.length xsC] xs) (hb:dj z≤1048576) (hnm:nm.size≤1048576) (hxl:xs.length≤1048576) (aq:bg nm=0):Ret Tryz.prog 35 #[z.val zA9 zC9 zA10 zC10 zA11 zC11,.string nm,.slice xsA xs.length xsC] w fun v w'=>Ext No w w'∧(∃ A10 C10 A11 C11 A12 C12,v=(aC z nm xs).val A10 C10 A11 C11 A12 C12∧Res w w' [.int .i64 (aC z nm xs).Code,.int .i64 (aC z nm xs).Wd.Shape.Groups,.int .i64 (aC z nm xs).Wd.Shape.Column,.int .i64 (aC z nm xs).Wd.Shape.Data,.int .i64 (aC z nm xs).Wd.Shape.Spare,.int .i64 (aC z nm xs).Wd.Shape.Rows,.int .i64 (aC z nm xs).Wd.Shape.Cap,.int .i64 (aC z nm xs).Wd.Shape.Batch,.int .i64 (aC z nm xs).Wd.Shape.Queue,.int .i64 (aC z nm xs).Wd.Shape.Stage,.slice A10 (aC z nm xs).Wd.Groups.length C10,.slice A11 (aC z nm xs).Wd.On.length C11,.slice A12 (aC z nm xs).Wd.Tapes.length C12,.int .i64 (aC z nm xs).Wd.Writes,.int .i64 (aC z nm xs).Wd.Stop,.bool (aC z nm xs).Wd.Down] (aC z nm xs)):=by
 by_cases h2:puC z nm xs=0∨puC z nm xs=9
 ·exact iX zK zS9 zS10 zS11 xsS hb hnm hxl aq h2
 ·exact iz zK zS9 zS10 zS11 xsS hb hnm hxl aq (by omega)
theorem jD {w:World}{z:Wld}{zA9 zA10 zA11:Option Addr}{zC9 zC10 zC11:Nat}{nm:ByteArray}{xs:List UInt8}{xsA:Option Addr}{xsC:Nat}(zK:z.Ok) (zS9:Sees w [.slice zA9 z.Groups.length zC9] z.Groups) (zS10:Sees w [.slice zA10 z.On.length zC10] z.On) (zS11:Sees w [.slice zA11 z.Tapes.length zC11] z.Tapes) (xsS:Sees w [.slice xsA xs.length xsC] xs) (hb:dj z≤1048576) (hnm:nm.size≤1048576) (hxl:xs.length≤1048576) (nq:bg nm≠0):Ret Tryz.prog 35 #[z.val zA9 zC9 zA10 zC10 zA11 zC11,.string nm,.slice xsA xs.length xsC] w fun v w'=>Ext No w w'∧(∃ A10 C10 A11 C11 A12 C12,v=(aC z nm xs).val A10 C10 A11 C11 A12 C12∧Res w w' [.int .i64 (aC z nm xs).Code,.int .i64 (aC z nm xs).Wd.Shape.Groups,.int .i64 (aC z nm xs).Wd.Shape.Column,.int .i64 (aC z nm xs).Wd.Shape.Data,.int .i64 (aC z nm xs).Wd.Shape.Spare,.int .i64 (aC z nm xs).Wd.Shape.Rows,.int .i64 (aC z nm xs).Wd.Shape.Cap,.int .i64 (aC z nm xs).Wd.Shape.Batch,.int .i64 (aC z nm xs).Wd.Shape.Queue,.int .i64 (aC z nm xs).Wd.Shape.Stage,.slice A10 (aC z nm xs).Wd.Groups.length C10,.slice A11 (aC z nm xs).Wd.On.length C11,.slice A12 (aC z nm xs).Wd.Tapes.length C12,.int .i64 (aC z nm xs).Wd.Writes,.int .i64 (aC z nm xs).Wd.Stop,.bool (aC z nm xs).Wd.Down] (aC z nm xs)):=by
 have zK2:=zK;unfold Wld.Ok Shape.Ok at zK2
 try unfold I64ok at zK2
 try unfold maxLen at zK2
 have zL9:=sL zS9;obtain ⟨zF9,zO9⟩:=zS9;have zL10:=sL zS10;obtain ⟨zF10,zO10⟩:=zS10;have zL11:=sL zS11;obtain ⟨zF11,zO11⟩:=zS11;have xsL:=sL xsS;obtain ⟨xsF,xsO⟩:=xsS;refine aH (vs:=[z.val zA9 zC9 zA10 zC10 zA11 zC11,.string nm,.slice xsA xs.length xsC]) func35 Z ntmps35 Z (fun Q hQ hN=>?_);have H0:=Sep.start (w:=w) (F:=[seen false [.slice zA9 z.Groups.length zC9] z.Groups zF9,seen false [.slice zA10 z.On.length zC10] z.On zF10,seen false [.slice zA11 z.Tapes.length zC11] z.Tapes zF11,seen false [.slice xsA xs.length xsC] xs xsF]) (ae zO9 (ae zO10 (ae zO11 (ae xsO (by simp)))));refine ab (ba (wn Z) Z Z H0 (fun b1 w1 e1 g1 H1=>bI (wn Z) Z zeroValue36 H1 (fun b2 w2 e2 g2 H2=>aa (ac (ab (sV Z (ak aU Z cP Z Z (At.whole (H2.box 0 Z))) (sE func79 nQ Z (fS (by assumption) (H2.sees 0 Z) (H2.sees 1 Z) (H2.sees 2 Z)) H2 (fun w3 e3 H3=>sA Z Z (aa (ab (sR 2 Z (aa (au Z (fun c1=>?_) (fun c1=>?_))))))))))))))
 ·refine ab (sM Z Z (sV Z (b0 dX Z Z) (bc (wn Z) dD Z Z Z Z H3 1 Z Z (fun w4 e4 H4=>?_))));dsimp only[lNA,lCA,lSZ,lSS,aN] at H4;refine aa (bM (hQ _ _ (dp results35 Z (aL fi Z dD Z (At.whole (H4.box 1 Z))) ?_)));rw [aC,m0 (by omega)];exact ⟨H4.ext,none,0,none,0,none,0,Z,gh (by unfold I64ok; have:=nK (z:=z); (try dsimp only); omega)⟩
 ·refine aj (ac ?_);have hu:upF z=0:=by omega
  obtain ⟨hwf,hdn⟩:=jF hu;obtain ⟨hs,hG,hO⟩:=cI hwf;have hT:=(cI hwf).2.2.2.1;obtain ⟨hw0,hw1,_,_⟩:=fl hwf;have hrl:=mz hwf;have hrl2:=kV hwf;have hq:=gu hwf;have n9:bg nm≠9:=by unfold bg; split<;>omega
  refine an (sV Z (ak aU Z cP Z Z (At.whole (H3.box 0 Z))) (sC func59 nN Z (ge (by assumption) (H3.sees 0 Z) (H3.sees 1 Z) (H3.sees 2 Z) (by first | assumption | omega)) (fun v2 w5 r2=>?_)));obtain ⟨e5,sa1,sk1,sa2,sk2,sa3,sk3,rfl,r2⟩:=r2;obtain ⟨fp1,H5⟩:=H3.res e5 r2;obtain ⟨sf1,sf2,sf3,sq1,sok1,so1,so2,so3⟩:=eq (H5.mine 2 Z);have H6:=H5.part 2 Z [mine [.slice _ z.Groups.length _] z.Groups sf1,mine [.slice _ z.On.length _] z.On sf2,mine [.slice _ z.Tapes.length _] z.Tapes sf3] (ae so1 (ae so2 (ae so3 (by simp)))) (by simp [blocks,mine,sq1])
  try dsimp only[lNA,lCA,lSZ,lSS] at H6
  refine bI (wn Z) Z zeroValue34 H6 (fun b3 w6 e6 g3 H7=>bc (wn Z) cP Z Z Z Z H7 6 Z Z (fun w7 e7 H8=>?_));dsimp only[lNA,lCA,lSZ,lSS,aN] at H8;refine aa (ab (sM Z Z (sM Z Z ?_)));obtain ⟨fp2,H9⟩:=H8.closeW 6 3 4 5 z Z Z Z Z Z Z Z Z Z Z zK
  try dsimp only[lNA,lCA,lSZ,lSS] at H9
  refine sC func99 nM Z (oO (H9.wldAt 6 Z) (H9.nodup1 (i:=6) Z) (aX (H9.seen 3 Z)) (fun b hb=>H9.off 3 Z 6 Z hb) (by first | assumption | omega) (by first | assumption | omega)) (fun v3 w8 r3=>?_);obtain ⟨rfl,mm1⟩:=r3;obtain ⟨fp3,H10⟩:=H9.mutW 6 Z mm1
  try dsimp only[lNA,lCA,lSZ,lSS] at H10
  refine sA Z Z (aa (ac ?_));obtain ⟨wA1,wC1,wA2,wC2,wA3,wC3,wf1,wf2,wf3,wok1,H11⟩:=H10.openW 6 Z
  try dsimp only[lNA,lCA,lSZ,lSS] at H11
  have wok1U:=wok1;unfold Wld.Ok Shape.Ok I64ok at wok1U;have wL1:=oL (H11.mine 8 Z);have wL2:=oL (H11.mine 9 Z);have wL3:=oL (H11.mine 10 Z);refine an (sV Z (ak aU Z cP Z Z (At.whole (H11.box 6 Z))) (sM Z Z (sE func61 nu Z (lw (by assumption) (H11.msees 8 Z) (H11.msees 9 Z) (H11.msees 10 Z) (by first | assumption | omega)) H11 (fun w9 e9 H12=>bc (wn Z) dD Z Z Z Z H12 1 Z Z (fun w10 e10 H13=>?_)))));dsimp only[lNA,lCA,lSZ,lSS,aN] at H13;refine aa (bM (hQ _ _ (dp results35 Z (aL fi Z dD Z (At.whole (H13.box 1 Z))) ?_)));rw [aC,qb hu nq];exact ⟨H13.ext,none,0,none,0,none,0,Z,gh (by unfold I64ok; have:=nf (nm:=nm); (try dsimp only); omega)⟩
theorem mZ {w:World}{z:Wld}{zA9 zA10 zA11:Option Addr}{zC9 zC10 zC11:Nat}{nm:ByteArray}{xs:List UInt8}{xsA:Option Addr}{xsC:Nat}(zK:z.Ok) (zS9:Sees w [.slice zA9 z.Groups.length zC9] z.Groups) (zS10:Sees w [.slice zA10 z.On.length zC10] z.On) (zS11:Sees w [.slice zA11 z.Tapes.length zC11] z.Tapes) (xsS:Sees w [.slice xsA xs.length xsC] xs) (hb:dj z≤1048576) (hnm:nm.size≤1048576) (hxl:xs.length≤1048576):Ret Tryz.prog 35 #[z.val zA9 zC9 zA10 zC10 zA11 zC11,.string nm,.slice xsA xs.length xsC] w fun v w'=>Ext No w w'∧(∃ A10 C10 A11 C11 A12 C12,v=(aC z nm xs).val A10 C10 A11 C11 A12 C12∧Res w w' [.int .i64 (aC z nm xs).Code,.int .i64 (aC z nm xs).Wd.Shape.Groups,.int .i64 (aC z nm xs).Wd.Shape.Column,.int .i64 (aC z nm xs).Wd.Shape.Data,.int .i64 (aC z nm xs).Wd.Shape.Spare,.int .i64 (aC z nm xs).Wd.Shape.Rows,.int .i64 (aC z nm xs).Wd.Shape.Cap,.int .i64 (aC z nm xs).Wd.Shape.Batch,.int .i64 (aC z nm xs).Wd.Shape.Queue,.int .i64 (aC z nm xs).Wd.Shape.Stage,.slice A10 (aC z nm xs).Wd.Groups.length C10,.slice A11 (aC z nm xs).Wd.On.length C11,.slice A12 (aC z nm xs).Wd.Tapes.length C12,.int .i64 (aC z nm xs).Wd.Writes,.int .i64 (aC z nm xs).Wd.Stop,.bool (aC z nm xs).Wd.Down] (aC z nm xs)):=by
 by_cases aq:bg nm=0
 ·exact kK zK zS9 zS10 zS11 xsS hb hnm hxl aq
 ·exact jD zK zS9 zS10 zS11 xsS hb hnm hxl aq
end Go.Wk
namespace Go.Wk
open Go.Proofs Rp Go.Proofs.Tryz
set_option maxRecDepth 10000
set_option maxHeartbeats 4000000 in
theorem iN {w:World}{z:Wld}{zA9 zA10 zA11:Option Addr}{zC9 zC10 zC11:Nat}{nm:ByteArray}{xs:List UInt8}{xsA:Option Addr}{xsC:Nat}(zK:z.Ok) (zS9:Sees w [.slice zA9 z.Groups.length zC9] z.Groups) (zS10:Sees w [.slice zA10 z.On.length zC10] z.On) (zS11:Sees w [.slice zA11 z.Tapes.length zC11] z.Tapes) (xsS:Sees w [.slice xsA xs.length xsC] xs):Ret Tryz.prog 8 #[z.val zA9 zC9 zA10 zC10 zA11 zC11,.string nm,.slice xsA xs.length xsC] w fun v w'=>Ext No w w'∧(v = .bool true):=by
 have zK2:=zK;unfold Wld.Ok Shape.Ok at zK2
 try unfold I64ok at zK2
 try unfold maxLen at zK2
 have zL9:=sL zS9;obtain ⟨zF9,zO9⟩:=zS9;have zL10:=sL zS10;obtain ⟨zF10,zO10⟩:=zS10;have zL11:=sL zS11;obtain ⟨zF11,zO11⟩:=zS11;have xsL:=sL xsS;obtain ⟨xsF,xsO⟩:=xsS;refine aH (vs:=[z.val zA9 zC9 zA10 zC10 zA11 zC11,.string nm,.slice xsA xs.length xsC]) func8 Z ntmps8 Z (fun Q hQ hN=>?_);have H0:=Sep.start (w:=w) (F:=[seen false [.slice zA9 z.Groups.length zC9] z.Groups zF9,seen false [.slice zA10 z.On.length zC10] z.On zF10,seen false [.slice zA11 z.Tapes.length zC11] z.Tapes zF11,seen false [.slice xsA xs.length xsC] xs xsF]) (ae zO9 (ae zO10 (ae zO11 (ae xsO (by simp)))));refine ab (ba (wn Z) Z Z H0 (fun b1 w1 e1 g1 H1=>sA Z Z (aa (ac (ab (sM Z Z (sV Z (jV tu9 Z) (sV Z (cV Z Z) (aa (au Z (fun c1=>?_) (fun c1=>?_)))))))))))
 ·refine ab (rA hQ results8 Z ?_);exact ⟨H1.ext,Z⟩
 ·refine aj (ac (ab (sM Z Z (sV Z (aB bi Z) (sV Z (cV Z Z) (aa (au Z (fun c2=>?_) (fun c2=>?_))))))))
  ·refine ab (rA hQ results8 Z ?_);exact ⟨H1.ext,Z⟩
  ·refine aj (ab (sA Z Z (aa (ab (sV Z (ak lR Z yp Z Z (At.whole (H1.box 0 Z))) (sM Z Z (sE func15 xk Z (mC (by assumption) (H1.sees 0 Z) (H1.sees 1 Z) (H1.sees 2 Z) (by omega)) H1 (fun w2 e2 H2=>sA Z Z (aa (ac (ab (sR 2 Z (aa (au Z (fun c3=>?_) (fun c3=>?_)))))))))))))))
   ·refine ab (rA hQ results8 Z ?_);exact ⟨H2.ext,Z⟩
   ·refine aj (ac ?_);have hsz:dj z≤1048576:=by omega
    have hmk:=zk z;have hml:=yv (z:=z) (nm:=nm) (xs:=xs) zK;have hOk:=yR (z:=z) (nm:=nm) (xs:=xs) zK;refine an (sV Z (ak lR Z yp Z Z (At.whole (H2.box 0 Z))) (sC func17 kS Z (eF (by assumption) (H2.sees 0 Z) (H2.sees 1 Z) (H2.sees 2 Z) (by assumption)) (fun v2 w3 r2=>?_)));obtain ⟨e3,sa1,sk1,sa2,sk2,sa3,sk3,rfl,r2⟩:=r2;obtain ⟨fp1,H3⟩:=H2.res e3 r2;have H4:=H3.share 1 Z;obtain ⟨sf1,sf2,sf3,sq1,sok1,so1,so2,so3⟩:=eq (H4.seen 4 Z);have H6:=H4.look1 4 Z so1 (fun b hb=>by rw [sq1]; simp [hb]);have H7:=H6.look1 4 Z so2 (fun b hb=>by rw [sq1]; simp [hb]);have H8:=H7.look1 4 Z so3 (fun b hb=>by rw [sq1]; simp [hb]);refine sR 2 Z (sC func36 gb Z (cE (H8.sees 3 Z) (by omega)) (fun v3 w4 r3=>?_));obtain ⟨e4,r3⟩:=r3;obtain ⟨fp2,H9⟩:=H8.res e4 r3;obtain ⟨a1,k1,q1⟩:=az (H9.mine 2 Z);cases q1;refine sC func35 xR Z (mZ (by assumption) (H9.sees 5 Z) (H9.sees 6 Z) (H9.sees 7 Z) (H9.msees 2 Z) (by first | assumption | omega) (by first | assumption | omega) (by first | assumption | omega)) (fun v4 w5 r4=>?_);obtain ⟨e5,sa4,sk4,sa5,sk5,sa6,sk6,rfl,r4⟩:=r4;obtain ⟨fp3,H10⟩:=H9.res e5 r4;have H11:=H10.share 3 Z;obtain ⟨sf4,sf5,sf6,sq2,sok2,so4,so5,so6⟩:=dO (H11.seen 8 Z);have H13:=H11.look1 8 Z so4 (fun b hb=>by rw [sq2]; simp [hb]);have H14:=H13.look1 8 Z so5 (fun b hb=>by rw [sq2]; simp [hb]);have H15:=H14.look1 8 Z so6 (fun b hb=>by rw [sq2]; simp [hb]);refine bI (wn Z) Z zeroValue36 H15 (fun b2 w6 e6 g2 H16=>bc (wn Z) dD Z Z Z Z H16 4 Z Z (fun w7 e7 H17=>?_));dsimp only[lNA,lCA,lSZ,lSS,aN] at H17;refine aa (ab (sV Z (ak lR Z yp Z Z (At.whole (H17.box 0 Z))) (sC func17 kS Z (eF (by assumption) (H17.sees 0 Z) (H17.sees 1 Z) (H17.sees 2 Z) (by assumption)) (fun v5 w8 r5=>?_))));obtain ⟨e8,sa7,sk7,sa8,sk8,sa9,sk9,rfl,r5⟩:=r5;obtain ⟨fp4,H18⟩:=H17.res e8 r5;refine bI (wn Z) Z zeroValue34 H18 (fun b3 w9 e9 g3 H19=>bc (wn Z) cP Z Z Z Z H19 6 Z Z (fun w10 e10 H20=>?_));dsimp only[lNA,lCA,lSZ,lSS,aN] at H20;refine aa (ab (sM Z Z (sC func36 gb Z (cE (H20.sees 3 Z) (by omega)) (fun v6 w11 r6=>?_))));obtain ⟨e11,r6⟩:=r6;obtain ⟨fp5,H21⟩:=H20.res e11 r6;obtain ⟨a2,k2,q2⟩:=az (H21.mine 7 Z);cases q2;refine sA Z Z (aa (ab (sV Z (ak aU Z cP Z Z (At.whole (H21.box 6 Z))) (sR 2 Z (sC func37 rQ Z (iH (by assumption) (Wld.see9 (H21.mine 5 Z)) (Wld.see10 (H21.mine 5 Z)) (Wld.see11 (H21.mine 5 Z)) (H21.msees 7 Z) (by first | assumption | omega) (by first | assumption | omega) (by first | assumption | omega)) (fun v7 w12 r7=>?_))))));obtain ⟨e12,sa10,sk10,sa11,sk11,sa12,sk12,rfl,r7⟩:=r7;obtain ⟨fp6,H22⟩:=H21.res e12 r7;refine bI (wn Z) Z zeroValue36 H22 (fun b4 w13 e13 g4 H23=>bc (wn Z) dD Z Z Z Z H23 9 Z Z (fun w14 e14 H24=>?_));dsimp only[lNA,lCA,lSZ,lSS,aN] at H24;refine aa (ac (ab (sV Z (ak fi Z dD Z Z (At.whole (H24.box 9 Z))) (sV Z (ak fi Z dD Z Z (At.whole (H24.box 4 Z))) (sE func19 nV Z (dP (by assumption) (WldResult.see10 (H24.mine 8 Z)) (WldResult.see11 (H24.mine 8 Z)) (WldResult.see12 (H24.mine 8 Z)) (by assumption) (H24.sees 9 Z) (H24.sees 10 Z) (H24.sees 11 Z)) H24 (fun w15 e15 H25=>sV Z (aZ Z) (aa (bL Z (fun c4=>?_) (fun c4=>?_)))))))))
    ·exfalso; simp_all
    ·refine aj (ac (ac (bz (S:=Ext No _) (oQ [1,3,4,6,8]) (by kernel_rfl) (by kernel_rfl) (by kernel_rfl) Z (fun _=>Ext.refl.drawn _) (fun q3=>?_))));have H26:=H25.drawn q3;refine dV Z Z (fun zw hx=>ak aU Z cP Z Z (At.whole (hx.heap (H26.box 6 Z)))) (dV Z Z (fun zw hx=>ak lR Z yp Z Z (At.whole (hx.heap (H26.box 0 Z)))) (dC func17 kS Z (eF (by assumption) (H26.sees 0 Z) (H26.sees 1 Z) (H26.sees 2 Z) (by assumption)) (fun v9 w16 r9=>?_)));obtain ⟨e16,sa13,sk13,sa14,sk14,sa15,sk15,rfl,r9⟩:=r9;obtain ⟨fp7,H27⟩:=H26.res e16 r9;have H28:=H27.share 10 Z;obtain ⟨sf7,sf8,sf9,sq3,sok3,so7,so8,so9⟩:=eq (H28.seen 12 Z);have H30:=H28.look1 12 Z so7 (fun b hb=>by rw [sq3]; simp [hb]);have H31:=H30.look1 12 Z so8 (fun b hb=>by rw [sq3]; simp [hb]);have H32:=H31.look1 12 Z so9 (fun b hb=>by rw [sq3]; simp [hb]);refine dC func20 qT Z (iA (by assumption) (Wld.see9 (H32.mine 5 Z)) (Wld.see10 (H32.mine 5 Z)) (Wld.see11 (H32.mine 5 Z)) (by assumption) (H32.sees 13 Z) (H32.sees 14 Z) (H32.sees 15 Z)) (fun v10 w17 r10=>?_);obtain ⟨e17,rfl⟩:=r10;have H33:=H32.to e17;refine aR Z (wn Z) Z Z (aZ Z) (aS (bL Z (fun c5=>?_) (fun c5=>?_)))
     ·exfalso; simp_all
     ·refine aj (ac (ab (sR 2 Z (sC func36 gb Z (cE (H33.sees 3 Z) (by omega)) (fun v11 w18 r11=>?_)))));obtain ⟨e18,r11⟩:=r11;obtain ⟨fp8,H34⟩:=H33.res e18 r11;obtain ⟨a3,k3,q4⟩:=az (H34.mine 11 Z);cases q4;refine sE func38 kN Z (eE (H34.msees 7 Z) (H34.msees 11 Z)) H34 (fun w19 e19 H35=>sV Z (aZ Z) (aa (bL Z (fun c6=>?_) (fun c6=>?_))))
      ·exfalso; simp_all
      ·refine aj (ab (sA Z Z (aa (ab (sV Z (ak aU Z cP Z Z (At.whole (H35.box 6 Z))) (sM Z Z (sC func21 rn Z (gM (by assumption) (H35.mine 5 Z) (H35.nodup1 (i:=5) Z) (by constructor<;>omega)) (fun v13 w20 r13=>?_))))))));obtain ⟨rfl,mx1,mm1,ml1⟩:=r13;obtain ⟨fp9,H36⟩:=H35.mut 5 Z mm1
       try dsimp only[lNA,lCA,lSZ,lSS] at H36
       refine sA Z Z (aa (ab (sR 2 Z (sC func39 kT Z (dL (H36.mine 7 Z) (H36.nodup1 (i:=7) Z) (by constructor<;>omega)) (fun v14 w21 r14=>?_)))));obtain ⟨rfl,mx2,mm2,ml2,mk1⟩:=r14;obtain ⟨fp10,H37⟩:=H36.mut 7 Z mm2
       try dsimp only[lNA,lCA,lSZ,lSS] at H37
       refine sA Z Z (aa (ac (ab (sR 3 Z (bD 4 (j:=2) (want:=false) (t:=67) Z Z Z Z (fun hg1 kk1=>am (wgE Z Z Z hg1) Z Z (ak fi Z dD Z Z (At.whole (H37.box 9 Z))) (am (wgE Z Z Z hg1) Z Z (ak fi Z dD Z Z (At.whole (H37.box 4 Z))) (cw (wgE Z Z Z hg1) Z Z (aW func19 Z nV Z) (dP (by assumption) (WldResult.see10 (H37.mine 8 Z)) (WldResult.see11 (H37.mine 8 Z)) (WldResult.see12 (H37.mine 8 Z)) (by assumption) (H37.sees 9 Z) (H37.sees 10 Z) (H37.sees 11 Z)) (fun w23 e23=>am (wgE Z Z Z hg1) Z Z (aZ Z) (kk1 _ _ (kx Z (kx Z (kx Z (kx Z k0)))) Z (Ext.refl.trans e23)))))) (fun w22 e22=>?_))))));have H38:=H37.to e22;refine sV Z (ez Z Z) (aa (bL Z (fun c7=>?_) (fun c7=>?_)))
       ·exact absurd c7 (by simp; omega)
       ·refine aj (ab (sA Z Z (aa (ab (sV Z (ak fi Z dD Z Z (At.whole (H38.box 9 Z))) (sM Z Z (sC func22 xz Z (iw (H38.mine 8 Z) (H38.nodup1 (i:=8) Z) (by constructor<;>omega)) (fun v15 w24 r15=>?_))))))));obtain ⟨rfl,mx3,mm3,ml3⟩:=r15;obtain ⟨fp11,H39⟩:=H38.mut 8 Z mm3
        try dsimp only[lNA,lCA,lSZ,lSS] at H39
        refine sA Z Z (aa (ab (sA Z Z (aa (ab (sV Z (ak fi Z dD Z Z (At.whole (H39.box 9 Z))) (sM Z Z (sE func23 rc Z (eQ (x:=mx3) (nT (H39.mine 8 Z)).1 (nT (H39.mine 8 Z)).2.1 (nT (H39.mine 8 Z)).2.2 (by have:=ml3.2.2.2.1; constructor<;>omega) ml3.2.2.2.2.1) H39 (fun w25 e25 H40=>sA Z Z (aa (ac (ac ?_))))))))))));have hq:=ml3.2.2.2.1;refine an (sR 2 Z (aa (au Z (fun c8=>?_) (fun c8=>?_))))
        ·exact absurd c8 (by omega)
        ·refine aj (ac (ab (sR 3 Z (aa (au Z (fun c9=>?_) (fun c9=>?_))))))
         ·exact absurd c9 (by omega)
         ·refine aj (ab (sV Z (ak lR Z yp Z Z (At.whole (H40.box 0 Z))) (sC func17 kS Z (eF (by assumption) (H40.sees 0 Z) (H40.sees 1 Z) (H40.sees 2 Z) (by assumption)) (fun v17 w26 r17=>?_))));obtain ⟨e26,sa16,sk16,sa17,sk17,sa18,sk18,rfl,r17⟩:=r17;obtain ⟨fp12,H41⟩:=H40.res e26 r17;have H42:=H41.share 12 Z;obtain ⟨sf10,sf11,sf12,sq4,sok4,so10,so11,so12⟩:=eq (H42.seen 16 Z);have H44:=H42.look1 16 Z so10 (fun b hb=>by rw [sq4]; simp [hb]);have H45:=H44.look1 16 Z so11 (fun b hb=>by rw [sq4]; simp [hb]);have H46:=H45.look1 16 Z so12 (fun b hb=>by rw [sq4]; simp [hb]);refine sR 2 Z (sC func36 gb Z (cE (H46.sees 3 Z) (by omega)) (fun v18 w27 r18=>?_));obtain ⟨e27,r18⟩:=r18;obtain ⟨fp13,H47⟩:=H46.res e27 r18;obtain ⟨a4,k4,q5⟩:=az (H47.mine 13 Z);cases q5;refine sC func37 rQ Z (iH (by assumption) (H47.sees 17 Z) (H47.sees 18 Z) (H47.sees 19 Z) (H47.msees 13 Z) (by first | assumption | omega) (by first | assumption | omega) (by first | assumption | omega)) (fun v19 w28 r19=>?_);obtain ⟨e28,sa19,sk19,sa20,sk20,sa21,sk21,rfl,r19⟩:=r19;obtain ⟨fp14,H48⟩:=H47.res e28 r19;have H49:=H48.share 14 Z;obtain ⟨sf13,sf14,sf15,sq5,sok5,so13,so14,so15⟩:=dO (H49.seen 20 Z);have H51:=H49.look1 20 Z so13 (fun b hb=>by rw [sq5]; simp [hb]);have H52:=H51.look1 20 Z so14 (fun b hb=>by rw [sq5]; simp [hb]);have H53:=H52.look1 20 Z so15 (fun b hb=>by rw [sq5]; simp [hb]);refine bI (wn Z) Z zeroValue36 H53 (fun b5 w29 e29 g5 H54=>bc (wn Z) dD Z Z Z Z H54 15 Z Z (fun w30 e30 H55=>?_));dsimp only[lNA,lCA,lSZ,lSS,aN] at H55;refine aa (ac (ab (sV Z (ak fi Z dD Z Z (At.whole (H55.box 15 Z))) (sV Z (ak fi Z dD Z Z (At.whole (H55.box 4 Z))) (sE func19 nV Z (dP (by assumption) (H55.sees 21 Z) (H55.sees 22 Z) (H55.sees 23 Z) (by assumption) (H55.sees 9 Z) (H55.sees 10 Z) (H55.sees 11 Z)) H55 (fun w31 e31 H56=>sV Z (aZ Z) (aa (bL Z (fun c10=>?_) (fun c10=>?_)))))))))
          ·exfalso; simp_all
          ·refine aj (ab (sA Z Z (aa (ab (sV Z (ak fi Z dD Z Z (At.whole (H56.box 9 Z))) (sM Z Z (sE func23 rc Z (eQ (x:=mx3) (nT (H56.mine 8 Z)).1 (nT (H56.mine 8 Z)).2.1 (nT (H56.mine 8 Z)).2.2 (by have:=ml3.2.2.2.1; constructor<;>omega) ml3.2.2.2.2.1) H56 (fun w32 e32 H57=>sA Z Z (aa (ac (ab (sR 2 Z (aa (au Z (fun c11=>?_) (fun c11=>?_)))))))))))))))
           ·exact absurd c11 (by omega)
           ·refine aj (ac (ab (sR 3 Z (aa (au Z (fun c12=>?_) (fun c12=>?_))))))
            ·exact absurd c12 (by omega)
            ·refine aj (ab (rA hQ results8 Z ?_));exact ⟨H57.ext,Z⟩
end Go.Wk
