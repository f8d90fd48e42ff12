/-
  Laws on walking, and the functions walked, each once: what this claim comes to.
-/
import Derived.Test.YtlbpcbdlcdbioaaGreatZA5
set_option linter.unusedVariables false
set_option linter.unusedSimpArgs false
namespace Go.Wk
open Rp (sz own)
section
variable {xs:List Int}{x m:Int}
theorem wS (h:∀ i,i+1<xs.length→xs.getD i 0<xs.getD (i+1) 0):∀ {i j},i<j→j<xs.length→xs.getD i 0<xs.getD j 0:=by
  intro i j hij hj
  induction j with
  | zero=>omega
  | succ j ih=>
    by_cases e:i=j
    · subst e; exact h i hj
    · exact Int.lt_trans (ih (by omega) (by omega)) (h j hj)
theorem oE (h:rises xs m=true) (i:Nat) (hi:i+1<xs.length):xs.getD i 0<xs.getD (i+1) 0:=by
  rw [rises,List.all_eq_true] at h
  have:=h (i+1) (by simpa using hi)
  unfold fh at this
  simp only [Bool.and_eq_true,Bool.or_eq_true,decide_eq_true_eq,Nat.add_sub_cancel] at this
  rcases this.2 with q | q
  · omega
  · exact q
theorem Ek (h:∀ i j,i<j→j<xs.length→xs.getD i 0<xs.getD j 0):Ord iLt id xs:=by
  induction xs with
  | nil=>exact .nil
  | cons a l ih=>
    refine .cons (fun y hy=>?_) (ih fun i j h1 h2=>?_)
    · obtain ⟨k,hk,e⟩:=List.getElem_of_mem hy
      have:=h 0 (k+1) (by omega) (by simpa using hk)
      have e2:(a::l).getD (k+1) 0=y:=by rw [List.getD_cons_succ,bP hk,e]
      rw [e2] at this
      unfold iLt
      simp only [id,List.getD_cons_zero] at this ⊢
      omega
    · have:=h (i+1) (j+1) (by omega) (by simpa using h2)
      simpa using this
theorem rg (h:rises xs m=true):Ord iLt id xs:=Ek fun _ _=>wS (oE h)
theorem BH (h:rises xs m=true):xs.Pairwise (· < ·):=by
  rw [List.pairwise_iff_getElem]
  intro i j hi hj hij
  have:=wS (oE h) hij hj
  rwa [bP hi,bP hj] at this
theorem Bz (h:xs.Pairwise (· < ·)) (hb:∀ y∈xs,0≤y∧y≤m):rises xs m=true:=by
  refine np fun i hi=>?_
  have h1:=hb (xs.getD i 0) (by rw [bP hi]; exact List.getElem_mem _)
  unfold fh
  rw [decide_eq_true h1.1,decide_eq_true h1.2,Bool.true_and,Bool.true_and,Bool.or_eq_true,decide_eq_true_eq,decide_eq_true_eq]
  by_cases e:i=0
  · exact .inl e
  · refine .inr ?_
    have:=List.pairwise_iff_getElem.1 h (i-1) i (by omega) hi (by omega)
    rw [bP (by omega),bP hi]; exact this
theorem vQ (ho:Ord iLt id xs):∃ A B,xs=A++B∧kG xs x=A++x::B∧(∀ y∈A,¬ x<y)∧∀ y∈B,x<y:=by
  rcases rH (x:=x) ho (k:=xs.length) (Nat.le_refl _) with ⟨h1,h2,h3⟩ | ⟨h1,A,B,h2,h3,h4,h5,_⟩
  · rw [List.take_length] at h2 h3
    exact ⟨xs,[],by simp,by rw [xp h1,h2],h3,by simp⟩
  · rw [List.take_length] at h2
    exact ⟨A,B,h2,by rw [tm h1,h3],h4,h5⟩
theorem CQ (ho:Ord iLt id xs) {y:Int}:y∈kG xs x↔y∈xs∨y=x:=by
  obtain ⟨A,B,h1,h2,_,_⟩:=vQ (x:=x) ho
  rw [h2,h1]
  simp only [List.mem_append,List.mem_cons]
  constructor
  · rintro (h | h | h)
    · exact .inl (.inl h)
    · exact .inr h
    · exact .inl (.inr h)
  · rintro ((h | h) | h)
    · exact .inl h
    · exact .inr (.inr h)
    · exact .inr (.inl h)
theorem DJ (h:rises xs m=true) (hx:0≤x∧x≤m) (hn:x ∉ xs):rises (kG xs x) m=true:=by
  have ho:=rg h
  refine Bz ?_ fun y hy=>?_
  · obtain ⟨A,B,h1,h2,h3,h4⟩:=vQ (x:=x) ho
    have hp:=BH h
    rw [h1,List.pairwise_append] at hp
    rw [h2,List.pairwise_append]
    refine ⟨hp.1,List.pairwise_cons.2 ⟨h4,hp.2.1⟩,fun a ha b hb=>?_⟩
    have h5:a<x:=by
      have h6:=h3 a ha
      have h7:a≠x:=fun e=>hn (by rw [h1,← e]; exact List.mem_append_left _ ha)
      omega
    rcases List.mem_cons.1 hb with rfl | hb
    · exact h5
    · exact hp.2.2 a ha b hb
  · rcases (CQ ho).1 hy with hy | rfl
    · obtain ⟨i,hi,e⟩:=List.getElem_of_mem hy
      have:=lq h i hi
      rwa [bP hi,e] at this
    · exact hx
end
noncomputable def gvD (z:Wld) (f g row:Int):UInt8:=(opR z g row).Delta.getD f.toNat 0
noncomputable def gR (z:Wld) (f g row:Int):Bool:=kI z g row && (!decide ((gvD z f g row).toNat=0) && !decide (f∈(opR z g row).Rows))
noncomputable def gvR (z:Wld) (f g row:Int):Rec:=⟨(opR z g row).Kind,(opR z g row).Seq,(opR z g row).Name,(opR z g row).Length,(opR z g row).Group,(opR z g row).Row,kG (opR z g row).Rows f,fU (opR z g row).Data (ct (mX z f row) (gvD z f g row)),(opR z g row).Delta⟩
noncomputable def gvC (z:Wld) (f g row:Int):Int:=if gR z f g row=true then nxC z (gvR z f g row) else 0
noncomputable def gvZ (z:Wld) (f g row:Int):Wld:=if gR z f g row=true then nxZ z (gvR z f g row) else z
section
variable {z:Wld}{f g row:Int}
theorem Hf (h:gR z f g row=false):gvC z f g row=0∧gvZ z f g row=z:=⟨if_neg (by simp [h]),if_neg (by simp [h])⟩
theorem IM (h:gR z f g row=true):gvC z f g row=nxC z (gvR z f g row)∧gvZ z f g row=nxZ z (gvR z f g row):=⟨if_pos h,if_pos h⟩
theorem Hu:0≤gvC z f g row∧gvC z f g row≤9:=by
  unfold gvC
  have:=Hs (z:=z) (r:=gvR z f g row)
  split<;>omega
def RecsOK (z:Wld):Prop:=AllR (fun r=>fO z.Shape r=0) z
theorem Cz (h:gR z f g row=true):kI z g row=true∧(gvD z f g row).toNat≠0∧f ∉ (opR z g row).Rows:=by
  unfold gR at h
  simp only [Bool.and_eq_true,Bool.not_eq_true',decide_eq_false_iff_not] at h
  exact ⟨h.1,h.2.1,h.2.2⟩
theorem ma (hA:RecsOK z) (h:kI z g row=true):fO z.Shape (opR z g row)=0:=AllR.cnt hA (G1 (CV h))
theorem lP (h:fO z.Shape (opR z g row)=0) (hk:(opR z g row).Kind=4):ins (opR z g row).Group 0 (z.Shape.Groups+z.Shape.Column-1)=true∧ins (opR z g row).Row 0 (z.Shape.Rows-1)=true∧rises (opR z g row).Rows (z.Shape.Groups+z.Shape.Column-1)=true∧((opR z g row).Data.length:Int)=z.Shape.Data*4∧weightsOK z.Shape (opR z g row)=true:=by
  have h1:=ug h hk
  unfold cY at h1
  simp only [Bool.and_eq_true,decide_eq_true_eq] at h1
  exact ⟨h1.1.1.1.1,h1.1.1.1.2,h1.1.1.2,h1.1.2,h1.2⟩
theorem xe (hs:z.Shape.ok=true) (hG:bD z=true) (hf:ins f 0 (z.Shape.Groups+z.Shape.Column-1)=true) (hd:eQ z f=false) (hA:RecsOK z) (h:gR z f g row=true):((gvR z f g row).Data.length:Int)=z.Shape.Data*4∧(opR z g row).Data.length=(ct (mX z f row) (gvD z f g row)).length:=by
  obtain ⟨h1,_,_⟩:=Cz h
  obtain ⟨hk,_,hrw⟩:=kt h1
  obtain ⟨_,d2,_,d4,_⟩:=lP (ma hA h1) hk
  rw [hrw] at d2
  have hl:=yD hs hG hf d2 hd
  have e:(opR z g row).Data.length=(ct (mX z f row) (gvD z f g row)).length:=by rw [dD]; omega
  refine ⟨?_,e⟩
  show ((fU (opR z g row).Data (ct (mX z f row) (gvD z f g row))).length:Int)=_
  rw [fL (by omega)]; exact d4
theorem xZ (hs:z.Shape.ok=true) (hG:bD z=true) (hf:ins f 0 (z.Shape.Groups+z.Shape.Column-1)=true) (hd:eQ z f=false) (hA:RecsOK z) (h:gR z f g row=true):cY z.Shape (gvR z f g row)=true:=by
  obtain ⟨h1,h2,h3⟩:=Cz h
  obtain ⟨hk,_,hrw⟩:=kt h1
  obtain ⟨d1,d2,d3,d4,d5⟩:=lP (ma hA h1) hk
  have hfi:=bQ.1 hf
  have h6:=(xe hs hG hf hd hA h).1
  have ho:=rg d3
  unfold cY
  simp only [Bool.and_eq_true,decide_eq_true_eq]
  refine ⟨⟨⟨⟨d1,d2⟩,DJ d3 hfi h3⟩,h6⟩,?_⟩
  unfold weightsOK at d5 ⊢
  simp only [Bool.and_eq_true,decide_eq_true_eq] at d5 ⊢
  refine ⟨d5.1,?_⟩
  rw [List.all_eq_true]
  intro i hi
  have hi2:i<(kG (opR z g row).Rows f).length:=List.mem_range.1 hi
  rw [decide_eq_true_eq]
  show ¬ (((opR z g row).Delta.getD ((kG (opR z g row).Rows f).getD i 0).toNat 0).toNat:Int)=0
  have hm:(kG (opR z g row).Rows f).getD i 0∈kG (opR z g row).Rows f:=by rw [bP hi2]; exact List.getElem_mem _
  rcases (CQ ho).1 hm with hm | hm
  · obtain ⟨j,hj,e⟩:=List.getElem_of_mem hm
    have:=List.all_eq_true.1 d5.2 j (by simpa using hj)
    rw [decide_eq_true_eq,bP hj,e] at this
    exact this
  · rw [hm]
    intro q
    exact h2 (by unfold gvD; omega)
theorem lF {s:Shape}{r:Rec}(h:fO s r=0):ins r.Kind 1 4=true∧bareOK r=true:=by
  cases hk:ins r.Kind 1 4 with
  | false=>rw [nr hk] at h; exact absurd h (by omega)
  | true=>
    refine ⟨rfl,?_⟩
    cases hq:ins r.Seq 1 1000000000 with
    | false=>rw [p3 hk hq] at h; exact absurd h (by omega)
    | true=>
      by_cases h3:fv s r=0
      · cases hb:bareOK r with
        | true=>rfl
        | false=>rw [jx hk hq h3 hb] at h; exact absurd h (by omega)
      · rw [er hk hq h3] at h; exact absurd h h3
theorem GW (hs:z.Shape.ok=true) (hG:bD z=true) (hf:ins f 0 (z.Shape.Groups+z.Shape.Column-1)=true) (hd:eQ z f=false) (hA:RecsOK z) (h:gR z f g row=true) {q:Int}(hq:1≤q∧q≤1000000000):fO z.Shape (mr (gvR z f g row) q)=0:=by
  obtain ⟨h1,_,_⟩:=Cz h
  obtain ⟨hk,_,_⟩:=kt h1
  obtain ⟨p1,p2⟩:=lF (ma hA h1)
  have hsh:=xZ hs hG hf hd hA h
  have hk2:(mr (gvR z f g row) q).Kind=4:=hk
  refine nD (by rw [hk2]; decide) (bQ.2 hq) ?_ ?_
  · rw [dP hk2,if_pos]
    exact hsh
  · unfold bareOK at p2 ⊢
    rw [if_neg (by omega),if_neg (by omega),if_neg (by omega)] at p2
    rw [if_neg (by omega),if_neg (by omega),if_neg (by omega)]
    exact p2
end
end Go.Wk
namespace Go.Wk
def zW (l:List Int) (j:Nat):List Int:=(l.set j (l.getD (j-1) 0)).set (j-1) (l.getD j 0)
def SoI (xs l:List Int) (i:Nat):Prop:=l.Perm xs∧∀ p q,p<q→q<i→l.getD p 0≤l.getD q 0
def InI (xs l:List Int) (i j:Nat):Prop:=l.Perm xs∧j≤i∧(∀ p q,p<q→q≤i→p≠j→q≠j→l.getD p 0≤l.getD q 0)∧∀ q,j<q→q≤i→l.getD j 0<l.getD q 0
section
variable {xs l:List Int}{i j:Nat}
theorem EE (h:0<j) (h2:j<l.length) (q:Nat):(zW l j).getD q 0=if q=j-1 then l.getD j 0 else if q=j then l.getD (j-1) 0 else l.getD q 0:=by
  unfold zW
  rw [dj,dj,List.length_set]
  by_cases c1:q=j-1
  · rw [if_pos ⟨c1,by omega⟩,if_pos c1]
  · rw [if_neg (fun h=>c1 h.1),if_neg c1]
    by_cases c2:q=j
    · rw [if_pos ⟨c2,h2⟩,if_pos c2]
    · rw [if_neg (fun h=>c2 h.1),if_neg c2]
theorem za:(zW l j).length=l.length:=by unfold zW; rw [List.length_set,List.length_set]
theorem Ds (h:0<j) (h2:j<l.length):(zW l j).Perm l:=by
  unfold zW
  have e1:l.getD (j-1) 0=l[j-1]'(by omega):=bP (by omega)
  have e2:l.getD j 0=l[j]:=bP h2
  rw [e1,e2]
  exact List.set_set_perm h2 (by omega)
theorem Dp:SoI xs xs 1:=⟨.refl _,fun p q h1 h2=>by omega⟩
theorem D1 (h:SoI xs l i):InI xs l i i:=⟨h.1,Nat.le_refl _,fun p q h1 h2 h3 h4=>h.2 p q h1 (by omega),fun q h1 h2=>by omega⟩
theorem zm (h:InI xs l i j) (h1:0<j) (h2:i<l.length) (hc:l.getD j 0<l.getD (j-1) 0):InI xs (zW l j) i (j-1):=by
  obtain ⟨e1,e2,e3,e4⟩:=h
  have hg:=EE (l:=l) h1 (by omega)
  refine ⟨(Ds h1 (by omega)).trans e1,by omega,fun p q a b c d=>?_,fun q a b=>?_⟩
  · rw [hg,hg,if_neg c,if_neg d]
    by_cases c1:p=j
    · rw [if_pos c1,if_neg (by omega)]; exact e3 (j-1) q (by omega) b (by omega) (by omega)
    · rw [if_neg c1]
      by_cases c2:q=j
      · rw [if_pos c2]; exact e3 p (j-1) (by omega) (by omega) c1 (by omega)
      · rw [if_neg c2]; exact e3 p q a b c1 c2
  · rw [hg,hg,if_pos rfl,if_neg (by omega)]
    by_cases c2:q=j
    · rw [if_pos c2]; exact hc
    · rw [if_neg c2]; exact e4 q (by omega) b
theorem C5 (h:InI xs l i j) (hc:j=0∨¬ l.getD j 0<l.getD (j-1) 0):SoI xs l (i+1):=by
  obtain ⟨e1,e2,e3,e4⟩:=h
  refine ⟨e1,fun p q a b=>?_⟩
  by_cases c1:p=j
  · rw [c1]; exact Int.le_of_lt (e4 q (by omega) (by omega))
  · by_cases c2:q=j
    · rw [c2]
      have h3:¬ l.getD j 0<l.getD (j-1) 0:=hc.resolve_left (by omega)
      by_cases c3:p=j-1
      · rw [c3]; omega
      · have:=e3 p (j-1) (by omega) (by omega) c1 (by omega); omega
    · exact e3 p q a (by omega) c1 c2
theorem G3 (h:SoI xs l l.length):Ord iLt id l:=by
  have key:∀ (l:List Int),(∀ p q,p<q→q<l.length→l.getD p 0≤l.getD q 0)→Ord iLt id l:=by
    intro l
    induction l with
    | nil=>exact fun _ => .nil
    | cons a l ih=>
      intro h
      refine .cons (fun y hy=>?_) (ih fun p q a b=>?_)
      · obtain ⟨k,hk,e⟩:=List.getElem_of_mem hy
        have:=h 0 (k+1) (by omega) (by simpa using hk)
        have e2:(a::l).getD (k+1) 0=y:=by rw [List.getD_cons_succ,bP hk,e]
        rw [e2,List.getD_cons_zero] at this
        unfold iLt
        simp only [id]
        omega
      · have:=h (p+1) (q+1) (by omega) (by simpa using b)
        simpa using this
  exact key l h.2
theorem GO {x m:Int}(hr:rises xs m=true) (h:SoI (xs++[x]) l l.length):l=kG xs x:=Ie (rg hr) (G3 h) h.1
end
end Go.Wk
namespace Go.Wk
theorem IP {x:Nat}(h:x<256):IntKind.u8.wrap (x:Int)=x:=by
  simp [IntKind.wrap,IntKind.bits,IntKind.signed]
  omega
section
open Rp (own)
variable {w w':World}{ft:List Nat}{N:Nat→Prop}
theorem InF.toM {α:Type}[Rp α] {cs:List Value}{x:α}(h:InF w ft cs x) (e:Ext N w w') (hn:∀ b∈ft,¬ N b):InF w' ft cs x:=by
  obtain ⟨f,h1,h2⟩:=h
  exact ⟨f,Rp.st h1 fun b hb=>e.block b (Rp.lt h1 b hb) (hn b (h2 b hb)),h2⟩
end
end Go.Wk
namespace Go.Wk
open Go.Proofs Rp Go.Proofs.Tryz
set_option maxRecDepth 10000
theorem nb {w:World}{x:Nat}(hx:x<256):Ret Tryz.prog 393 #[.int .u64 x] w fun v w'=>Ext No w w'∧(∃ k:Int,v = .int .i64 k):=by
 refine aC (vs:=[.int .u64 x]) func393 Z ntmps393 Z (fun Q hQ hN=>?_);have H0:=Sep.start (w:=w) (F:=[]) (by simp);refine ab (sA Z Z (aa (ac (ab (sR 2 Z (aa (ay Z (fun c1=>?_) (fun c1=>?_))))))))
 ·exfalso
  omega
 ·refine ah (ac (ab (sR 2 Z (aa (ay Z (fun c2=>?_) (fun c2=>?_))))))
  ·exfalso
   omega
  ·refine ah (ac (ab (sR 2 Z (aa (ay Z (fun c3=>?_) (fun c3=>?_))))))
   ·exfalso
    omega
   ·refine ah (ab (sR 2 Z (sV Z (gn Iw tu5 Z (IP hx)) (sV Z (fw tu9 Z Z x Z (by show x<256; exact hx)) (sV Z (ye tu5 tu3 Z) (sV Z (Gz Z Z) (rA hQ results393 Z ?_)))))));exact ⟨H0.ext,_,Z⟩
theorem pb {w:World}{x:Nat}(hx:x<256):Ret Tryz.prog 315 #[.int .u64 x] w fun v w'=>Ext No w w'∧(∃ k:Int,v = .int .i64 k):=by
 refine aC (vs:=[.int .u64 x]) func315 Z ntmps315 Z (fun Q hQ hN=>?_);have H0:=Sep.start (w:=w) (F:=[]) (by simp);refine ab (sA Z Z (aa (ac (ie Z (ah (ab (sM Z Z (sC func393 BU Z (nb (by first | assumption | omega)) (fun v1 w1 r1=>?_)))))))));obtain ⟨e1,_,rfl⟩:=r1;have H1:=H0.to e1;refine rA hQ results315 Z ?_;exact ⟨H1.ext,_,Z⟩
theorem nJ {w:World}{x y:Int}  : Ret Tryz.prog 389 #[.int .i64 x,.int .i64 y] w fun v w'=>Ext No w w'∧(v = .bool (decide (x<y))):=by
 refine aC (vs:=[.int .i64 x,.int .i64 y]) func389 Z ntmps389 Z (fun Q hQ hN=>?_);have H0:=Sep.start (w:=w) (F:=[]) (by simp);refine ab (sA Z Z (aa (ab (sM Z Z (sE func356 lJ Z es H0 (fun w1 e1 H1=>sM Z Z (bp 3 (j:=2) (want:=true) (t:=10) Z Z Z Z (fun hg1 kk1=>ak (wgE Z Z Z hg1) Z Z (aD Z) (cB (wgE Z Z Z hg1) Z Z (aU func356 Z lJ Z) es (fun w3 e3=>ak (wgE Z Z Z hg1) Z Z (aX Z) (kk1 _ _ (kx Z (kx Z (kx Z k0))) Z (Ext.refl.trans e3))))) (fun w2 e2=>?_))))))));have H2:=H1.to e2;refine sV Z (bb Z Z) (sM Z Z (bp 3 (j:=7) (want:=false) (t:=15) Z Z Z Z (fun hg2 kk2=>ak (wgE Z Z Z hg2) Z Z (aD Z) (ak (wgE Z Z Z hg2) Z Z (aD Z) (ak (wgE Z Z Z hg2) Z Z (aN Z Z) (kk2 _ _ (kx Z (kx Z (kx Z k0))) Z Ext.refl)))) (fun w4 e4=>?_)));have H3:=H2.to e4;refine sV Z (ew Z Z) (rA hQ results389 Z ?_);exact ⟨H3.ext,by simp⟩
theorem fF {w:World}{ws:List Int}{A:Option Addr}{n C:Nat}{fp:List Nat}{xa xb:Int}(o:own true w [.slice A n C] ws fp) (nd:fp.Nodup) (hxa:xa=0) (hxb:xb=(ws.length:Nat)) (h0:0<ws.length) (hL:ws.length≤12):Ret Tryz.prog 383 #[.slice A n C,.int .i64 xa,.int .i64 xb] w fun v w'=>(∃ ws',Mut w w' fp [.slice A n C] ws'∧ws'.length=ws.length∧SoI ws ws' ws.length):=by
 subst hxa;obtain rfl:=dG o;obtain ⟨hb0,ho0,had0⟩:=dW o 0 (by omega);subst had0;have wL:=oL o;subst hxb;refine aC (vs:=[.slice (some ⟨hb0,ho0,none⟩) ws.length C,.int .i64 0,.int .i64 ws.length]) func383 Z ntmps383 Z (fun Q hQ hN=>?_);have H0:=Sep.begin o nd;refine ab (sM Z Z (sV Z (az Z Z iO) (sA Z Z (aa (ao (ba (γ:=Nat × List Int × List Nat) (fun (i,l,f)=>[(0,.slice (some ⟨hb0,ho0,none⟩) ws.length C),(1,.int .i64 0),(2,.int .i64 ws.length),(6,.int .i64 i)]) (fun (i,l,f) w'=>Sep (· ∈ fp) w [mine [.slice (some ⟨hb0,ho0,none⟩) ws.length C] l f] [] w'∧1≤i∧l.length=ws.length∧SoI ws l i) (fun (i,l,f)=>ws.length-i) (1,ws,fp) ⟨Z,Z,Z,eqI (by omega),trivial⟩ ⟨H0,by omega,Z,Dp⟩ (fun (i,l,f) w1 H1=>?_)))))));obtain ⟨H1,hi1,hll,hO⟩:=H1;refine ac (ab (sR 3 Z (aa (ay Z (fun c1=>?_) (fun c1=>?_)))))
 ·refine ah (ac (ao (ab (sR 2 Z (aa (ao (ba (γ:=Nat × List Int × List Nat) (fun (j,l,f)=>[(0,.slice (some ⟨hb0,ho0,none⟩) ws.length C),(1,.int .i64 0),(2,.int .i64 ws.length),(6,.int .i64 i),(7,.int .i64 j)]) (fun (j,l,f) w'=>Sep (· ∈ fp) w [mine [.slice (some ⟨hb0,ho0,none⟩) ws.length C] l f] [] w'∧l.length=ws.length∧InI ws l i j) (fun (j,l,f)=>j) (i,l,f) ⟨Z,Z,Z,Z,Z,trivial⟩ ⟨H1,hll,D1 hO⟩ (fun (j,l,f) w2 H2=>?_))))))));obtain ⟨H2,hll,hI⟩:=H2;refine ac (ac ?_);have hji:=hI.2.1;refine bE (S:=Ext No _) (oQ [1,3,5,7,9,11,13,15,17,19,21,23,25,26,28]) (by kernel_rfl) (by kernel_rfl) (by kernel_rfl) Z (fun _=>Ext.refl.drawn _) (fun q1=>?_);have H3:=H2.drawn q1;refine dR 4 Z (cC (t:=19) Z (fun hg1=>?_) (fun hg1=>?_))
  ·try simp only [decide_eq_true_eq] at hg1
   refine aF Z (wg Z Z Z) Z Z (fun zw hx=>aD Z) (aF Z (wg Z Z Z) Z Z (fun zw hx=>aD Z) ?_);obtain ⟨eb1,eo1,ee1,ec1⟩:=bV (H3.mine 0 Z) j (by omega);refine aF Z (wg Z Z Z) Z Z (fun zw hx=>au bd ts2 Z Z ee1 j (by omega) (by omega)) (aF Z (wg Z Z Z) Z Z (fun zw hx=>ae tu2 Z Z (hx.cell ec1)) (aF Z (wg Z Z Z) Z Z (fun zw hx=>aD Z) (aF Z (wg Z Z Z) Z Z (fun zw hx=>aD Z) (aF Z (wg Z Z Z) Z Z (fun zw hx=>bn Z Z iO) ?_))));obtain ⟨eb2,eo2,ee2,ec2⟩:=bV (H3.mine 0 Z) (j-1) (by omega);refine aF Z (wg Z Z Z) Z Z (fun zw hx=>au bd ts2 Z Z ee2 (j-1) (by omega) (by omega)) (aF Z (wg Z Z Z) Z Z (fun zw hx=>ae tu2 Z Z (hx.cell ec2)) (cv Z (wg Z Z Z) Z Z (aU func389 Z Aa Z) nJ (fun hS _ _ r _=>hS.trans r.1.no) (fun v1 w3 r1=>?_)));obtain ⟨e1,rfl⟩:=r1;have H4:=H3.to e1;refine aP Z (wn Z) Z Z (aH Z Z) (aQ (bI Z (fun c2=>?_) (fun c2=>?_)))
   ·refine ah (ac (ao ?_));have hji:=hI.2.1;have hq1:=cg (H4.mine 0 Z) (j-1) (by omega);have hq2:=cg (H4.mine 0 Z) j (by omega);obtain ⟨eb3,eo3,ee3,ec3⟩:=bV (H4.mine 0 Z) j (by omega);refine bE (S:=fun _=>True) (oQ [1,3,5,7,9,11,13,15,17,21,23,25,2012,18,26,29,30,33,34,26,18,29,30,33,34]) (by kernel_rfl) (by kernel_rfl) (by kernel_rfl) Z (fun _=>trivial) (fun q2=>?_);have H5:=H4.drawn q2;refine dR 4 Z (dV Z Z (fun zw hx=>bn Z Z iO) (dR 2 Z (dV Z Z (fun zw hx=>bn Z Z iO) ?_)));obtain ⟨eb4,eo4,ee4,ec4⟩:=bV (H5.mine 0 Z) (j-1) (by omega);refine dV Z Z (fun zw hx=>au bd ts2 Z Z ee4 (j-1) (by omega) (by omega)) (dR 2 Z (dV Z Z (fun zw hx=>au bd ts2 Z Z ee3 j (by omega) (by omega)) (dF Z ?_ ?_)))
    ·refine aP Z (wn Z) Z Z (ae tu2 Z Z ec4) (aP Z (wn Z) Z Z (ae tu2 Z Z ec3) (dV Z Z (fun zw hx=>au bd ts2 Z Z Z (j) (by omega) (by omega)) (u0 Z (wn Z) ts2 Z H5 0 Z (j) (by omega) Z Z Z (gz hq1) (fun _ _ _ _=>trivial) (fun w4 fp1 e2 H6=>?_))))
     try dsimp only[lNA,lCA,lSZ,lSS] at H6
     refine dV Z Z (fun zw hx=>au bd ts2 Z Z Z (j-1) (by omega) (by omega)) (u0 Z (wn Z) ts2 Z H6 0 Z (j-1) (by rw [List.length_set]; omega) Z Z Z (gz hq2) (fun _ _ _ _=>trivial) (fun w5 fp2 e3 H7=>?_))
     try dsimp only[lNA,lCA,lSZ,lSS] at H7
     refine aQ (aj (sM Z Z (sV Z (bn Z Z iO) (sA Z Z (aa (⟨(j-1,_,_),⟨Z,Z,Z,Z,eqI (by omega),trivial⟩,⟨H7,(za (l:=l) (j:=j)).trans hll,zm hI (by omega) (by omega) (by simpa using c2)⟩,by dsimp only; omega⟩))))))
    ·refine aP Z (wn Z) Z Z (ae tu2 Z Z ec3) (aP Z (wn Z) Z Z (ae tu2 Z Z ec4) (dV Z Z (fun zw hx=>au bd ts2 Z Z Z (j) (by omega) (by omega)) (u0 Z (wn Z) ts2 Z H5 0 Z (j) (by omega) Z Z Z (gz hq1) (fun _ _ _ _=>trivial) (fun w6 fp3 e4 H8=>?_))))
     try dsimp only[lNA,lCA,lSZ,lSS] at H8
     refine dV Z Z (fun zw hx=>au bd ts2 Z Z Z (j-1) (by omega) (by omega)) (u0 Z (wn Z) ts2 Z H8 0 Z (j-1) (by rw [List.length_set]; omega) Z Z Z (gz hq2) (fun _ _ _ _=>trivial) (fun w7 fp4 e5 H9=>?_))
     try dsimp only[lNA,lCA,lSZ,lSS] at H9
     refine aQ (aj (sM Z Z (sV Z (bn Z Z iO) (sA Z Z (aa (⟨(j-1,_,_),⟨Z,Z,Z,Z,eqI (by omega),trivial⟩,⟨H9,(za (l:=l) (j:=j)).trans hll,zm hI (by omega) (by omega) (by simpa using c2)⟩,by dsimp only; omega⟩))))))
   ·refine aG (aj (sM Z Z (sV Z (az Z Z iO) (sA Z Z (aa ?_)))));have hs:=C5 hI (.inr (by simpa using c2));refine ⟨(i+1,l,_),⟨Z,Z,Z,Z,trivial⟩,⟨H4,by omega,hll,hs⟩,by dsimp only; omega⟩
  ·try simp only [decide_eq_false_iff_not] at hg1
   refine dR 10 Z (aP Z (wn Z) Z Z (aO Z Z) (aQ (ie Z (aG (aj (sM Z Z (sV Z (az Z Z iO) (sA Z Z (aa ?_)))))))));have hs:=C5 hI (.inl (by omega));refine ⟨(i+1,l,_),⟨Z,Z,Z,Z,trivial⟩,⟨H3,by omega,hll,hs⟩,by dsimp only; omega⟩
 ·refine aG (hN _ _ (jO results383 ?_));have hi2:SoI ws l ws.length:=⟨hO.1,fun p q a b=>hO.2 p q a (by omega)⟩;exact ⟨_,H1.done,hll,hi2⟩
theorem ic {w:World}{ws:List Int}{A:Option Addr}{n C:Nat}{fp:List Nat}{xa xb xl:Int}(o:own true w [.slice A n C] ws fp) (nd:fp.Nodup) (hxa:xa=0) (hxb:xb=(ws.length:Nat)) (h0:0<ws.length) (hL:ws.length≤12):Ret Tryz.prog 314 #[.slice A n C,.int .i64 xa,.int .i64 xb,.int .i64 xl] w fun v w'=>(∃ ws',Mut w w' fp [.slice A n C] ws'∧ws'.length=ws.length∧SoI ws ws' ws.length):=by
 subst hxa;obtain rfl:=dG o;obtain ⟨hb0,ho0,had0⟩:=dW o 0 (by omega);subst had0;have wL:=oL o;subst hxb;refine aC (vs:=[.slice (some ⟨hb0,ho0,none⟩) ws.length C,.int .i64 0,.int .i64 ws.length,.int .i64 xl]) func314 Z ntmps314 Z (fun Q hQ hN=>?_);have H0:=Sep.begin o nd;refine ab (sA Z Z (aa (ab (sA Z Z (aa (ao (bU (γ:=Unit) H0 [(0,_)] ⟨Z,trivial⟩ (fun _=>[(1,.int .i64 0),(2,.int .i64 ws.length),(3,.int .i64 xl),(8,.bool true),(9,.bool true)]) (fun _=>True∧True) (fun _=>0) () ⟨Z,Z,Z,Z,Z,trivial⟩ ⟨trivial,trivial⟩ (fun _ w1 H1 ⟨_,_⟩=>?_))))))));dsimp only[lCA,lNA];refine ao (ab (sR 2 Z (sV Z (bn Z Z iO) (sA Z Z (aa (ac (ab (sR 2 Z (aa (ay Z (fun c1=>?_) (fun c1=>?_)))))))))))
 ·refine ab (sR 3 Z (sC func383 Ay Z (fF (H1.mine 0 Z) (H1.nodup1 (i:=0) Z) (by first | assumption | omega) (by first | assumption | omega) (by first | assumption | omega) (by first | assumption | omega)) (fun v1 w2 r1=>?_)));obtain ⟨ys1,mm1,hyl1,hys1⟩:=r1;obtain ⟨fp1,H2⟩:=H1.mut 0 Z mm1
  try dsimp only[lNA,lCA,lSZ,lSS] at H2
  refine aa (bM (hQ _ _ (jO results314 ?_)));exact ⟨_,H2.done,hyl1,hys1⟩
 ·exfalso
  omega
theorem jd {w:World}{ws:List Int}{A:Option Addr}{n C:Nat}{fp:List Nat}(o:own true w [.slice A n C] ws fp) (nd:fp.Nodup) (h0:0<ws.length) (hL:ws.length≤12):Ret Tryz.prog 196 #[.slice A n C] w fun v w'=>(∃ ws',Mut w w' fp [.slice A n C] ws'∧ws'.length=ws.length∧SoI ws ws' ws.length):=by
 obtain rfl:=dG o;obtain ⟨hb0,ho0,had0⟩:=dW o 0 (by omega);subst had0;have wL:=oL o;refine aC (vs:=[.slice (some ⟨hb0,ho0,none⟩) ws.length C]) func196 Z ntmps196 Z (fun Q hQ hN=>?_);have H0:=Sep.begin o nd;refine ab (sM Z Z (sV Z (aB bd Z) (sA Z Z (aa (aj (sR 3 Z (sV Z (gn tu3 ou Z (vU (by omega))) (sC func315 AC Z (pb (by first | assumption | omega)) (fun v1 w1 r1=>?_)))))))));obtain ⟨e1,_,rfl⟩:=r1;have H1:=H0.to e1;refine sC func314 zT Z (ic (H1.mine 0 Z) (H1.nodup1 (i:=0) Z) (by first | assumption | omega) (by first | assumption | omega) (by first | assumption | omega) (by first | assumption | omega)) (fun v2 w2 r2=>?_);obtain ⟨ys1,mm1,hyl1,hys1⟩:=r2;obtain ⟨fp1,H2⟩:=H1.mut 0 Z mm1
 try dsimp only[lNA,lCA,lSZ,lSS] at H2
 refine aa (hN _ _ (jO results196 ?_));exact ⟨_,H2.done,hyl1,hys1⟩
end Go.Wk
namespace Go.Wk
section
variable {z:Wld}{r:Rec}{t u:Nat}
theorem mg (h:cr z=false) (ht:t<z.Tapes.length):((dZ t r z).Tapes.getD u default).Recs.length=(z.Tapes.getD u default).Recs.length+(if u=t then 1 else 0):=by
  unfold dZ; rw [ff h]
  show ((z.Tapes.set t _).getD u default).Recs.length=_
  rw [dj]; split
  · next h=>rw [if_pos h.1,h.1]; simp
  · next h=>rw [if_neg (fun e=>h ⟨e,ht⟩)]; rfl
theorem zH (hT:z.Tapes.length=2) (h:qf z r=0):(layZ z r).Writes=z.Writes+2∧((layZ z r).Tapes.getD 0 default).Recs.length=(z.Tapes.getD 0 default).Recs.length+1 ∧
    ((layZ z r).Tapes.getD 1 default).Recs.length=(z.Tapes.getD 1 default).Recs.length+1∧(z.Tapes.getD 0 default).Recs.length<200∧(z.Tapes.getD 1 default).Recs.length<200:=by
  obtain ⟨h1,h2⟩:=wT h
  obtain ⟨f1,f2⟩:=uz h1
  unfold kh at h2
  simp only [Bool.and_eq_true,Bool.not_eq_true'] at h2
  rw [(iV h1).2,(lp h2.1).1]
  have e1:(dZ 0 r z).Writes=z.Writes+1:=by unfold dZ; rw [ff h2.1]; rfl
  have e2:(dZ 1 r (dZ 0 r z)).Writes=(dZ 0 r z).Writes+1:=by
    show (rn (dZ 0 r z) (layT 1 r (dZ 0 r z))).Writes=_
    rw [ff h2.2]; rfl
  have a0:=mg (t:=0) (u:=0) (r:=r) h2.1 (by omega)
  have a1:=mg (t:=0) (u:=1) (r:=r) h2.1 (by omega)
  have b0:=mg (t:=1) (u:=0) (r:=r) h2.2 (by rw [gu]; omega)
  have b1:=mg (t:=1) (u:=1) (r:=r) h2.2 (by rw [gu]; omega)
  rw [if_pos rfl] at a0 b1
  rw [if_neg (by decide)] at a1 b0
  exact ⟨by omega,by omega,by omega,f1,f2⟩
theorem Gg (h:nxC z r=0):¬ 1000000000<nxQ z∧qf z (mr r (nxQ z))=0:=by
  by_cases c:1000000000<nxQ z
  · rw [(lv c).1] at h; exact absurd h (by decide)
  · exact ⟨c,by rw [(mn c).1] at h; exact h⟩
end
theorem yc {xs:List Int}{m:Int}(h:rises xs m=true):∀ {i:Nat},i<xs.length→(i:Int)≤xs.getD i 0
  | 0,hi=>(lq h 0 hi).1
  | i+1,hi=>by
    have h1:=yc h (i:=i) (by omega)
    have h2:=oE h i hi
    omega
theorem rP {xs:List Int}{m:Int}(h:rises xs m=true) (hm:0≤m):(xs.length:Int)≤m+1:=by
  by_cases c:xs.length=0
  · omega
  · have h1:=yc h (i:=xs.length-1) (by omega)
    have h2:=(lq h (xs.length-1) (by omega)).2
    omega
noncomputable def gwC (z:Wld) (f g row:Int):Int:=if eQ z f=true then 0 else gvC z f g row
noncomputable def gwZ (z:Wld) (f g row:Int):Wld:=if eQ z f=true then z else gvZ z f g row
structure GvI (z0 z:Wld):Prop where
  sh:z.Shape=z0.Shape
  gr:z.Groups=z0.Groups
  tp:z.Tapes.length=2
  sq:SeqOK z
  rc:RecsOK z
  dn:z.Down=z0.Down
  r0:(z.Tapes.getD 0 default).Recs.length≤200
  r1:(z.Tapes.getD 1 default).Recs.length≤200
  wr:z.Writes≤z0.Writes+((z.Tapes.getD 0 default).Recs.length:Int)+((z.Tapes.getD 1 default).Recs.length:Int)
  mw:cm z≤cm z0+200*(z.Tapes.getD 0 default).Recs.length
  ok:z.Ok
section
variable {z z0:Wld}{f g row:Int}
theorem GvI.start (h:ey z=0) (ho:z.Ok):GvI z z:=by
  obtain ⟨h1,h2⟩:=kf h
  exact ⟨rfl,rfl,(cd h).2.2.2.1,fD h,tD h,rfl,h1,h2,by omega,by omega,ho⟩
theorem BC {y:Wld}(h1:y.Shape=z.Shape) (h2:y.Groups=z.Groups):eQ y f=eQ z f:=by
  unfold eQ xg; rw [h1,h2]
theorem qm (hs:z.Shape.ok=true) (hG:bD z=true) (hf:ins f 0 (z.Shape.Groups+z.Shape.Column-1)=true) (hd:eQ z f=false) (hA:RecsOK z) (h:gR z f g row=true):cG (gvR z f g row)≤40∧cn (gvR z f g row)≤50:=by
  have sbd:=bt hs
  obtain ⟨h1,_,_⟩:=Cz h
  obtain ⟨hk,_,_⟩:=kt h1
  have hsh:=xZ hs hG hf hd hA h
  obtain ⟨_,p2⟩:=lF (ma hA h1)
  unfold bareOK at p2
  rw [if_neg (by omega),if_neg (by omega),if_neg (by omega)] at p2
  simp only [Bool.and_eq_true,decide_eq_true_eq,noName] at p2
  unfold cY weightsOK at hsh
  simp only [Bool.and_eq_true,decide_eq_true_eq] at hsh
  obtain ⟨⟨⟨⟨d1,d2⟩,d3⟩,d4⟩,⟨d5,_⟩,_⟩:=hsh
  have hl:=rP d3 (by omega)
  have hn:(gvR z f g row).Name.size=0:=by
    show (opR z g row).Name.size=0
    rw [p2.1]; rfl
  unfold cG cn
  omega
theorem E0:0≤gwC z f g row∧gwC z f g row≤9:=by
  have:=Hu (z:=z) (f:=f) (g:=g) (row:=row)
  unfold gwC; split<;>omega
theorem nC (h:eQ z f=true):gwC z f g row=0∧gwZ z f g row=z:=⟨if_pos h,if_pos h⟩
theorem kP (h:gR z f g row=false):gwC z f g row=0∧gwZ z f g row=z:=by
  unfold gwC gwZ; rw [(Hf h).1,(Hf h).2]
  constructor<;>split<;>rfl
theorem wh (hd:eQ z f=false) (h:gR z f g row=true):gwC z f g row=nxC z (gvR z f g row)∧gwZ z f g row=nxZ z (gvR z f g row):=by
  unfold gwC gwZ; rw [if_neg (by simp [hd]),if_neg (by simp [hd])]; exact IM h
theorem Eb {r:Rec}(h:RecsOK z) (hr:¬ 1000000000<nxQ z→fO z.Shape (mr r (nxQ z))=0):RecsOK (nxZ z r):=by
  have h1:=CW (P:=fun r=>fO z.Shape r=0) h hr
  unfold RecsOK; rw [tx.1]; exact h1
theorem GvI.hyp (I:GvI z0 z) (hs:z0.Shape.ok=true) (hG:bD z0=true) (hf:ins f 0 (z0.Shape.Groups+z0.Shape.Column-1)=true):z.Shape.ok=true∧bD z=true∧ins f 0 (z.Shape.Groups+z.Shape.Column-1)=true:=
  ⟨by rw [I.sh]; exact hs,vi I.sh I.gr hG,by rw [I.sh]; exact hf⟩
theorem GvI.step (I:GvI z0 z) (hs:z0.Shape.ok=true) (hG:bD z0=true) (hw:z0.Writes≤1000000000) (hf:ins f 0 (z0.Shape.Groups+z0.Shape.Column-1)=true) (h:gwC z f g row=0):GvI z0 (gwZ z f g row):=by
  obtain ⟨hs',hG',hf'⟩:=I.hyp hs hG hf
  cases hd:eQ z f with
  | true=>rw [(nC hd).2]; exact I
  | false=>
    cases hv:gR z f g row with
    | false=>rw [(kP hv).2]; exact I
    | true=>
      obtain ⟨e1,e2⟩:=wh hd hv
      rw [e1] at h
      obtain ⟨q1,q2⟩:=Gg h
      obtain ⟨x1,x2,x3,x4,x5⟩:=zH I.tp q2
      obtain ⟨s1,s2⟩:=qm hs' hG' hf' hd I.rc hv
      obtain ⟨n1,n2,n3,n4⟩:=vv (r:=gvR z f g row) I.tp
      have hqb:=oZ I.sq
      have hrc:=Eb (r:=gvR z f g row) I.rc fun c=>GW hs' hG' hf' hd I.rc hv ⟨by omega,by omega⟩
      have i1:=I.r0; have i2:=I.r1; have i3:=I.wr; have i4:=I.mw
      have hok:=Fp (r:=gvR z f g row) I.ok (by omega)
      have eZ:=(mn (z:=z) (r:=gvR z f g row) q1).2
      rw [e2]
      rw [← eZ] at x1 x2 x3
      exact ⟨tx.1.trans I.sh,tx.2.trans I.gr,n1,Gq I.sq,hrc,(FB h).trans I.dn,by omega,by omega,by omega,by omega,hok⟩
theorem GvI.last (I:GvI z0 z) (hs:z0.Shape.ok=true) (hG:bD z0=true) (hw:z0.Writes≤1000000000) (hf:ins f 0 (z0.Shape.Groups+z0.Shape.Column-1)=true):(gwZ z f g row).Ok∧cm (gwZ z f g row)≤cm z0+50000:=by
  obtain ⟨hs',hG',hf'⟩:=I.hyp hs hG hf
  have i1:=I.r0; have i2:=I.r1; have i3:=I.wr; have i4:=I.mw
  cases hd:eQ z f with
  | true=>rw [(nC hd).2]; exact ⟨I.ok,by omega⟩
  | false=>
    cases hv:gR z f g row with
    | false=>rw [(kP hv).2]; exact ⟨I.ok,by omega⟩
    | true=>
      obtain ⟨_,e2⟩:=wh hd hv
      obtain ⟨s1,s2⟩:=qm hs' hG' hf' hd I.rc hv
      obtain ⟨n1,n2,n3,n4⟩:=vv (r:=gvR z f g row) I.tp
      rw [e2]
      exact ⟨Fp I.ok (by omega),by omega⟩
end
noncomputable def gaR (f g:Int):Nat→Nat→Wld→Int × Wld
  | 0,_,z=>(0,z)
  | n+1,j,z=>if gwC z f g j=0 then gaR f g n (j+1) (gwZ z f g j) else (gwC z f g j,gwZ z f g j)
noncomputable def gaG (f:Int) (m:Nat):Nat→Nat→Wld→Int × Wld
  | 0,_,z=>(0,z)
  | n+1,k,z=>if (gaR f k m 0 z).1=0 then gaG f m n (k+1) (gaR f k m 0 z).2 else gaR f k m 0 z
noncomputable def gaP (z:Wld) (f:Int):Int × Wld:=gaG f z.Shape.Rows.toNat (z.Shape.Groups+z.Shape.Column).toNat 0 z
section
variable {z z0:Wld}{f g row:Int}{n m j k:Nat}
theorem Di (h:n=0):gaR f g n j z=(0,z):=by subst h; rfl
theorem B0 (hn:n=m+1) (h:gwC z f g j=0):gaR f g n j z=gaR f g m (j+1) (gwZ z f g j):=by subst hn; rw [gaR,if_pos h]
theorem ya (hn:n=m+1) (h:gwC z f g j≠0):gaR f g n j z=(gwC z f g j,gwZ z f g j):=by subst hn; rw [gaR,if_neg h]
theorem Dg (h:n=0):gaG f m n k z=(0,z):=by subst h; rfl
theorem Fi {q:Nat}(hn:n=q+1) (h:(gaR f k m 0 z).1=0):gaG f m n k z=gaG f m q (k+1) (gaR f k m 0 z).2:=by subst hn; rw [gaG,if_pos h]
theorem yj {q:Nat}(hn:n=q+1) (h:(gaR f k m 0 z).1≠0):gaG f m n k z=gaR f k m 0 z:=by subst hn; rw [gaG,if_neg h]
theorem xS (h:eQ z f=true):∀ {n j},gaR f g n j z=(0,z)
  | 0,_=>rfl
  | n+1,j=>by rw [gaR,(nC h).1,(nC h).2,if_pos rfl]; exact xS h
theorem xY (h:eQ z f=true):∀ {n k},gaG f m n k z=(0,z)
  | 0,_=>rfl
  | n+1,k=>by rw [gaG,xS h,if_pos rfl]; exact xY h
theorem FD (h:eQ z f=true):gaP z f=(0,z):=xY h
theorem wO (hs:z0.Shape.ok=true) (hG:bD z0=true) (hw:z0.Writes≤1000000000) (hf:ins f 0 (z0.Shape.Groups+z0.Shape.Column-1)=true) :
    ∀ {n j:Nat}{z:Wld},GvI z0 z→(0≤(gaR f g n j z).1∧(gaR f g n j z).1≤9)∧((gaR f g n j z).1=0→GvI z0 (gaR f g n j z).2)∧(gaR f g n j z).2.Ok∧cm (gaR f g n j z).2≤cm z0+50000
  | 0,_,z,I=>by
    have i1:=I.r0; have i4:=I.mw
    exact ⟨⟨Int.le_refl _,show (0:Int)≤9 by decide⟩,fun _=>I,I.ok,by show cm z≤_; omega⟩
  | n+1,j,z,I=>by
    rw [gaR]
    split
    · next h=>exact wO hs hG hw hf (I.step hs hG hw hf h)
    · next h=>
      obtain ⟨a,b⟩:=I.last (g:=g) (row:=j) hs hG hw hf
      exact ⟨E0,fun q=>absurd q h,a,b⟩
theorem wt (hs:z0.Shape.ok=true) (hG:bD z0=true) (hw:z0.Writes≤1000000000) (hf:ins f 0 (z0.Shape.Groups+z0.Shape.Column-1)=true) :
    ∀ {n k:Nat}{z:Wld},GvI z0 z→(0≤(gaG f m n k z).1∧(gaG f m n k z).1≤9)∧(gaG f m n k z).2.Ok∧cm (gaG f m n k z).2≤cm z0+50000
  | 0,_,z,I=>by
    have i1:=I.r0; have i4:=I.mw
    exact ⟨⟨Int.le_refl _,show (0:Int)≤9 by decide⟩,I.ok,by show cm z≤_; omega⟩
  | n+1,k,z,I=>by
    obtain ⟨a,b,c,d⟩:=wO (g:=k) hs hG hw hf (n:=m) (j:=0) I
    rw [gaG]
    split
    · next h=>exact wt hs hG hw hf (b h)
    · exact ⟨a,c,d⟩
end
noncomputable def gaF (z:Wld) (f:Int):WldResult:=mi z (eN z f 0) (gaP z f).1 (gaP z f).2
section
variable {z:Wld}{f:Int}
theorem wc (hw:ey z=0) (ho:z.Ok) (hf:ins f 0 (z.Shape.Groups+z.Shape.Column-1)=true):(0≤(gaP z f).1∧(gaP z f).1≤9)∧(gaP z f).2.Ok∧cm (gaP z f).2≤cm z+50000:=by
  obtain ⟨hw0,hw1,_,_⟩:=eU hw
  obtain ⟨hs,hG,_⟩:=cd hw
  exact wt hs hG hw1 hf (GvI.start hw ho)
theorem E3 {g:Int}:∀ {n j:Nat}{z:Wld},0≤(gaR f g n j z).1∧(gaR f g n j z).1≤9
  | 0,_,_=>⟨Int.le_refl _,show (0:Int)≤9 by decide⟩
  | n+1,j,z=>by
    rw [gaR]; split
    · exact E3
    · exact E0
theorem EF {m:Nat}:∀ {n k:Nat}{z:Wld},0≤(gaG f m n k z).1∧(gaG f m n k z).1≤9
  | 0,_,_=>⟨Int.le_refl _,show (0:Int)≤9 by decide⟩
  | n+1,k,z=>by
    rw [gaG]; split
    · exact EF
    · exact E3
theorem o5:0≤(gaP z f).1∧(gaP z f).1≤9:=EF
theorem Iv (ho:z.Ok):cm (gaF z f).Wd≤cm z+50000:=
  GM fun h a=>(wc (iB h).1 ho (gQ a).2.2.1).2.2
theorem IJ (ho:z.Ok):(gaF z f).Ok:=by
  have h2:=lg (z:=z) (g:=f) (row:=0)
  have h3:=o5 (z:=z) (f:=f)
  exact G6 (by omega) (by omega) fun h a=>(wc (iB h).1 ho (gQ a).2.2.1).2.1
end
end Go.Wk
namespace Go.Wk
open Go.Proofs Rp Go.Proofs.Tryz
set_option maxRecDepth 10000
theorem sJ {w:World}{xs:List Int}{xsA:Option Addr}{xsC:Nat}{x:Int}(xsS:Sees w [.slice xsA xs.length xsC] xs) (hl:xs.length≤1000) (hx:I64ok x):Ret Tryz.prog 310 #[.slice xsA xs.length xsC,.int .i64 x] w fun v w'=>Ext No w w'∧(Res w w' [v] (kG xs x)):=by
 have xsL:=sL xsS;obtain ⟨xsF,xsO⟩:=xsS;refine aC (vs:=[.slice xsA xs.length xsC,.int .i64 x]) func310 Z ntmps310 Z (fun Q hQ hN=>?_);have H0:=Sep.start (w:=w) (F:=[seen false [.slice xsA xs.length xsC] xs xsF]) (all_cons xsO (by simp));refine ab (sA Z Z (aa (ab (dh (α:=Int) (wn Z) Z bd cf H0 (fun b1 w1 e1 g1 H1=>sA Z Z (aa (ab (sA Z Z (aa (ac (ab (sA Z Z (aa (ao (iH (α:=Int) (γ:=Nat) (fun k=>(jn xs x k)) 0 H1 0 Z 5 Z [(0,_),(1,_),(4,_)] ⟨Z,Z,Z,trivial⟩ (fun k=>[(6,.bool (la xs x k)),(7,.int .i64 k)]) (fun k=>k≤xs.length∧True) (fun k=>xs.length-k) ⟨Z,Z,trivial⟩ ⟨by omega,trivial⟩ (fun k vA1 fA1 w2 H2 ⟨hk,_⟩=>?_))))))))))))))));dsimp only[lCA,lNA,lSZ,lSS] at H2 ⊢;refine ac (ab (sR 2 Z (sV Z (aB bd Z) (sV Z (aN Z Z) (aa (ay Z (fun c1=>?_) (fun c1=>?_)))))))
 ·refine ah (ac (ao (ac (ac ?_))));have hol:=qD (xs:=xs) (x:=x) (k:=k);have hol2:(jn xs x k).length≤k+1:=by rw [hol]; split<;>omega
  obtain ⟨eb1,eo1,ee1,ec1⟩:=bV (H2.seen 0 Z) k (by omega);have eI1:=cg (H2.seen 0 Z) k (by omega);refine aj (sR 2 Z (sV Z (au bd ts2 Z Z ee1 k (by omega) (by omega)) (sV Z (ae tu2 Z Z ec1) (sR 3 Z (cU (t:=21) Z (fun hg1=>?_) (fun hg1=>?_))))))
  ·try simp only [decide_eq_true_eq,decide_eq_false_iff_not] at hg1
   refine ak (wg Z Z Z) Z Z (aD Z) (ak (wg Z Z Z) Z Z (aX Z) (sV Z (aH Z Z) (aa (bI Z (fun c2=>?_) (fun c2=>?_)))))
   ·refine ab (sR 2 Z (dq (wn Z) Z bd cf Z Z Z Z H2 (fun b2 w3 e2 g2 H3=>eI (wn Z) Z bd cf Z Z Z H3 0 1 Z Z (gz (by first | assumption | (unfold I64ok; omega))) (by (try simp only [List.length_append,List.length_nil,List.length_cons]); unfold maxLen; omega) (by (try simp only [List.length_append,List.length_nil,List.length_cons]); omega) (fun v1 w4 fp1 H4=>sA Z Z (aa (aj (sA Z Z (aa ?_))))))));obtain ⟨eb2,eo2,ee2,ec2⟩:=bV (H4.seen 0 Z) k (by omega);have eI2:=cg (H4.seen 0 Z) k (by omega);refine aj (sR 3 Z (sV Z (au bd ts2 Z Z ee2 k (by omega) (by omega)) (sV Z (ae tu2 Z Z ec2) (dq (wn Z) Z bd cf Z Z Z Z H4 (fun b3 w5 e3 g3 H5=>eI (wn Z) Z bd cf Z Z Z H5 0 2 Z Z (gz (by first | assumption | (unfold I64ok; omega))) (by (try simp only [List.length_append,List.length_nil,List.length_cons]); unfold maxLen; omega) (by (try simp only [List.length_append,List.length_nil,List.length_cons]); omega) (fun v2 w6 fp2 H6=>sA Z Z (aa (aj (sM Z Z (sV Z (az Z Z iO) (sA Z Z (aa ?_))))))))))));have hgo:=xF (xs:=xs) (x:=x) (k:=k) (by omega) (by simpa using c2);have HH:=(H6.dtake 1);rw [← hgo.1] at HH;exact ⟨(k+1,_,_),⟨Z,eqB hgo.2.symm,Z,Z,Z,Z,trivial⟩,⟨HH,by (try dsimp only); omega,trivial⟩,by dsimp only; omega⟩
   ·refine ah ?_;obtain ⟨eb3,eo3,ee3,ec3⟩:=bV (H2.seen 0 Z) k (by omega);have eI3:=cg (H2.seen 0 Z) k (by omega);refine aj (sR 3 Z (sV Z (au bd ts2 Z Z ee3 k (by omega) (by omega)) (sV Z (ae tu2 Z Z ec3) (dq (wn Z) Z bd cf Z Z Z Z H2 (fun b4 w7 e4 g4 H7=>eI (wn Z) Z bd cf Z Z Z H7 0 1 Z Z (gz (by first | assumption | (unfold I64ok; omega))) (by (try simp only [List.length_append,List.length_nil,List.length_cons]); unfold maxLen; omega) (by (try simp only [List.length_append,List.length_nil,List.length_cons]); omega) (fun v3 w8 fp3 H8=>sA Z Z (aa (aj (sM Z Z (sV Z (az Z Z iO) (sA Z Z (aa ?_))))))))))));have hgo:=uw (xs:=xs) (x:=x) (k:=k) (.inr (by simpa using c2));have HH:=(H8.dtake 1);rw [← hgo.1] at HH;exact ⟨(k+1,_,_),⟨Z,eqB hgo.2.symm,Z,Z,Z,Z,trivial⟩,⟨HH,by (try dsimp only); omega,trivial⟩,by dsimp only; omega⟩
  ·try simp only [decide_eq_true_eq,decide_eq_false_iff_not] at hg1
   refine sR 2 Z (sV Z (aO Z Z) (aa (ie Z (ah ?_))));obtain ⟨eb4,eo4,ee4,ec4⟩:=bV (H2.seen 0 Z) k (by omega);have eI4:=cg (H2.seen 0 Z) k (by omega);refine aj (sR 3 Z (sV Z (au bd ts2 Z Z ee4 k (by omega) (by omega)) (sV Z (ae tu2 Z Z ec4) (dq (wn Z) Z bd cf Z Z Z Z H2 (fun b5 w9 e5 g5 H9=>eI (wn Z) Z bd cf Z Z Z H9 0 1 Z Z (gz (by first | assumption | (unfold I64ok; omega))) (by (try simp only [List.length_append,List.length_nil,List.length_cons]); unfold maxLen; omega) (by (try simp only [List.length_append,List.length_nil,List.length_cons]); omega) (fun v4 w10 fp4 H10=>sA Z Z (aa (aj (sM Z Z (sV Z (az Z Z iO) (sA Z Z (aa ?_))))))))))));have hgo:=uw (xs:=xs) (x:=x) (k:=k) (.inl (by omega));have HH:=(H10.dtake 1);rw [← hgo.1] at HH;exact ⟨(k+1,_,_),⟨Z,eqB hgo.2.symm,Z,Z,Z,Z,trivial⟩,⟨HH,by (try dsimp only); omega,trivial⟩,by dsimp only; omega⟩
 ·refine aG (ac (ab (sM Z Z (sV Z (aX Z) (aa (bI Z (fun c3=>?_) (fun c3=>?_)))))))
  ·have hol:=qD (xs:=xs) (x:=x) (k:=k);have hol2:(jn xs x k).length≤k+1:=by rw [hol]; split<;>omega
   refine aj (sR 2 Z (dq (wn Z) Z bd cf Z Z Z Z H2 (fun b6 w11 e6 g6 H11=>eI (wn Z) Z bd cf Z Z Z H11 0 1 Z Z (gz (by first | assumption | (unfold I64ok; omega))) (by (try simp only [List.length_append,List.length_nil,List.length_cons]); unfold maxLen; omega) (by (try simp only [List.length_append,List.length_nil,List.length_cons]); omega) (fun v5 w12 fp5 H12=>sA Z Z (aa (ab (sR 2 Z (rN hQ results310 Z ?_))))))));rw [xp (by rw [show xs.length=k by omega]; simpa using c3)];rw [show xs.length=k by omega];exact ⟨H12.ext,H12.out 0 Z⟩
  ·refine ah (ab (sR 2 Z (rN hQ results310 Z ?_)));rw [tm (by rw [show xs.length=k by omega]; simpa using c3)];rw [show xs.length=k by omega];exact ⟨H2.ext,H2.out 0 Z⟩
theorem je {w:World}{z:Wld}{zb bw bf xC6 xC7 xC8:Nat}{f g row:Int}{fp xF6 xF7 xF8:List Nat}{x:Rec}{xA6 xA7 xA8:Option Addr}{M:Nat→Prop}{w0:World}(xK:x.Ok) (hx:x=opR z g row) (ho:kI z g row=true) (H0:Sep M w0 [wldR zb 34 z fp,mine [.slice xA6 x.Rows.length xC6] x.Rows xF6,mine [.slice xA7 x.Data.length xC7] x.Data xF7,mine [.slice xA8 x.Delta.length xC8] x.Delta xF8] [box bf (.cells [.int .i64 f].toArray 2),box bw (.cells [.pointer (some ⟨zb,0,none⟩)].toArray 104)] w) (hs:z.Shape.ok=true) (hG:bD z=true) (hf:ins f 0 (z.Shape.Groups+z.Shape.Column-1)=true) (hd:eQ z f=false) (hA:RecsOK z) (hDel:(x.Delta.length:Int)=z.Shape.Groups+z.Shape.Column) (hRol:x.Rows.length≤6) (hDal:x.Data.length≤12) (hq:SeqOK z) (hT:z.Tapes.length=2) (hrl:∀ k,(z.Tapes.getD k default).Recs.length≤200000) (hw:z.Writes≤1500000000):Ret Tryz.prog 194 #[x.val xA6 xC6 xA7 xC7 xA8 xC8,.pointer (some ⟨bf,0,none⟩),.pointer (some ⟨bw,0,none⟩)] w fun v w'=>(v = .int .i64 (gwC z f g row)∧∃ f',Sep M w0 [wldR zb 34 (gwZ z f g row) f'] [box bf (.cells [.int .i64 f].toArray 2),box bw (.cells [.pointer (some ⟨zb,0,none⟩)].toArray 104)] w'):=by
 have sbd:=bt hs;have xKU:=xK;unfold Rec.Ok at xKU
 try unfold I64ok at xKU
 try unfold maxLen at xKU
 refine aC (vs:=[x.val xA6 xC6 xA7 xC7 xA8 xC8,.pointer (some ⟨bf,0,none⟩),.pointer (some ⟨bw,0,none⟩)]) func194 Z ntmps194 Z (fun Q hQ hN=>?_)
 skip
 refine ab (aZ (wn Z) Z Z H0 (fun b1 w1 e1 g1 H1=>sA Z Z (aa (ac (ac ?_)))));have hfi:=bQ.1 hf;refine aj (sF aA Z aR (sLd aM (H1.box 4 Z) Z (sV Z (ae tu2 Z Z (am (H1.fbox 0 Z) Z)) ?_)));obtain ⟨eb1,eo1,ee1,ec1⟩:=bZ (H1.mine 3 Z) f.toNat (by omega);refine sV Z (au aM ts5 Z Z ee1 f.toNat (by omega) (by omega)) (sV Z (ae tu5 Z Z ec1) (sR 2 Z (cU (t:=11) Z (fun hg1=>?_) (fun hg1=>?_))))
 ·try simp only [decide_eq_true_eq,decide_eq_false_iff_not] at hg1
  refine sR 4 Z (sV Z (aH Z Z) (aa (dk Z (ab (rA hQ results194 Z ?_)))));have hv:gR z f g row=false:=by unfold gR gvD; rw [← hx,decide_eq_true (by omega)]; simp
  have hz:=H1.dtake 1;rw [(kP hv).1,(kP hv).2];exact ⟨Z,_,hz⟩
 ·try simp only [decide_eq_true_eq,decide_eq_false_iff_not] at hg1
  refine ak (wg Z Z Z) Z Z (ag aA Z bJ Z Z) (ak (wg Z Z Z) Z Z (ae bd Z Z (am (H1.box 4 Z) Z)) (ak (wg Z Z Z) Z Z (ae tu2 Z Z (am (H1.fbox 0 Z) Z)) (dJ (wg Z Z Z) Z Z (aU func195 Z jT Z) (ci (H1.msees 1 Z)) (fun v1 w2 r1=>?_))));obtain ⟨e2,rfl⟩:=r1;have H2:=H1.to e2;refine sV Z (aO Z Z) (aa (bI Z (fun c1=>?_) (fun c1=>?_)))
  ·refine ab (rA hQ results194 Z ?_);have hv:gR z f g row=false:=by unfold gR; rw [← hx,decide_eq_true (p:=f∈x.Rows) (by simpa using c1)]; simp
   have hz:=H2.dtake 1;rw [(kP hv).1,(kP hv).2];exact ⟨Z,_,hz⟩
  ·refine ah (ac ?_);have hv:gR z f g row=true:=by unfold gR gvD; rw [ho,← hx,decide_eq_false (by omega),decide_eq_false (p:=f∈x.Rows) (by simpa using c1)]; rfl
   have hfI:I64ok f:=by unfold I64ok; omega
   obtain ⟨hsm1,hsm2⟩:=qm hs hG hf hd hA hv;obtain ⟨hdt1,hdt2⟩:=xe hs hG hf hd hA hv;have hgr:gvR z f g row=(⟨x.Kind,x.Seq,x.Name,x.Length,x.Group,x.Row,kG x.Rows f,fU x.Data (ct (mX z f row) (x.Delta.getD f.toNat 0)),x.Delta⟩:Rec):=by rw [hx]; rfl
   rw [hgr] at hsm1;rw [← hx] at hdt2;refine aj (sF aA Z bJ (sLd bd (H2.box 4 Z) Z (sLd tu2 (H2.fbox 0 Z) Z (dq (wn Z) Z bd cf Z Z Z Z H2 (fun b2 w3 e3 g2 H3=>eI (wn Z) Z bd cf Z Z Z H3 1 5 Z Z (gz (by first | assumption | (unfold I64ok; omega))) (by unfold maxLen; omega) (by omega) (fun v2 w4 fp1 H4=>sV Z (ag aA Z bJ Z Z) ?_))))));obtain ⟨a1,k1,q1⟩:=ax (H4.mine 1 Z);cases q1;refine bR (wn Z) bJ Z Z Z H4 4 Z Z (fun w5 e4 H5=>?_);dsimp only[lNA,lCA,lSZ,lSS,aL] at H5;refine aa (ac ?_);have hap:(x.Rows++[f]).length=x.Rows.length+1:=by simp
   refine aj (sF aA Z bJ (sLd bd (H5.box 4 Z) Z (sC func196 z9 Z (jd (H5.mine 1 Z) (H5.nodup1 (i:=1) Z) (by first | assumption | omega) (by first | assumption | omega)) (fun v3 w6 r2=>?_))));obtain ⟨ys1,mm1,hyl1,hys1⟩:=r2;obtain ⟨fp2,H6⟩:=H5.mut 1 Z mm1
   try dsimp only[lNA,lCA,lSZ,lSS] at H6
   refine aa (ac ?_);have hsd:=lP (ma hA ho) (kt ho).1;have hrw0:=(kt ho).2.2;rw [← hx] at hsd hrw0;have hyp:ys1=kG x.Rows f:=by
    refine GO hsd.2.2.1 ?_;rw [hyl1]; exact hys1
   have hpl:(x.Rows++[f]).length=(kG x.Rows f).length:=by rw [Gv,List.length_append]; rfl
   have HY:=H6;rw [hyp,hpl] at HY;have hrw:x.Row=row:=hrw0;have hrowi:ins x.Row 0 (z.Shape.Rows-1)=true:=hsd.2.1;have hRB:=yD hs hG hf hrowi hd;rw [dD] at hdt2;have hrB:mX z f x.Row=mX z f row:=by rw [hrw]
   obtain ⟨wA1,wC1,wA2,wC2,wA3,wC3,wf1,wf2,wf3,wok1,H7⟩:=HY.openW 0 Z
   try dsimp only[lNA,lCA,lSZ,lSS] at H7
   have wok1U:=wok1;unfold Wld.Ok Shape.Ok I64ok at wok1U;have wL1:=oL (H7.mine 7 Z);have wL2:=oL (H7.mine 8 Z);have wL3:=oL (H7.mine 9 Z);refine bE (S:=Ext No _) (oQ [1,3,5,7,9,11,15,17,19,21,23,12,24,27,28]) (by kernel_rfl) (by kernel_rfl) (by kernel_rfl) Z (fun _=>Ext.refl.drawn _) (fun q2=>?_);have H8:=H7.drawn q2;refine dV Z Z (fun zw hx=>ag aA Z aR Z Z) (dV Z Z (fun zw hx=>ae aM Z Z (am (hx.heap (H8.box 4 Z)) Z)) (dV Z Z (fun zw hx=>ae sf Z Z (am (hx.heap (H8.fbox 1 Z)) Z)) (dV Z Z (fun zw hx=>ae tu2 Z Z (am (hx.heap (H8.fbox 0 Z)) Z)) (dV Z Z (fun zw hx=>ag aA Z ts2 Z Z) (dV Z Z (fun zw hx=>ae tu2 Z Z (am (hx.heap (H8.box 4 Z)) Z)) (dV Z Z (fun zw hx=>ag aA Z aR Z Z) (dV Z Z (fun zw hx=>ae aM Z Z (am (hx.heap (H8.box 4 Z)) Z)) (dV Z Z (fun zw hx=>ae tu2 Z Z (am (hx.heap (H8.fbox 0 Z)) Z)) ?_))))))));obtain ⟨eb2,eo2,ee2,ec2⟩:=bZ (H8.mine 3 Z) f.toNat (by omega);refine dV Z Z (fun zw hx=>au aM ts5 Z Z ee2 f.toNat (by omega) (by omega)) (dV Z Z (fun zw hx=>ae tu5 Z Z (hx.cell ec2)) (dC func151 BY Z (kz (H8.box 0 Z) (by assumption) (aT (H8.mine 7 Z)) (aT (H8.mine 8 Z)) (aT (H8.mine 9 Z)) (by assumption) (by assumption) (by assumption) (by assumption)) (fun v4 w7 r3=>?_)));obtain ⟨e6,r3⟩:=r3;obtain ⟨fp3,H9⟩:=H8.res e6 r3;obtain ⟨a2,k2,q3⟩:=ax (H9.mine 10 Z);cases q3;refine dC func197 uT Z (oc (H9.msees 2 Z) (H9.msees 10 Z) (by first | assumption | omega)) (fun v5 w8 r4=>?_);obtain ⟨e7,r4⟩:=r4;obtain ⟨fp4,H10⟩:=H9.res e7 r4;obtain ⟨a3,k3,q4⟩:=ax (H10.mine 11 Z);cases q4;refine dV Z Z (fun zw hx=>ag aA Z aR Z Z) (bY Z (wn Z) aR Z Z Z H10 4 Z Z (fun _ _ _ hr=>absurd Z hr) (fun w9 e8 H11=>?_));dsimp only[lNA,lCA,lSZ,lSS,aL] at H11;refine aQ (ac ?_);have HB:=H11;rw [hrB] at HB;have hxk6:(⟨x.Kind,x.Seq,x.Name,x.Length,x.Group,x.Row,kG x.Rows f,fU x.Data (ct (mX z f row) (x.Delta.getD f.toNat 0)),x.Delta⟩:Rec).Ok:=xK;refine aj (sLd sf (HB.fbox 1 Z) Z (sV Z (an aA Z aJ Z Z (At.whole (HB.box 4 Z))) ?_));obtain ⟨fp5,H12⟩:=HB.closeW 0 7 8 9 z Z Z Z Z Z Z Z Z Z Z wok1
   try dsimp only[lNA,lCA,lSZ,lSS] at H12
   refine sC func198 BI Z (kL (H12.wldAt 0 Z) (H12.nodup1 (i:=0) Z) (by assumption) (aT (H12.mine 1 Z)) (fun b hb=>H12.apart (i:=0) (j:=1) Z Z Z b hb) (aT (H12.mine 11 Z)) (fun b hb=>H12.apart (i:=0) (j:=11) Z Z Z b hb) (aT (H12.mine 3 Z)) (fun b hb=>H12.apart (i:=0) (j:=3) Z Z Z b hb) (by first | assumption | omega) (by first | assumption | omega) (by first | assumption | omega) (by first | assumption | omega) (by first | assumption | omega) (r:=(⟨x.Kind,x.Seq,x.Name,x.Length,x.Group,x.Row,kG x.Rows f,fU x.Data (ct (mX z f row) (x.Delta.getD f.toNat 0)),x.Delta⟩:Rec))) (fun v6 w10 r5=>?_);obtain ⟨rfl,mm2⟩:=r5;obtain ⟨fp6,H13⟩:=H12.mutW 0 Z mm2
   try dsimp only[lNA,lCA,lSZ,lSS] at H13
   refine rA hQ results194 Z ?_;have hz:=H13.dtake 1;rw [(wh hd hv).1,(wh hd hv).2,hgr];exact ⟨Z,_,hz⟩
end Go.Wk
namespace Go.Wk
open Go.Proofs Rp Go.Proofs.Tryz
set_option maxRecDepth 10000
theorem nh {w:World}{z:Wld}{zb bw bf:Nat}{f:Int}{fp:List Nat}{M:Nat→Prop}{w0:World}(H0:Sep M w0 [wldR zb 34 z fp] [box bf (.cells [.int .i64 f].toArray 2),box bw (.cells [.pointer (some ⟨zb,0,none⟩)].toArray 104)] w) (hwf:ey z=0) (hf:ins f 0 (z.Shape.Groups+z.Shape.Column-1)=true) (hd:eQ z f=false) (ho:z.Ok):Ret Tryz.prog 193 #[.pointer (some ⟨zb,0,none⟩),.func (.func 194) #[] #[.pointer (some ⟨bf,0,none⟩),.pointer (some ⟨bw,0,none⟩)]] w fun v w'=>(v = .int .i64 (gaP z f).1∧∃ f',Sep M w0 [wldR zb 34 (gaP z f).2 f'] [box bf (.cells [.int .i64 f].toArray 2),box bw (.cells [.pointer (some ⟨zb,0,none⟩)].toArray 104)] w'):=by
 obtain ⟨hs,hG,hO⟩:=cd hwf;obtain ⟨hw0,hw1,_,_⟩:=eU hwf;have sbd:=bt hs;have hI0:=GvI.start hwf ho;refine aC (vs:=[.pointer (some ⟨zb,0,none⟩),.func (.func 194) #[] #[.pointer (some ⟨bf,0,none⟩),.pointer (some ⟨bw,0,none⟩)]]) func193 Z ntmps193 Z (fun Q hQ hN=>?_)
 skip
 refine ab (sA Z Z (aa (ac (ac ?_))));obtain ⟨wA1,wC1,wA2,wC2,wA3,wC3,wf1,wf2,wf3,wok1,H1⟩:=H0.openW 0 Z
 try dsimp only[lNA,lCA,lSZ,lSS] at H1
 have wok1U:=wok1;unfold Wld.Ok Shape.Ok I64ok at wok1U;have wL1:=oL (H1.mine 2 Z);have wL2:=oL (H1.mine 3 Z);have wL3:=oL (H1.mine 4 Z);refine aj (sR 2 Z (sF aW Z cj (sV Z (an br Z cj Z Z (At.sub (H1.box 0 Z) 9)) (sE func136 jE Z (dH (by assumption)) H1 (fun w1 e1 H2=>sM Z Z (aa (ao ?_)))))));obtain ⟨fp1,H3⟩:=H2.closeW 0 2 3 4 z Z Z Z Z Z Z Z Z Z Z wok1
 try dsimp only[lNA,lCA,lSZ,lSS] at H3
 refine ba (γ:=Nat × Wld × List Nat) (fun (k,zi,fi)=>[(0,.pointer (some ⟨zb,0,none⟩)),(1,.func (.func 194) #[] #[.pointer (some ⟨bf,0,none⟩),.pointer (some ⟨bw,0,none⟩)]),(14,.int .i64 (z.Shape.Groups+z.Shape.Column)),(15,.int .i64 k)]) (fun (k,zi,fi) w'=>Sep M w0 [wldR zb 34 zi fi] [box bf (.cells [.int .i64 f].toArray 2),box bw (.cells [.pointer (some ⟨zb,0,none⟩)].toArray 104)] w'∧k≤(z.Shape.Groups+z.Shape.Column).toNat∧gaG f z.Shape.Rows.toNat (z.Shape.Groups+z.Shape.Column).toNat 0 z=gaG f z.Shape.Rows.toNat ((z.Shape.Groups+z.Shape.Column).toNat-k) k zi∧GvI z zi) (fun (k,zi,fi)=>(z.Shape.Groups+z.Shape.Column).toNat-k) (0,z,_) ⟨Z,Z,Z,Z,trivial⟩ ⟨(H3.dtake 1),by omega,Z,hI0⟩ (fun (k,zi,fi) w2 H4=>?_);obtain ⟨H4,hk,hdl,hI⟩:=H4;refine ab (sV Z (aN Z Z) (aa (ac (ay Z (fun c1=>?_) (fun c1=>?_)))))
 ·refine ah (ac (ao (ab (sR 2 Z (aa (ac ?_))))));have hsz:=hI.sh;obtain ⟨wA4,wC4,wA5,wC5,wA6,wC6,wf4,wf5,wf6,wok2,H5⟩:=H4.openW 0 Z
  try dsimp only[lNA,lCA,lSZ,lSS] at H5
  have wok2U:=wok2;unfold Wld.Ok Shape.Ok I64ok at wok2U;have wL4:=oL (H5.mine 2 Z);have wL5:=oL (H5.mine 3 Z);have wL6:=oL (H5.mine 4 Z);refine aj (sR 2 Z (sF aW Z cj (sF br Z ts2 (sLd tu2 (H5.box 0 Z) Z (sM Z Z (aa (ao ?_)))))));obtain ⟨fp2,H6⟩:=H5.closeW 0 2 3 4 zi Z Z Z Z Z Z Z Z Z Z wok2
  try dsimp only[lNA,lCA,lSZ,lSS] at H6
  refine ba (γ:=Nat × Wld × List Nat) (fun (j,zj,fj)=>[(0,.pointer (some ⟨zb,0,none⟩)),(1,.func (.func 194) #[] #[.pointer (some ⟨bf,0,none⟩),.pointer (some ⟨bw,0,none⟩)]),(14,.int .i64 (z.Shape.Groups+z.Shape.Column)),(15,.int .i64 k),(5,.int .i64 k),(22,.int .i64 z.Shape.Rows),(23,.int .i64 j)]) (fun (j,zj,fj) w'=>Sep M w0 [wldR zb 34 zj fj] [box bf (.cells [.int .i64 f].toArray 2),box bw (.cells [.pointer (some ⟨zb,0,none⟩)].toArray 104)] w'∧j≤z.Shape.Rows.toNat∧gaR f k z.Shape.Rows.toNat 0 zi=gaR f k (z.Shape.Rows.toNat-j) j zj∧GvI z zj) (fun (j,zj,fj)=>z.Shape.Rows.toNat-j) (0,zi,_) ⟨Z,Z,Z,Z,Z,eqI (by rw [hsz]),Z,trivial⟩ ⟨(H6.dtake 1),by omega,Z,hI⟩ (fun (j,zj,fj) w3 H7=>?_);obtain ⟨H7,hj,hdj,hI⟩:=H7;refine ab (sV Z (aN Z Z) (aa (ac (ay Z (fun c2=>?_) (fun c2=>?_)))))
  ·refine ah (ac (ao (ab (sR 2 Z (aa (ac ?_))))));have hT2:=hI.tp;have hrl2:=yL hI.tp ⟨by have:=hI.r0; omega,by have:=hI.r1; omega⟩;obtain ⟨wA7,wC7,wA8,wC8,wA9,wC9,wf7,wf8,wf9,wok3,H8⟩:=H7.openW 0 Z
   try dsimp only[lNA,lCA,lSZ,lSS] at H8
   have wok3U:=wok3;unfold Wld.Ok Shape.Ok I64ok at wok3U;have wL7:=oL (H8.mine 2 Z);have wL8:=oL (H8.mine 3 Z);have wL9:=oL (H8.mine 4 Z);refine aj (sR 3 Z (sC func291 Ax Z (kb (H8.box 0 Z) (by assumption) (aT (H8.mine 2 Z)) (aT (H8.mine 3 Z)) (aT (H8.mine 4 Z)) (by first | assumption | omega) (by first | assumption | omega)) (fun v2 w4 r2=>?_)));obtain ⟨e2,pA1,pA2,pA3,pA4,pA5,pA6,rfl,hI1⟩:=r2;have H9:=H8.to e2;refine sR 3 Z (bW (wn Z) Z zeroValue55 H9 (fun b1 w5 e3 g1 H10=>bc (wn Z) aJ Z Z Z Z H10 5 Z Z (fun w6 e4 H11=>?_)));dsimp only[lNA,lCA,lSZ,lSS,aL] at H11;refine sA Z Z (aa (ac (ab (sM Z Z (sV Z (aX Z) (aa (bI Z (fun c3=>?_) (fun c3=>?_))))))))
   ·refine aG (aj (sV Z (az Z Z iO) (sM Z Z (aa ?_))));obtain ⟨fp3,H12⟩:=H11.closeW 0 2 3 4 zj Z Z Z Z Z Z Z Z Z Z wok3
    try dsimp only[lNA,lCA,lSZ,lSS] at H12
    have hv:gR zj f k j=false:=by unfold gR; rw [show kI zj k j=false by simpa using c3]; rfl
    obtain ⟨q1,q2⟩:=kP hv;exact ⟨(j+1,zj,_),⟨Z,Z,Z,Z,Z,Z,Z,trivial⟩,⟨(H12.dtake 1),by (try dsimp only); omega,by (try dsimp only); rw [hdj,B0 (m:=z.Shape.Rows.toNat-(j+1)) (by omega) q1,q2],hI⟩,by dsimp only; omega⟩
   ·refine ah (ac ?_);have hop:kI zj k j=true:=by simpa using c3
    obtain ⟨hs2,hG2,hf2⟩:=hI.hyp hs hG hf;have hrc:=ma hI.rc hop;obtain ⟨hk4,_,_⟩:=kt hop;have hsd:=ug hrc hk4;unfold cY weightsOK at hsd;simp only [Bool.and_eq_true,decide_eq_true_eq] at hsd;obtain ⟨⟨⟨⟨d1,d2⟩,d3⟩,d4⟩,⟨d5,_⟩,_⟩:=hsd;have hrl7:=rP d3 (by rw [hI.sh]; omega);have sh2:=hI.sh;have hbs:cG (opR zj k j)≤1048576:=by
     obtain ⟨_,p2⟩:=lF hrc;unfold bareOK at p2;rw [if_neg (by omega),if_neg (by omega),if_neg (by omega)] at p2;simp only [Bool.and_eq_true,decide_eq_true_eq,noName] at p2;have hn:(opR zj k j).Name.size=0:=by rw [p2.1]; rfl
     rw [sh2] at d4 d5 hrl7;unfold cG; omega
    refine aj (sM Z Z (sV Z (an aA Z aJ Z Z (At.whole (H11.box 5 Z))) ?_));have hin:=((hI1.to e3).toM e4 (fun b hb q=>H11.apart (i:=5) (j:=4) Z Z Z b hb (by rw [q]; exact List.mem_cons_self ..)));refine sC func258 lD Z (eX (r:=(opR zj k j)) hin.ok hin.sees.1 hin.sees.2.1 hin.sees.2.2 (by omega)) (fun v3 w7 r3=>?_);obtain ⟨e5,sa1,sk1,sa2,sk2,sa3,sk3,rfl,r3⟩:=r3;obtain ⟨fp4,H13⟩:=H11.res e5 r3;obtain ⟨sf1,sf2,sf3,sq1,sok1,so1,so2,so3⟩:=pD (H13.mine 6 Z);have H14:=H13.part 6 Z [mine [.slice _ (opR zj k j).Rows.length _] (opR zj k j).Rows sf1,mine [.slice _ (opR zj k j).Data.length _] (opR zj k j).Data sf2,mine [.slice _ (opR zj k j).Delta.length _] (opR zj k j).Delta sf3] (all_cons so1 (all_cons so2 (all_cons so3 (by simp)))) (by simp [blocks,mine,sq1])
    try dsimp only[lNA,lCA,lSZ,lSS] at H14
    obtain ⟨fp5,H15⟩:=H14.closeW 0 2 3 4 zj Z Z Z Z Z Z Z Z Z Z wok3
    try dsimp only[lNA,lCA,lSZ,lSS] at H15
    have H17:=(H15.sub (.cons_cons _ (.cons _ (.cons _ (.cons _ (.cons _ (.cons _ (.cons _ (.cons_cons _ (.cons_cons _ (.cons_cons _ List.Sublist.slnil))))))))))).ftake 2
    try dsimp only[lNA,lCA,lSZ,lSS] at H17
    try dsimp only[List.take] at H17
    have hok9:(opR zj k j).Ok:=hin.ok;have hdd:eQ zj f=false:=by rw [BC hI.sh hI.gr]; exact hd
    refine dJ (wn Z) Z Z (fI (lb:=[.pointer (some ⟨bf,0,none⟩),.pointer (some ⟨bw,0,none⟩)]) Z func194 Z Ac Z) (je (x:=(opR zj k j)) (g:=k) (row:=j) hok9 Z hop H17 hs2 hG2 hf2 hdd hI.rc (by omega) (by rw [sh2] at hrl7; omega) (by rw [sh2] at d4; omega) hI.sq hI.tp hrl2 (by have:=hI.wr; have:=hI.r0; have:=hI.r1; omega)) (fun v4 w8 r4=>?_);obtain ⟨rfl,fn_,H16⟩:=r4;refine sA Z Z (aa (ab (sR 2 Z (aa (ay Z (fun c4=>?_) (fun c4=>?_))))))
    ·refine ab (sR 2 Z (rN hQ results193 Z ?_));have hcn:gwC zj f k j≠0:=by omega
     have e1:gaR f k z.Shape.Rows.toNat 0 zi=(gwC zj f k j,gwZ zj f k j):=by rw [hdj]; exact ya (m:=z.Shape.Rows.toNat-(j+1)) (by omega) hcn
     have e2:gaP z f=(gwC zj f k j,gwZ zj f k j):=by rw [gaP,hdl,yj (q:=(z.Shape.Groups+z.Shape.Column).toNat-(k+1)) (by omega) (by rw [e1]; exact hcn),e1]
     rw [e2];exact ⟨Z,_,H16⟩
    ·refine ah (aj (sV Z (az Z Z iO) (sM Z Z (aa ?_))));have hc0:gwC zj f k j=0:=by omega
     exact ⟨(j+1,gwZ zj f k j,_),⟨Z,Z,Z,Z,Z,Z,Z,trivial⟩,⟨H16,by (try dsimp only); omega,by (try dsimp only); rw [hdj,B0 (m:=z.Shape.Rows.toNat-(j+1)) (by omega) hc0],hI.step hs hG hw1 hf hc0⟩,by dsimp only; omega⟩
  ·refine aG (aj (sV Z (az Z Z iO) (sM Z Z (aa ?_))));obtain rfl:j=z.Shape.Rows.toNat:=by omega
   have e1:gaR f k z.Shape.Rows.toNat 0 zi=(0,zj):=by rw [hdj]; exact Di (by omega)
   exact ⟨(k+1,zj,_),⟨Z,Z,Z,Z,trivial⟩,⟨H7,by (try dsimp only); omega,by (try dsimp only); rw [hdl,Fi (q:=(z.Shape.Groups+z.Shape.Column).toNat-(k+1)) (by omega) (by rw [e1]),e1],hI⟩,by dsimp only; omega⟩
 ·refine aG (ab (rA hQ results193 Z ?_));have e2:gaP z f=(0,zi):=by rw [gaP,hdl]; exact Dg (by omega)
  rw [e2];exact ⟨Z,_,H4⟩
theorem cZ {w:World}{z:Wld}{zb:Nat}{fp:List Nat}{f:Int}(o:OwnW w zb 34 z fp) (nd:fp.Nodup) (hwf:ey z=0) (hf:ins f 0 (z.Shape.Groups+z.Shape.Column-1)=true):Ret Tryz.prog 88 #[.pointer (some ⟨zb,0,none⟩),.int .i64 f] w fun v w'=>(v = .int .i64 (gaP z f).1∧MutW w w' fp zb 34 ((gaP z f).2)):=by
 obtain ⟨hs,hG,hO⟩:=cd hwf;have hzok:z.Ok:=o.ok;refine aC (vs:=[.pointer (some ⟨zb,0,none⟩),.int .i64 f]) func88 Z ntmps88 Z (fun Q hQ hN=>?_);have H0:=Sep.beginW o nd;refine ab (aZ (wn Z) Z Z H0 (fun b1 w1 e1 g1 H1=>aZ (wn Z) Z Z H1 (fun b2 w2 e2 g2 H2=>sA Z Z (aa (ac (ac ?_))))));obtain ⟨wA1,wC1,wA2,wC2,wA3,wC3,wf1,wf2,wf3,wok1,H3⟩:=H2.openW 0 Z
 try dsimp only[lNA,lCA,lSZ,lSS] at H3
 have wok1U:=wok1;unfold Wld.Ok Shape.Ok I64ok at wok1U;have wL1:=oL (H3.mine 4 Z);have wL2:=oL (H3.mine 5 Z);have wL3:=oL (H3.mine 6 Z);refine aj (sLd sf (H3.box 1 Z) Z (sLd tu2 (H3.box 2 Z) Z (sE func150 AE Z (ni (H3.box 0 Z) (by assumption) (H3.msees 4 Z) (H3.msees 5 Z) (H3.msees 6 Z) (by assumption) (by assumption) (by assumption)) H3 (fun w3 e3 H4=>aa (bI Z (fun c1=>?_) (fun c1=>?_))))))
 ·refine ab (rA hQ results88 Z ?_);obtain ⟨fp1,H5⟩:=H4.closeW 0 4 5 6 z Z Z Z Z Z Z Z Z Z Z wok1
  try dsimp only[lNA,lCA,lSZ,lSS] at H5
  have hz:=H5.doneW;rw [FD (by simpa using c1)];exact ⟨Z,hz⟩
 ·refine ah (ab (sLd sf (H4.box 1 Z) Z (sV Z (nz Z) ?_)));obtain ⟨fp2,H6⟩:=H4.closeW 0 4 5 6 z Z Z Z Z Z Z Z Z Z Z wok1
  try dsimp only[lNA,lCA,lSZ,lSS] at H6
  have H7:=(H6.shareB 2 Z).shareB 1 Z
  try dsimp only[lNA,lCA,lSZ,lSS] at H7
  have H8:=H7.sub (.cons_cons _ (.cons _ (.cons _ (.cons _ (.cons _ (.cons _ (.cons _ List.Sublist.slnil)))))));refine sC func193 Cc Z (nh H8 hwf hf (by simpa using c1) hzok) (fun v2 w4 r2=>?_);obtain ⟨rfl,fn_,H10⟩:=r2;refine rA hQ results88 Z ?_;exact ⟨Z,H10.doneW⟩
end Go.Wk
namespace Go.Wk
open Go.Proofs Rp Go.Proofs.Tryz
set_option maxRecDepth 10000
theorem rz {w:World}{z:Wld}{zb:Nat}{fp:List Nat}{f g row:Int}(o:OwnW w zb 34 z fp) (nd:fp.Nodup) (hd:z.Down=false) (hrr:(z.Tapes.getD 0 default).Recs.length≤1000∧(z.Tapes.getD 1 default).Recs.length≤1000) (hs:z.Shape.ok=true) (hG:bD z=true) (hf:ins f 0 (z.Shape.Groups+z.Shape.Column-1)=true) (hg:ins g 0 (z.Shape.Groups+z.Shape.Column-1)=true) (hrw:ins row 0 (z.Shape.Rows-1)=true) (hA:RecsOK z) (hq:SeqOK z) (hT:z.Tapes.length=2) (hrl:∀ k,(z.Tapes.getD k default).Recs.length≤200000) (hw:z.Writes≤1500000000):Ret Tryz.prog 188 #[.pointer (some ⟨zb,0,none⟩),.int .i64 f,.int .i64 g,.int .i64 row] w fun v w'=>(v = .int .i64 (gwC z f g row)∧MutW w w' fp zb 34 ((gwZ z f g row))):=by
 have sbd:=bt hs;have hqb:=oZ hq;refine aC (vs:=[.pointer (some ⟨zb,0,none⟩),.int .i64 f,.int .i64 g,.int .i64 row]) func188 Z ntmps188 Z (fun Q hQ hN=>?_);have H0:=Sep.beginW o nd;refine ab (sA Z Z (aa (ac ?_)));obtain ⟨wA1,wC1,wA2,wC2,wA3,wC3,wf1,wf2,wf3,wok1,H1⟩:=H0.openW 0 Z
 try dsimp only[lNA,lCA,lSZ,lSS] at H1
 have wok1U:=wok1;unfold Wld.Ok Shape.Ok I64ok at wok1U;have wL1:=oL (H1.mine 2 Z);have wL2:=oL (H1.mine 3 Z);have wL3:=oL (H1.mine 4 Z);refine aj (sM Z Z (sC func208 t6 Z (jo (H1.box 0 Z) (by assumption) (aT (H1.mine 2 Z)) (aT (H1.mine 3 Z)) (aT (H1.mine 4 Z)) (by first | assumption | omega) (by first | assumption | omega)) (fun v1 w1 r1=>?_)));obtain ⟨e1,vs1,r1,hR1,hM1⟩:=r1;obtain ⟨fp1,H2⟩:=H1.res e1 r1;obtain ⟨sa1,sk1,sq1⟩:=ax (H2.mine 5 Z);cases sq1;have hl1:vs1.length=(dw z).length:=by rw [← hM1,List.length_map]
 have hb1:=ql (z:=z) (by first | assumption | omega) (by assumption);refine sA Z Z (aa (ab (sR 2 Z (sF aW Z cj (sV Z (an br Z cj Z Z (At.sub (H2.box 0 Z) 9)) (sR 2 Z (sM Z Z ?_)))))));have lc:=rL (s:=z.Shape) (xs:=vs1.map RecV.r) (g:=g) (row:=row) (by rw [List.length_map]; exact hR1.list (H2.mine 5 Z));rw [List.length_map,hM1,Gd] at lc;refine sE func222 AT Z lc H2 (fun w2 e2 H3=>sA Z Z (aa (ac (ac ?_))));have hob:=Hb (z:=z) (g:=g) (row:=row);have hoe:=Hc (z:=z) (g:=g) (row:=row);have hfi:=bQ.1 hf;refine aj (sR 3 Z (cU (t:=26) Z (fun hg1=>?_) (fun hg1=>?_)))
 ·try simp only [decide_eq_true_eq,decide_eq_false_iff_not] at hg1
  refine sR 9 Z (sV Z (aH Z Z) (sR 8 Z (sV Z (aH Z Z) (aa (dk Z (ab (rA hQ results188 Z ?_)))))));obtain ⟨fp2,H4⟩:=H3.closeW 0 2 3 4 z Z Z Z Z Z Z Z Z Z Z wok1
  try dsimp only[lNA,lCA,lSZ,lSS] at H4
  have hv:gR z f g row=false:=by unfold gR; rw [show kI z g row=false by rw [hoe,decide_eq_false (by omega)]]; rfl
  have hz:=H4.doneW;rw [(kP hv).1,(kP hv).2];exact ⟨Z,hz⟩
 ·try simp only [decide_eq_false_iff_not] at hg1
  have hop:kI z g row=true:=by rw [hoe,decide_eq_true (by omega)]
  have hur:(vs1.getD (il z g row).toNat default).r=(opR z g row):=by rw [dt hM1 (by omega)]; exact (Iq (by omega)).symm
  have hin:=((hR1.to (Ext.refl.trans e2)).inAt (k:=(il z g row).toNat) (by omega));obtain ⟨hk4,_,hrow⟩:=kt hop;have hrc:=ma hA hop;obtain ⟨d1,d2,d3,d4,d5⟩:=lP hrc hk4;have d6:((opR z g row).Delta.length:Int)=z.Shape.Groups+z.Shape.Column:=by
   unfold weightsOK at d5;simp only [Bool.and_eq_true,decide_eq_true_eq] at d5;exact d5.1.1
  have hrl7:=rP d3 (by omega);rw [← hur] at d6;obtain ⟨f8,o8⟩:=hin.sees.2.2;obtain ⟨eb,eo,ee,ec⟩:=bZ o8 f.toNat (by omega);obtain ⟨vb,vo,ve,vc,vok⟩:=H3.viewAt 5 Z (il z g row).toNat (by omega);have hgD:gvD z f g row=(vs1.getD (il z g row).toNat default).r.Delta.getD f.toNat 0:=by rw [hur]; rfl
  refine ak (wg Z Z Z) Z Z (aD Z) (ak (wg Z Z Z) Z Z (aD Z) (ak (wg Z Z Z) Z Z (au aV aJ Z Z ve (il z g row).toNat (by omega) (by omega)) (ak (wg Z Z Z) Z Z (ag aA Z aR Z Z) (ak (wg Z Z Z) Z Z (ae aM Z Z (be vc 8 Z)) (ak (wg Z Z Z) Z Z (aD Z) (ak (wg Z Z Z) Z Z (au aM ts5 Z Z ee f.toNat (by omega) (by omega)) (ak (wg Z Z Z) Z Z (ae tu5 Z Z ec) (ak (wg Z Z Z) Z Z (bB Z Z) (sV Z (aO Z Z) (sM Z Z (cU (t:=37) Z (fun hg2=>?_) (fun hg2=>?_))))))))))))
  ·try simp only [decide_eq_true_eq,decide_eq_false_iff_not] at hg2
   refine sR 7 Z (sV Z (aH Z Z) (aa (dk Z (ab (rA hQ results188 Z ?_)))));obtain ⟨fp3,H5⟩:=H3.closeW 0 2 3 4 z Z Z Z Z Z Z Z Z Z Z wok1
   try dsimp only[lNA,lCA,lSZ,lSS] at H5
   have hv:gR z f g row=false:=by unfold gR; rw [hgD,decide_eq_true (by omega)]; simp
   have hz:=H5.doneW;rw [(kP hv).1,(kP hv).2];exact ⟨Z,hz⟩
  ·try simp only [decide_eq_true_eq,decide_eq_false_iff_not] at hg2
   refine ak (wg Z Z Z) Z Z (aD Z) (ak (wg Z Z Z) Z Z (aD Z) (ak (wg Z Z Z) Z Z (au aV aJ Z Z ve (il z g row).toNat (by omega) (by omega)) (ak (wg Z Z Z) Z Z (ag aA Z bJ Z Z) (ak (wg Z Z Z) Z Z (ae bd Z Z (be vc 6 Z)) (ak (wg Z Z Z) Z Z (aD Z) (dJ (wg Z Z Z) Z Z (aU func184 Z ox Z) (jc hin.sees.1) (fun v3 w3 r3=>?_)))))));obtain ⟨e3,rfl⟩:=r3;have H6:=H3.to e3;refine sV Z (aO Z Z) (aa (bI Z (fun c1=>?_) (fun c1=>?_)))
   ·refine ab (rA hQ results188 Z ?_);obtain ⟨fp4,H7⟩:=H6.closeW 0 2 3 4 z Z Z Z Z Z Z Z Z Z Z wok1
    try dsimp only[lNA,lCA,lSZ,lSS] at H7
    have hv:gR z f g row=false:=by unfold gR; rw [← hur,decide_eq_true (p:=f∈(vs1.getD (il z g row).toNat default).r.Rows) (by simpa using c1)]; simp
    have hz:=H7.doneW;rw [(kP hv).1,(kP hv).2];exact ⟨Z,hz⟩
   ·refine ah (ac ?_);have hv:gR z f g row=true:=by unfold gR; rw [hgD,hop,← hur,decide_eq_false (by omega),decide_eq_false (by simpa using c1)]; rfl
    have hrr9:ins row 0 (z.Shape.Rows-1)=true:=by rw [← hrow]; exact d2
    refine aj (sR 3 Z (sC func220 Ct Z (qz (H6.box 0 Z) (by assumption) (H6.msees 2 Z) (H6.msees 3 Z) (H6.msees 4 Z) (by assumption) (by assumption) (by assumption) (by assumption)) (fun v4 w4 r4=>?_)));obtain ⟨e4,sa2,sk2,rfl,r4⟩:=r4;obtain ⟨fp5,H8⟩:=H6.res e4 r4;refine sR 5 Z (aa (ac (ab (sM Z Z (sV Z (aX Z) (aa (bI Z (fun c2=>?_) (fun c2=>?_))))))))
    ·refine ab (rA hQ results188 Z ?_);obtain ⟨fp6,H9⟩:=H8.closeW 0 2 3 4 z Z Z Z Z Z Z Z Z Z Z wok1
     try dsimp only[lNA,lCA,lSZ,lSS] at H9
     have hdd:eQ z f=true:=by simpa using c2
     have hz:=H9.doneW;rw [(nC hdd).1,(nC hdd).2];exact ⟨Z,hz⟩
    ·refine ah (ac ?_);obtain ⟨vb8,vo8,ve8,vc8,vok8⟩:=H8.viewAt 5 Z (il z g row).toNat (by omega);have hdd:eQ z f=false:=by simpa using c2
     obtain ⟨hsm1,hsm2⟩:=qm hs hG hf hdd hA hv;obtain ⟨hdt1,hdt2⟩:=xe hs hG hf hdd hA hv;rw [dD] at hdt2;have hbs:cG (vs1.getD (il z g row).toNat default).r≤1048576:=by
      rw [hur];obtain ⟨_,p2⟩:=lF hrc;unfold bareOK at p2;rw [if_neg (by omega),if_neg (by omega),if_neg (by omega)] at p2;simp only [Bool.and_eq_true,decide_eq_true_eq,noName] at p2;have hn:(opR z g row).Name.size=0:=by rw [p2.1]; rfl
      rw [hur] at d6;unfold cG; omega
     refine aj (sR 2 Z (sV Z (au aV aJ Z Z ve8 (il z g row).toNat (by omega) (by omega)) (sV Z (an aA Z aJ Z Z vc8) ?_)));have hin8:=((hR1.to (((Ext.refl.trans e2).trans e3).trans e4)).inAt (k:=(il z g row).toNat) (by omega));refine sC func309 lx Z (eE (r:=(vs1.getD (il z g row).toNat default).r) hin8.ok hin8.sees.1 hin8.sees.2.1 hin8.sees.2.2 hbs) (fun v5 w5 r5=>?_);obtain ⟨e5,sa3,sk3,sa4,sk4,sa5,sk5,rfl,r5⟩:=r5;obtain ⟨fp7,H10⟩:=H8.res e5 r5;obtain ⟨sf1,sf2,sf3,sq2,sok1,so1,so2,so3⟩:=pD (H10.mine 7 Z);have H11:=H10.part 7 Z [mine [.slice _ (vs1.getD (il z g row).toNat default).r.Rows.length _] (vs1.getD (il z g row).toNat default).r.Rows sf1,mine [.slice _ (vs1.getD (il z g row).toNat default).r.Data.length _] (vs1.getD (il z g row).toNat default).r.Data sf2,mine [.slice _ (vs1.getD (il z g row).toNat default).r.Delta.length _] (vs1.getD (il z g row).toNat default).r.Delta sf3] (all_cons so1 (all_cons so2 (all_cons so3 (by simp)))) (by simp [blocks,mine,sq2])
     try dsimp only[lNA,lCA,lSZ,lSS] at H11
     refine bW (wn Z) Z zeroValue55 H11 (fun b1 w6 e6 g1 H12=>bc (wn Z) aJ Z Z Z Z H12 11 Z Z (fun w7 e7 H13=>?_));dsimp only[lNA,lCA,lSZ,lSS,aL] at H13;refine aa (ac ?_);have HR:=H13;rw [hur] at HR d6;have hgr:(gvR z f g row)=⟨(opR z g row).Kind,(opR z g row).Seq,(opR z g row).Name,(opR z g row).Length,(opR z g row).Group,(opR z g row).Row,kG (opR z g row).Rows f,fU (opR z g row).Data (ct (mX z f row) ((opR z g row).Delta.getD f.toNat 0)),(opR z g row).Delta⟩:=Z;have hrk:(gvR z f g row).Ok:=by
      have hk:=hin.ok;rw [hur] at hk;exact hk
     have hfI:I64ok f:=by unfold I64ok; omega
     have hsl9:=dD (mX z f row) ((opR z g row).Delta.getD f.toNat 0);refine aj (sF aA Z bJ (sLd bd (HR.box 11 Z) Z (sM Z Z (sC func310 BA Z (sJ (HR.msees 8 Z) (by first | assumption | omega) (by first | assumption | omega)) (fun v6 w8 r6=>?_)))));obtain ⟨e8,r6⟩:=r6;obtain ⟨fp8,H14⟩:=HR.res e8 r6;obtain ⟨a1,k1,q1⟩:=ax (H14.mine 12 Z);cases q1;refine sF aA Z bJ (bR (wn Z) bJ Z Z Z H14 11 Z Z (fun w9 e9 H15=>?_));dsimp only[lNA,lCA,lSZ,lSS,aL] at H15;refine aa (ac (bE (S:=Ext No _) (oQ [1,3,5,7,9,11,13,15,16,18,21,22]) (by kernel_rfl) (by kernel_rfl) (by kernel_rfl) Z (fun _=>Ext.refl.drawn _) (fun q2=>?_)));have H16:=H15.drawn q2;refine dV Z Z (fun zw hx=>ag aA Z aR Z Z) (dV Z Z (fun zw hx=>ae aM Z Z (am (hx.heap (H16.box 11 Z)) Z)) (dM Z Z Z (dV Z Z (fun zw hx=>ag aA Z aR Z Z) (dV Z Z (fun zw hx=>ae aM Z Z (am (hx.heap (H16.box 11 Z)) Z)) (dM Z Z Z ?_)))));obtain ⟨eb1,eo1,ee1,ec1⟩:=bZ (H16.mine 10 Z) f.toNat (by omega);refine dV Z Z (fun zw hx=>au aM ts5 Z Z ee1 f.toNat (by omega) (by omega)) (dV Z Z (fun zw hx=>ae tu5 Z Z (hx.cell ec1)) (dC func252 lV Z (fm (H16.msees 6 Z) (by omega)) (fun v7 w10 r7=>?_)));obtain ⟨e10,r7⟩:=r7;obtain ⟨fp9,H17⟩:=H16.res e10 r7;obtain ⟨a2,k2,q3⟩:=ax (H17.mine 13 Z);cases q3;refine dC func253 oM Z (jf (H17.msees 9 Z) (H17.msees 13 Z) (by omega)) (fun v8 w11 r8=>?_);obtain ⟨e11,r8⟩:=r8;obtain ⟨fp10,H18⟩:=H17.res e11 r8;obtain ⟨a3,k3,q4⟩:=ax (H18.mine 14 Z);cases q4;refine dV Z Z (fun zw hx=>ag aA Z aR Z Z) (bY Z (wn Z) aR Z Z Z H18 11 Z Z (fun _ _ _ hr=>absurd Z hr) (fun w12 e12 H19=>?_));dsimp only[lNA,lCA,lSZ,lSS,aL] at H19;refine aQ (ab (sM Z Z (sV Z (an aA Z aJ Z Z (At.whole (H19.box 11 Z))) ?_)));obtain ⟨fp11,H20⟩:=H19.closeW 0 2 3 4 z Z Z Z Z Z Z Z Z Z Z wok1
     try dsimp only[lNA,lCA,lSZ,lSS] at H20
     refine sC func302 z3 Z (rC (H20.wldAt 0 Z) (H20.nodup1 (i:=0) Z) (by assumption) (aT (H20.mine 12 Z)) (fun b hb=>H20.apart (i:=0) (j:=12) Z Z Z b hb) (aT (H20.mine 14 Z)) (fun b hb=>H20.apart (i:=0) (j:=14) Z Z Z b hb) (aT (H20.mine 10 Z)) (fun b hb=>H20.apart (i:=0) (j:=10) Z Z Z b hb) (by first | assumption | omega) (by first | assumption | omega) (by first | assumption | omega) (by first | assumption | omega) (by first | assumption | omega) (by first | assumption | omega) (by first | assumption | omega) (r:=(gvR z f g row))) (fun v9 w13 r9=>?_);obtain ⟨rfl,mm1⟩:=r9;obtain ⟨fp12,H21⟩:=H20.mutW 0 Z mm1
     try dsimp only[lNA,lCA,lSZ,lSS] at H21
     refine rA hQ results188 Z ?_;have hz:=H21.doneW;rw [(wh hdd hv).1,(wh hdd hv).2];exact ⟨Z,hz⟩
theorem ji {w:World}{z:Wld}{zb:Nat}{fp:List Nat}{f:Int}(o:OwnW w zb 34 z fp) (nd:fp.Nodup) (hd:z.Down=false) (hwf:ey z=0) (hf:ins f 0 (z.Shape.Groups+z.Shape.Column-1)=true):Ret Tryz.prog 79 #[.pointer (some ⟨zb,0,none⟩),.int .i64 f] w fun v w'=>(v = .int .i64 (gaP z f).1∧MutW w w' fp zb 34 ((gaP z f).2)):=by
 obtain ⟨hs,hG,hO⟩:=cd hwf;obtain ⟨hw0,hw1,_,_⟩:=eU hwf;have sbd:=bt hs;have hI0:=GvI.start hwf o.ok;refine aC (vs:=[.pointer (some ⟨zb,0,none⟩),.int .i64 f]) func79 Z ntmps79 Z (fun Q hQ hN=>?_);have H0:=Sep.beginW o nd;refine ab (sA Z Z (aa (ac (ab (sA Z Z (aa (ao (ba (γ:=Nat × Wld × List Nat) (fun (k,zi,fi)=>[(0,.pointer (some ⟨zb,0,none⟩)),(1,.int .i64 f),(5,.int .i64 k)]) (fun (k,zi,fi) w'=>Sep (· ∈ fp) w [wldR zb 34 zi fi] [] w'∧k≤(z.Shape.Groups+z.Shape.Column).toNat∧gaG f z.Shape.Rows.toNat (z.Shape.Groups+z.Shape.Column).toNat 0 z=gaG f z.Shape.Rows.toNat ((z.Shape.Groups+z.Shape.Column).toNat-k) k zi∧GvI z zi) (fun (k,zi,fi)=>(z.Shape.Groups+z.Shape.Column).toNat-k) (0,z,_) ⟨Z,Z,Z,trivial⟩ ⟨H0,by omega,Z,hI0⟩ (fun (k,zi,fi) w1 H1=>?_)))))))));obtain ⟨H1,hk,hdl,hI⟩:=H1;refine ac (ac ?_);have hsz:zi.Shape=z.Shape:=hI.sh;have hs2z:zi.Shape.ok=true:=by rw [hsz]; exact hs
 have sbd2:=bt hs2z;have hgc:zi.Shape.Groups+zi.Shape.Column=z.Shape.Groups+z.Shape.Column:=by rw [hsz]
 obtain ⟨wA1,wC1,wA2,wC2,wA3,wC3,wf1,wf2,wf3,wok1,H2⟩:=H1.openW 0 Z
 try dsimp only[lNA,lCA,lSZ,lSS] at H2
 have wok1U:=wok1;unfold Wld.Ok Shape.Ok I64ok at wok1U;have wL1:=oL (H2.mine 2 Z);have wL2:=oL (H2.mine 3 Z);have wL3:=oL (H2.mine 4 Z);refine aj (sR 3 Z (sF aW Z cj (sV Z (an br Z cj Z Z (At.sub (H2.box 0 Z) 9)) (sE func187 fC Z (df (by assumption)) H2 (fun w2 e1 H3=>sV Z (aN Z Z) (aa (ay Z (fun c1=>?_) (fun c1=>?_))))))))
 ·refine ah (ac (ao (ab (sA Z Z (aa (ao ?_))))));obtain ⟨fp1,H4⟩:=H3.closeW 0 2 3 4 zi Z Z Z Z Z Z Z Z Z Z wok1
  try dsimp only[lNA,lCA,lSZ,lSS] at H4
  refine ba (γ:=Nat × Wld × List Nat) (fun (j,zj,fj)=>[(0,.pointer (some ⟨zb,0,none⟩)),(1,.int .i64 f),(5,.int .i64 k),(6,.int .i64 j)]) (fun (j,zj,fj) w'=>Sep (· ∈ fp) w [wldR zb 34 zj fj] [] w'∧j≤z.Shape.Rows.toNat∧gaR f k z.Shape.Rows.toNat 0 zi=gaR f k (z.Shape.Rows.toNat-j) j zj∧GvI z zj) (fun (j,zj,fj)=>z.Shape.Rows.toNat-j) (0,zi,_) ⟨Z,Z,Z,Z,trivial⟩ ⟨(H4.dtake 1),by omega,Z,hI⟩ (fun (j,zj,fj) w3 H5=>?_);obtain ⟨H5,hj,hdj,hI⟩:=H5;refine ac (ac ?_);have hsz5:zj.Shape.Rows=z.Shape.Rows:=by rw [hI.sh]
  obtain ⟨wA4,wC4,wA5,wC5,wA6,wC6,wf4,wf5,wf6,wok2,H6⟩:=H5.openW 0 Z
  try dsimp only[lNA,lCA,lSZ,lSS] at H6
  have wok2U:=wok2;unfold Wld.Ok Shape.Ok I64ok at wok2U;have wL4:=oL (H6.mine 2 Z);have wL5:=oL (H6.mine 3 Z);have wL6:=oL (H6.mine 4 Z);refine aj (sR 3 Z (sF aW Z cj (sF br Z ts2 (sLd tu2 (H6.box 0 Z) Z (sV Z (aN Z Z) (aa (ay Z (fun c2=>?_) (fun c2=>?_))))))))
  ·refine ah (ac (ao (ac ?_)));obtain ⟨hs2,hG2,hf2⟩:=hI.hyp hs hG hf;have hd2:zj.Down=false:=hI.dn.trans hd;have hT2:=hI.tp;have hrr2:(zj.Tapes.getD 0 default).Recs.length≤1000∧(zj.Tapes.getD 1 default).Recs.length≤1000:=⟨by have:=hI.r0; omega,by have:=hI.r1; omega⟩;have hrl2:=yL hI.tp hrr2;have hgk:ins (k:Int) 0 (zj.Shape.Groups+zj.Shape.Column-1)=true:=by rw [hI.sh]; exact bQ.2 (by omega)
   have hjk:ins (j:Int) 0 (zj.Shape.Rows-1)=true:=by rw [hI.sh]; exact bQ.2 (by omega)
   have hA2:=hI.rc;have hq2:=hI.sq;have hww:zj.Writes≤1500000000:=by have:=hI.wr; have:=hI.r0; have:=hI.r1; omega
   refine aj (sR 3 Z (sM Z Z ?_));obtain ⟨fp2,H7⟩:=H6.closeW 0 2 3 4 zj Z Z Z Z Z Z Z Z Z Z wok2
   try dsimp only[lNA,lCA,lSZ,lSS] at H7
   refine sC func188 Cj Z (rz (H7.wldAt 0 Z) (H7.nodup1 (i:=0) Z) (by first | assumption | omega) (by first | assumption | omega) (by first | assumption | omega) (by first | assumption | omega) (by first | assumption | omega) (by first | assumption | omega) (by first | assumption | omega) (by first | assumption | omega) (by first | assumption | omega) (by first | assumption | omega) (by first | assumption | omega) (by first | assumption | omega)) (fun v2 w4 r2=>?_);obtain ⟨rfl,mm1⟩:=r2;obtain ⟨fp3,H8⟩:=H7.mutW 0 Z mm1
   try dsimp only[lNA,lCA,lSZ,lSS] at H8
   refine sA Z Z (aa (ab (sR 2 Z (aa (ay Z (fun c3=>?_) (fun c3=>?_))))))
   ·refine ab (sR 2 Z (rN hQ results79 Z ?_));have hcn:gwC zj f k j≠0:=by omega
    have e1:gaR f k z.Shape.Rows.toNat 0 zi=(gwC zj f k j,gwZ zj f k j):=by rw [hdj]; exact ya (m:=z.Shape.Rows.toNat-(j+1)) (by omega) hcn
    have e2:gaP z f=(gwC zj f k j,gwZ zj f k j):=by rw [gaP,hdl,yj (q:=(z.Shape.Groups+z.Shape.Column).toNat-(k+1)) (by omega) (by rw [e1]; exact hcn),e1]
    rw [e2];exact ⟨Z,H8.doneW⟩
   ·refine ah (aj (sM Z Z (sV Z (az Z Z iO) (sA Z Z (aa ?_)))));have hc0:gwC zj f k j=0:=by omega
    exact ⟨(j+1,gwZ zj f k j,_),⟨Z,Z,Z,Z,trivial⟩,⟨(H8.dtake 1),by (try dsimp only); omega,by (try dsimp only); rw [hdj,B0 (m:=z.Shape.Rows.toNat-(j+1)) (by omega) hc0],hI.step hs hG hw1 hf hc0⟩,by dsimp only; omega⟩
  ·refine aG (aj (sM Z Z (sV Z (az Z Z iO) (sA Z Z (aa ?_)))));obtain ⟨fp4,H9⟩:=H6.closeW 0 2 3 4 zj Z Z Z Z Z Z Z Z Z Z wok2
   try dsimp only[lNA,lCA,lSZ,lSS] at H9
   obtain rfl:j=z.Shape.Rows.toNat:=by omega
   have e1:gaR f k z.Shape.Rows.toNat 0 zi=(0,zj):=by rw [hdj]; exact Di (by omega)
   exact ⟨(k+1,zj,_),⟨Z,Z,Z,trivial⟩,⟨(H9.dtake 1),by (try dsimp only); omega,by (try dsimp only); rw [hdl,Fi (q:=(z.Shape.Groups+z.Shape.Column).toNat-(k+1)) (by omega) (by rw [e1]),e1],hI⟩,by dsimp only; omega⟩
 ·refine aG (ab (rA hQ results79 Z ?_));obtain ⟨fp5,H10⟩:=H3.closeW 0 2 3 4 zi Z Z Z Z Z Z Z Z Z Z wok1
  try dsimp only[lNA,lCA,lSZ,lSS] at H10
  have e2:gaP z f=(0,zi):=by rw [gaP,hdl]; exact Dg (by omega)
  rw [e2];exact ⟨Z,H10.doneW⟩
end Go.Wk
namespace Go.Wk
open Go.Proofs Rp Go.Proofs.Tryz
set_option maxRecDepth 10000
theorem jX {w:World}{z:Wld}{zA9 zA10 zA11:Option Addr}{zC9 zC10 zC11:Nat}{f:Int}(zK:z.Ok) (zS9:Sees w [.slice zA9 z.Groups.length zC9] z.Groups) (zS10:Sees w [.slice zA10 z.On.length zC10] z.On) (zS11:Sees w [.slice zA11 z.Tapes.length zC11] z.Tapes) (hb:gm z≤1048576) (hc:(gaP z f).1≠0∧(gaP z f).1≠9):Ret Tryz.prog 18 #[z.val zA9 zC9 zA10 zC10 zA11 zC11,.int .i64 f] w fun v w'=>Ext No w w'∧(∃ A10 C10 A11 C11 A12 C12,v=(gaF z f).val A10 C10 A11 C11 A12 C12∧Res w w' [.int .i64 (gaF z f).Code,.int .i64 (gaF z f).Wd.Shape.Groups,.int .i64 (gaF z f).Wd.Shape.Column,.int .i64 (gaF z f).Wd.Shape.Data,.int .i64 (gaF z f).Wd.Shape.Spare,.int .i64 (gaF z f).Wd.Shape.Rows,.int .i64 (gaF z f).Wd.Shape.Cap,.int .i64 (gaF z f).Wd.Shape.Batch,.int .i64 (gaF z f).Wd.Shape.Queue,.int .i64 (gaF z f).Wd.Shape.Stage,.slice A10 (gaF z f).Wd.Groups.length C10,.slice A11 (gaF z f).Wd.On.length C11,.slice A12 (gaF z f).Wd.Tapes.length C12,.int .i64 (gaF z f).Wd.Writes,.int .i64 (gaF z f).Wd.Stop,.bool (gaF z f).Wd.Down] (gaF z f)):=by
 have zK2:=zK;unfold Wld.Ok Shape.Ok at zK2
 try unfold I64ok at zK2
 try unfold maxLen at zK2
 have zL9:=sL zS9;obtain ⟨zF9,zO9⟩:=zS9;have zL10:=sL zS10;obtain ⟨zF10,zO10⟩:=zS10;have zL11:=sL zS11;obtain ⟨zF11,zO11⟩:=zS11;refine aC (vs:=[z.val zA9 zC9 zA10 zC10 zA11 zC11,.int .i64 f]) func18 Z ntmps18 Z (fun Q hQ hN=>?_);have H0:=Sep.start (w:=w) (F:=[seen false [.slice zA9 z.Groups.length zC9] z.Groups zF9,seen false [.slice zA10 z.On.length zC10] z.On zF10,seen false [.slice zA11 z.Tapes.length zC11] z.Tapes zF11]) (all_cons zO9 (all_cons zO10 (all_cons zO11 (by simp))));refine ab (aZ (wn Z) Z Z H0 (fun b1 w1 e1 g1 H1=>bW (wn Z) Z zeroValue36 H1 (fun b2 w2 e2 g2 H2=>aa (ab (sV Z (an aW Z dd Z Z (At.whole (H2.box 0 Z))) (sE func85 vK Z (kp (by assumption) (H2.sees 0 Z) (H2.sees 1 Z) (H2.sees 2 Z)) H2 (fun w3 e3 H3=>sA Z Z (aa (ac (ab (sR 2 Z (aa (ay Z (fun c1=>?_) (fun c1=>?_))))))))))))))
 ·have hs:=(cd (iB (w:=z) (by omega)).1).1;refine aj (sM Z Z (sE func86 vP Z (fB (H3.box 0 Z) (by assumption) (H3.sees 0 Z) (H3.sees 1 Z) (H3.sees 2 Z) (by assumption)) H3 (fun w4 e4 H4=>sA Z Z (aa (ac (ab (sR 2 Z (aa (ay Z (fun c2=>?_) (fun c2=>?_))))))))))
  ·refine ab (sM Z Z (sV Z (cz en Z Z) (bc (wn Z) dQ Z Z Z Z H4 1 Z Z (fun w5 e5 H5=>?_))));dsimp only[lNA,lCA,lSZ,lSS,aL] at H5;refine aa (bM (hQ _ _ (dI results18 Z (aI gd Z dQ Z (At.whole (H5.box 1 Z))) ?_)));have hu:upF z=0:=by omega
   have aq:=kK (z:=z) (g:=f) hu;rw [gaF,pT hu (by rw [aq]; omega),aq];exact ⟨H5.ext,none,0,none,0,none,0,Z,ij (by unfold I64ok; have h9:=lg (z:=z) (g:=f) (row:=0); rw [aq] at h9; (try dsimp only); omega)⟩
  ·refine ah (ac ?_);have hu:upF z=0:=by omega
   have aq:eN z f 0=0:=by rw [kK hu]; omega
   obtain ⟨_,_,hf,_,_⟩:=gQ aq;obtain ⟨hwf,hdn⟩:=iB hu;obtain ⟨hs,hG,hO⟩:=cd hwf;have hT:=(cd hwf).2.2.2.1;obtain ⟨hw0,hw1,_,_⟩:=eU hwf;have hrl:=nu hwf;have hrl2:=kf hwf;have hq:=fD hwf;refine aj (sV Z (an aW Z dd Z Z (At.whole (H4.box 0 Z))) (sC func87 nw Z (eu (by assumption) (H4.sees 0 Z) (H4.sees 1 Z) (H4.sees 2 Z) (by first | assumption | omega)) (fun v3 w6 r3=>?_)));obtain ⟨e6,sa1,sk1,sa2,sk2,sa3,sk3,rfl,r3⟩:=r3;obtain ⟨fp1,H6⟩:=H4.res e6 r3;obtain ⟨sf1,sf2,sf3,sq1,sok1,so1,so2,so3⟩:=eL (H6.mine 2 Z);have H7:=H6.part 2 Z [mine [.slice _ z.Groups.length _] z.Groups sf1,mine [.slice _ z.On.length _] z.On sf2,mine [.slice _ z.Tapes.length _] z.Tapes sf3] (all_cons so1 (all_cons so2 (all_cons so3 (by simp)))) (by simp [blocks,mine,sq1])
   try dsimp only[lNA,lCA,lSZ,lSS] at H7
   refine bW (wn Z) Z zeroValue34 H7 (fun b3 w7 e7 g3 H8=>bc (wn Z) dd Z Z Z Z H8 6 Z Z (fun w8 e8 H9=>?_));dsimp only[lNA,lCA,lSZ,lSS,aL] at H9;refine aa (ab (sM Z Z ?_));obtain ⟨fp2,H10⟩:=H9.closeW 6 3 4 5 z Z Z Z Z Z Z Z Z Z Z zK
   try dsimp only[lNA,lCA,lSZ,lSS] at H10
   refine sC func88 nl Z (cZ (H10.wldAt 6 Z) (H10.nodup1 (i:=6) Z) (by first | assumption | omega) (by first | assumption | omega)) (fun v4 w9 r4=>?_);obtain ⟨rfl,mm1⟩:=r4;obtain ⟨fp3,H11⟩:=H10.mutW 6 Z mm1
   try dsimp only[lNA,lCA,lSZ,lSS] at H11
   refine sA Z Z (aa (ac ?_));obtain ⟨wA1,wC1,wA2,wC2,wA3,wC3,wf1,wf2,wf3,wok1,H12⟩:=H11.openW 6 Z
   try dsimp only[lNA,lCA,lSZ,lSS] at H12
   have wok1U:=wok1;unfold Wld.Ok Shape.Ok I64ok at wok1U;have wL1:=oL (H12.mine 8 Z);have wL2:=oL (H12.mine 9 Z);have wL3:=oL (H12.mine 10 Z);refine aj (sV Z (an aW Z dd Z Z (At.whole (H12.box 6 Z))) (sM Z Z (sE func89 nq Z (i9 (by assumption) (H12.msees 8 Z) (H12.msees 9 Z) (H12.msees 10 Z) (by first | assumption | omega)) H12 (fun w10 e10 H13=>bc (wn Z) dQ Z Z Z Z H13 1 Z Z (fun w11 e11 H14=>?_)))));dsimp only[lNA,lCA,lSZ,lSS,aL] at H14;refine aa (bM (hQ _ _ (dI results18 Z (aI gd Z dQ Z (At.whole (H14.box 1 Z))) ?_)));rw [gaF,xq hu aq hc];exact ⟨H14.ext,none,0,none,0,none,0,Z,ij (by unfold I64ok; have:=o5 (z:=z) (f:=f); (try dsimp only); omega)⟩
 ·refine ah (ac (ab (sR 2 Z (aa (ay Z (fun c3=>?_) (fun c3=>?_))))))
  ·refine ab (sM Z Z (sV Z (cz en Z Z) (bc (wn Z) dQ Z Z Z Z H3 1 Z Z (fun w12 e12 H15=>?_))));dsimp only[lNA,lCA,lSZ,lSS,aL] at H15;refine aa (bM (hQ _ _ (dI results18 Z (aI gd Z dQ Z (At.whole (H15.box 1 Z))) ?_)));rw [gaF,ti (by omega)];exact ⟨H15.ext,none,0,none,0,none,0,Z,ij (by unfold I64ok; have:=rI (z:=z); (try dsimp only); omega)⟩
  ·refine ah (ac ?_);have hu:upF z=0:=by omega
   have aq:eN z f 0=0:=by rw [kK hu]; omega
   obtain ⟨_,_,hf,_,_⟩:=gQ aq;obtain ⟨hwf,hdn⟩:=iB hu;obtain ⟨hs,hG,hO⟩:=cd hwf;have hT:=(cd hwf).2.2.2.1;obtain ⟨hw0,hw1,_,_⟩:=eU hwf;have hrl:=nu hwf;have hrl2:=kf hwf;have hq:=fD hwf;refine aj (sV Z (an aW Z dd Z Z (At.whole (H3.box 0 Z))) (sC func87 nw Z (eu (by assumption) (H3.sees 0 Z) (H3.sees 1 Z) (H3.sees 2 Z) (by first | assumption | omega)) (fun v6 w13 r6=>?_)));obtain ⟨e13,sa4,sk4,sa5,sk5,sa6,sk6,rfl,r6⟩:=r6;obtain ⟨fp4,H16⟩:=H3.res e13 r6;obtain ⟨sf4,sf5,sf6,sq2,sok2,so4,so5,so6⟩:=eL (H16.mine 2 Z);have H17:=H16.part 2 Z [mine [.slice _ z.Groups.length _] z.Groups sf4,mine [.slice _ z.On.length _] z.On sf5,mine [.slice _ z.Tapes.length _] z.Tapes sf6] (all_cons so4 (all_cons so5 (all_cons so6 (by simp)))) (by simp [blocks,mine,sq2])
   try dsimp only[lNA,lCA,lSZ,lSS] at H17
   refine bW (wn Z) Z zeroValue34 H17 (fun b4 w14 e14 g4 H18=>bc (wn Z) dd Z Z Z Z H18 6 Z Z (fun w15 e15 H19=>?_));dsimp only[lNA,lCA,lSZ,lSS,aL] at H19;refine aa (ab (sM Z Z ?_));obtain ⟨fp5,H20⟩:=H19.closeW 6 3 4 5 z Z Z Z Z Z Z Z Z Z Z zK
   try dsimp only[lNA,lCA,lSZ,lSS] at H20
   refine sC func88 nl Z (cZ (H20.wldAt 6 Z) (H20.nodup1 (i:=6) Z) (by first | assumption | omega) (by first | assumption | omega)) (fun v7 w16 r7=>?_);obtain ⟨rfl,mm2⟩:=r7;obtain ⟨fp6,H21⟩:=H20.mutW 6 Z mm2
   try dsimp only[lNA,lCA,lSZ,lSS] at H21
   refine sA Z Z (aa (ac ?_));obtain ⟨wA4,wC4,wA5,wC5,wA6,wC6,wf4,wf5,wf6,wok2,H22⟩:=H21.openW 6 Z
   try dsimp only[lNA,lCA,lSZ,lSS] at H22
   have wok2U:=wok2;unfold Wld.Ok Shape.Ok I64ok at wok2U;have wL4:=oL (H22.mine 8 Z);have wL5:=oL (H22.mine 9 Z);have wL6:=oL (H22.mine 10 Z);refine aj (sV Z (an aW Z dd Z Z (At.whole (H22.box 6 Z))) (sM Z Z (sE func89 nq Z (i9 (by assumption) (H22.msees 8 Z) (H22.msees 9 Z) (H22.msees 10 Z) (by first | assumption | omega)) H22 (fun w17 e17 H23=>bc (wn Z) dQ Z Z Z Z H23 1 Z Z (fun w18 e18 H24=>?_)))));dsimp only[lNA,lCA,lSZ,lSS,aL] at H24;refine aa (bM (hQ _ _ (dI results18 Z (aI gd Z dQ Z (At.whole (H24.box 1 Z))) ?_)));rw [gaF,xq hu aq hc];exact ⟨H24.ext,none,0,none,0,none,0,Z,ij (by unfold I64ok; have:=o5 (z:=z) (f:=f); (try dsimp only); omega)⟩
theorem kW {w:World}{z:Wld}{zA9 zA10 zA11:Option Addr}{zC9 zC10 zC11:Nat}{f:Int}(zK:z.Ok) (zS9:Sees w [.slice zA9 z.Groups.length zC9] z.Groups) (zS10:Sees w [.slice zA10 z.On.length zC10] z.On) (zS11:Sees w [.slice zA11 z.Tapes.length zC11] z.Tapes) (hb:gm z≤1048576) (hc:(gaP z f).1=0∨(gaP z f).1=9):Ret Tryz.prog 18 #[z.val zA9 zC9 zA10 zC10 zA11 zC11,.int .i64 f] w fun v w'=>Ext No w w'∧(∃ A10 C10 A11 C11 A12 C12,v=(gaF z f).val A10 C10 A11 C11 A12 C12∧Res w w' [.int .i64 (gaF z f).Code,.int .i64 (gaF z f).Wd.Shape.Groups,.int .i64 (gaF z f).Wd.Shape.Column,.int .i64 (gaF z f).Wd.Shape.Data,.int .i64 (gaF z f).Wd.Shape.Spare,.int .i64 (gaF z f).Wd.Shape.Rows,.int .i64 (gaF z f).Wd.Shape.Cap,.int .i64 (gaF z f).Wd.Shape.Batch,.int .i64 (gaF z f).Wd.Shape.Queue,.int .i64 (gaF z f).Wd.Shape.Stage,.slice A10 (gaF z f).Wd.Groups.length C10,.slice A11 (gaF z f).Wd.On.length C11,.slice A12 (gaF z f).Wd.Tapes.length C12,.int .i64 (gaF z f).Wd.Writes,.int .i64 (gaF z f).Wd.Stop,.bool (gaF z f).Wd.Down] (gaF z f)):=by
 have zK2:=zK;unfold Wld.Ok Shape.Ok at zK2
 try unfold I64ok at zK2
 try unfold maxLen at zK2
 have zL9:=sL zS9;obtain ⟨zF9,zO9⟩:=zS9;have zL10:=sL zS10;obtain ⟨zF10,zO10⟩:=zS10;have zL11:=sL zS11;obtain ⟨zF11,zO11⟩:=zS11;refine aC (vs:=[z.val zA9 zC9 zA10 zC10 zA11 zC11,.int .i64 f]) func18 Z ntmps18 Z (fun Q hQ hN=>?_);have H0:=Sep.start (w:=w) (F:=[seen false [.slice zA9 z.Groups.length zC9] z.Groups zF9,seen false [.slice zA10 z.On.length zC10] z.On zF10,seen false [.slice zA11 z.Tapes.length zC11] z.Tapes zF11]) (all_cons zO9 (all_cons zO10 (all_cons zO11 (by simp))));refine ab (aZ (wn Z) Z Z H0 (fun b1 w1 e1 g1 H1=>bW (wn Z) Z zeroValue36 H1 (fun b2 w2 e2 g2 H2=>aa (ab (sV Z (an aW Z dd Z Z (At.whole (H2.box 0 Z))) (sE func85 vK Z (kp (by assumption) (H2.sees 0 Z) (H2.sees 1 Z) (H2.sees 2 Z)) H2 (fun w3 e3 H3=>sA Z Z (aa (ac (ab (sR 2 Z (aa (ay Z (fun c1=>?_) (fun c1=>?_))))))))))))))
 ·have hs:=(cd (iB (w:=z) (by omega)).1).1;refine aj (sM Z Z (sE func86 vP Z (fB (H3.box 0 Z) (by assumption) (H3.sees 0 Z) (H3.sees 1 Z) (H3.sees 2 Z) (by assumption)) H3 (fun w4 e4 H4=>sA Z Z (aa (ac (ab (sR 2 Z (aa (ay Z (fun c2=>?_) (fun c2=>?_))))))))))
  ·refine ab (sM Z Z (sV Z (cz en Z Z) (bc (wn Z) dQ Z Z Z Z H4 1 Z Z (fun w5 e5 H5=>?_))));dsimp only[lNA,lCA,lSZ,lSS,aL] at H5;refine aa (bM (hQ _ _ (dI results18 Z (aI gd Z dQ Z (At.whole (H5.box 1 Z))) ?_)));have hu:upF z=0:=by omega
   have aq:=kK (z:=z) (g:=f) hu;rw [gaF,pT hu (by rw [aq]; omega),aq];exact ⟨H5.ext,none,0,none,0,none,0,Z,ij (by unfold I64ok; have h9:=lg (z:=z) (g:=f) (row:=0); rw [aq] at h9; (try dsimp only); omega)⟩
  ·refine ah (ac ?_);have hu:upF z=0:=by omega
   have aq:eN z f 0=0:=by rw [kK hu]; omega
   obtain ⟨_,_,hf,_,_⟩:=gQ aq;obtain ⟨hwf,hdn⟩:=iB hu;obtain ⟨hs,hG,hO⟩:=cd hwf;have hT:=(cd hwf).2.2.2.1;obtain ⟨hw0,hw1,_,_⟩:=eU hwf;have hrl:=nu hwf;have hrl2:=kf hwf;have hq:=fD hwf;refine aj (sV Z (an aW Z dd Z Z (At.whole (H4.box 0 Z))) (sC func87 nw Z (eu (by assumption) (H4.sees 0 Z) (H4.sees 1 Z) (H4.sees 2 Z) (by first | assumption | omega)) (fun v3 w6 r3=>?_)));obtain ⟨e6,sa1,sk1,sa2,sk2,sa3,sk3,rfl,r3⟩:=r3;obtain ⟨fp1,H6⟩:=H4.res e6 r3;obtain ⟨sf1,sf2,sf3,sq1,sok1,so1,so2,so3⟩:=eL (H6.mine 2 Z);have H7:=H6.part 2 Z [mine [.slice _ z.Groups.length _] z.Groups sf1,mine [.slice _ z.On.length _] z.On sf2,mine [.slice _ z.Tapes.length _] z.Tapes sf3] (all_cons so1 (all_cons so2 (all_cons so3 (by simp)))) (by simp [blocks,mine,sq1])
   try dsimp only[lNA,lCA,lSZ,lSS] at H7
   refine bW (wn Z) Z zeroValue34 H7 (fun b3 w7 e7 g3 H8=>bc (wn Z) dd Z Z Z Z H8 6 Z Z (fun w8 e8 H9=>?_));dsimp only[lNA,lCA,lSZ,lSS,aL] at H9;refine aa (ab (sM Z Z ?_));obtain ⟨fp2,H10⟩:=H9.closeW 6 3 4 5 z Z Z Z Z Z Z Z Z Z Z zK
   try dsimp only[lNA,lCA,lSZ,lSS] at H10
   refine sC func88 nl Z (cZ (H10.wldAt 6 Z) (H10.nodup1 (i:=6) Z) (by first | assumption | omega) (by first | assumption | omega)) (fun v4 w9 r4=>?_);obtain ⟨rfl,mm1⟩:=r4;obtain ⟨fp3,H11⟩:=H10.mutW 6 Z mm1
   try dsimp only[lNA,lCA,lSZ,lSS] at H11
   refine sA Z Z (aa (ac ?_));obtain ⟨wA1,wC1,wA2,wC2,wA3,wC3,wf1,wf2,wf3,wok1,H12⟩:=H11.openW 6 Z
   try dsimp only[lNA,lCA,lSZ,lSS] at H12
   have wok1U:=wok1;unfold Wld.Ok Shape.Ok I64ok at wok1U;have wL1:=oL (H12.mine 8 Z);have wL2:=oL (H12.mine 9 Z);have wL3:=oL (H12.mine 10 Z);refine aj (sV Z (an aW Z dd Z Z (At.whole (H12.box 6 Z))) (sM Z Z (sE func89 nq Z (iq (by assumption) (H12.msees 8 Z) (H12.msees 9 Z) (H12.msees 10 Z) (by first | assumption | (split<;>simp))) H12 (fun w10 e10 H13=>bc (wn Z) dQ Z Z Z Z H13 1 Z Z (fun w11 e11 H14=>?_)))));dsimp only[lNA,lCA,lSZ,lSS,aL] at H14;refine aa (bM (hQ _ _ (dI results18 Z (aI gd Z dQ Z (At.whole (H14.box 1 Z))) ?_)));rw [gaF,xv hu aq hc];exact ⟨H14.ext,_,_,_,_,_,_,Z,WldResult.out (x:=⟨(gaP z f).1,(gaP z f).2⟩) (H14.sub (.cons _ (.cons _ (.cons _ (.cons _ (.cons _ (.cons _ (.cons _ (.cons _ (.cons_cons _ (.cons_cons _ (.cons_cons _ List.Sublist.slnil)))))))))))) ⟨(by have:=o5 (z:=z) (f:=f); show I64ok ((gaP z f).1); unfold I64ok; omega),(by assumption)⟩⟩
 ·refine ah (ac (ab (sR 2 Z (aa (ay Z (fun c3=>?_) (fun c3=>?_))))))
  ·refine ab (sM Z Z (sV Z (cz en Z Z) (bc (wn Z) dQ Z Z Z Z H3 1 Z Z (fun w12 e12 H15=>?_))));dsimp only[lNA,lCA,lSZ,lSS,aL] at H15;refine aa (bM (hQ _ _ (dI results18 Z (aI gd Z dQ Z (At.whole (H15.box 1 Z))) ?_)));rw [gaF,ti (by omega)];exact ⟨H15.ext,none,0,none,0,none,0,Z,ij (by unfold I64ok; have:=rI (z:=z); (try dsimp only); omega)⟩
  ·refine ah (ac ?_);have hu:upF z=0:=by omega
   have aq:eN z f 0=0:=by rw [kK hu]; omega
   obtain ⟨_,_,hf,_,_⟩:=gQ aq;obtain ⟨hwf,hdn⟩:=iB hu;obtain ⟨hs,hG,hO⟩:=cd hwf;have hT:=(cd hwf).2.2.2.1;obtain ⟨hw0,hw1,_,_⟩:=eU hwf;have hrl:=nu hwf;have hrl2:=kf hwf;have hq:=fD hwf;refine aj (sV Z (an aW Z dd Z Z (At.whole (H3.box 0 Z))) (sC func87 nw Z (eu (by assumption) (H3.sees 0 Z) (H3.sees 1 Z) (H3.sees 2 Z) (by first | assumption | omega)) (fun v6 w13 r6=>?_)));obtain ⟨e13,sa4,sk4,sa5,sk5,sa6,sk6,rfl,r6⟩:=r6;obtain ⟨fp4,H16⟩:=H3.res e13 r6;obtain ⟨sf4,sf5,sf6,sq2,sok2,so4,so5,so6⟩:=eL (H16.mine 2 Z);have H17:=H16.part 2 Z [mine [.slice _ z.Groups.length _] z.Groups sf4,mine [.slice _ z.On.length _] z.On sf5,mine [.slice _ z.Tapes.length _] z.Tapes sf6] (all_cons so4 (all_cons so5 (all_cons so6 (by simp)))) (by simp [blocks,mine,sq2])
   try dsimp only[lNA,lCA,lSZ,lSS] at H17
   refine bW (wn Z) Z zeroValue34 H17 (fun b4 w14 e14 g4 H18=>bc (wn Z) dd Z Z Z Z H18 6 Z Z (fun w15 e15 H19=>?_));dsimp only[lNA,lCA,lSZ,lSS,aL] at H19;refine aa (ab (sM Z Z ?_));obtain ⟨fp5,H20⟩:=H19.closeW 6 3 4 5 z Z Z Z Z Z Z Z Z Z Z zK
   try dsimp only[lNA,lCA,lSZ,lSS] at H20
   refine sC func88 nl Z (cZ (H20.wldAt 6 Z) (H20.nodup1 (i:=6) Z) (by first | assumption | omega) (by first | assumption | omega)) (fun v7 w16 r7=>?_);obtain ⟨rfl,mm2⟩:=r7;obtain ⟨fp6,H21⟩:=H20.mutW 6 Z mm2
   try dsimp only[lNA,lCA,lSZ,lSS] at H21
   refine sA Z Z (aa (ac ?_));obtain ⟨wA4,wC4,wA5,wC5,wA6,wC6,wf4,wf5,wf6,wok2,H22⟩:=H21.openW 6 Z
   try dsimp only[lNA,lCA,lSZ,lSS] at H22
   have wok2U:=wok2;unfold Wld.Ok Shape.Ok I64ok at wok2U;have wL4:=oL (H22.mine 8 Z);have wL5:=oL (H22.mine 9 Z);have wL6:=oL (H22.mine 10 Z);refine aj (sV Z (an aW Z dd Z Z (At.whole (H22.box 6 Z))) (sM Z Z (sE func89 nq Z (iq (by assumption) (H22.msees 8 Z) (H22.msees 9 Z) (H22.msees 10 Z) (by first | assumption | (split<;>simp))) H22 (fun w17 e17 H23=>bc (wn Z) dQ Z Z Z Z H23 1 Z Z (fun w18 e18 H24=>?_)))));dsimp only[lNA,lCA,lSZ,lSS,aL] at H24;refine aa (bM (hQ _ _ (dI results18 Z (aI gd Z dQ Z (At.whole (H24.box 1 Z))) ?_)));rw [gaF,xv hu aq hc];exact ⟨H24.ext,_,_,_,_,_,_,Z,WldResult.out (x:=⟨(gaP z f).1,(gaP z f).2⟩) (H24.sub (.cons _ (.cons _ (.cons _ (.cons _ (.cons _ (.cons _ (.cons _ (.cons _ (.cons_cons _ (.cons_cons _ (.cons_cons _ List.Sublist.slnil)))))))))))) ⟨(by have:=o5 (z:=z) (f:=f); show I64ok ((gaP z f).1); unfold I64ok; omega),(by assumption)⟩⟩
theorem iY {w:World}{z:Wld}{zA9 zA10 zA11:Option Addr}{zC9 zC10 zC11:Nat}{f:Int}(zK:z.Ok) (zS9:Sees w [.slice zA9 z.Groups.length zC9] z.Groups) (zS10:Sees w [.slice zA10 z.On.length zC10] z.On) (zS11:Sees w [.slice zA11 z.Tapes.length zC11] z.Tapes) (hb:gm z≤1048576):Ret Tryz.prog 18 #[z.val zA9 zC9 zA10 zC10 zA11 zC11,.int .i64 f] w fun v w'=>Ext No w w'∧(∃ A10 C10 A11 C11 A12 C12,v=(gaF z f).val A10 C10 A11 C11 A12 C12∧Res w w' [.int .i64 (gaF z f).Code,.int .i64 (gaF z f).Wd.Shape.Groups,.int .i64 (gaF z f).Wd.Shape.Column,.int .i64 (gaF z f).Wd.Shape.Data,.int .i64 (gaF z f).Wd.Shape.Spare,.int .i64 (gaF z f).Wd.Shape.Rows,.int .i64 (gaF z f).Wd.Shape.Cap,.int .i64 (gaF z f).Wd.Shape.Batch,.int .i64 (gaF z f).Wd.Shape.Queue,.int .i64 (gaF z f).Wd.Shape.Stage,.slice A10 (gaF z f).Wd.Groups.length C10,.slice A11 (gaF z f).Wd.On.length C11,.slice A12 (gaF z f).Wd.Tapes.length C12,.int .i64 (gaF z f).Wd.Writes,.int .i64 (gaF z f).Wd.Stop,.bool (gaF z f).Wd.Down] (gaF z f)):=by
 by_cases h2:(gaP z f).1=0∨(gaP z f).1=9
 ·exact kW zK zS9 zS10 zS11 hb h2
 ·exact jX zK zS9 zS10 zS11 hb (by omega)
theorem jZ {w:World}{z:Wld}{zA9 zA10 zA11:Option Addr}{zC9 zC10 zC11:Nat}{f:Int}(zK:z.Ok) (zS9:Sees w [.slice zA9 z.Groups.length zC9] z.Groups) (zS10:Sees w [.slice zA10 z.On.length zC10] z.On) (zS11:Sees w [.slice zA11 z.Tapes.length zC11] z.Tapes) (hb:gm z≤1048576) (hc:(gaP z f).1≠0∧(gaP z f).1≠9):Ret Tryz.prog 16 #[z.val zA9 zC9 zA10 zC10 zA11 zC11,.int .i64 f] w fun v w'=>Ext No w w'∧(∃ A10 C10 A11 C11 A12 C12,v=(gaF z f).val A10 C10 A11 C11 A12 C12∧Res w w' [.int .i64 (gaF z f).Code,.int .i64 (gaF z f).Wd.Shape.Groups,.int .i64 (gaF z f).Wd.Shape.Column,.int .i64 (gaF z f).Wd.Shape.Data,.int .i64 (gaF z f).Wd.Shape.Spare,.int .i64 (gaF z f).Wd.Shape.Rows,.int .i64 (gaF z f).Wd.Shape.Cap,.int .i64 (gaF z f).Wd.Shape.Batch,.int .i64 (gaF z f).Wd.Shape.Queue,.int .i64 (gaF z f).Wd.Shape.Stage,.slice A10 (gaF z f).Wd.Groups.length C10,.slice A11 (gaF z f).Wd.On.length C11,.slice A12 (gaF z f).Wd.Tapes.length C12,.int .i64 (gaF z f).Wd.Writes,.int .i64 (gaF z f).Wd.Stop,.bool (gaF z f).Wd.Down] (gaF z f)):=by
 have zK2:=zK;unfold Wld.Ok Shape.Ok at zK2
 try unfold I64ok at zK2
 try unfold maxLen at zK2
 have zL9:=sL zS9;obtain ⟨zF9,zO9⟩:=zS9;have zL10:=sL zS10;obtain ⟨zF10,zO10⟩:=zS10;have zL11:=sL zS11;obtain ⟨zF11,zO11⟩:=zS11;refine aC (vs:=[z.val zA9 zC9 zA10 zC10 zA11 zC11,.int .i64 f]) func16 Z ntmps16 Z (fun Q hQ hN=>?_);have H0:=Sep.start (w:=w) (F:=[seen false [.slice zA9 z.Groups.length zC9] z.Groups zF9,seen false [.slice zA10 z.On.length zC10] z.On zF10,seen false [.slice zA11 z.Tapes.length zC11] z.Tapes zF11]) (all_cons zO9 (all_cons zO10 (all_cons zO11 (by simp))));refine ab (aZ (wn Z) Z Z H0 (fun b1 w1 e1 g1 H1=>bW (wn Z) Z zeroValue36 H1 (fun b2 w2 e2 g2 H2=>aa (ac (ab (sV Z (an aW Z dd Z Z (At.whole (H2.box 0 Z))) (sM Z Z (sE func77 wV Z (ku (by assumption) (H2.sees 0 Z) (H2.sees 1 Z) (H2.sees 2 Z)) H2 (fun w3 e3 H3=>sA Z Z (aa (ab (sR 2 Z (aa (ay Z (fun c1=>?_) (fun c1=>?_)))))))))))))))
 ·refine ab (sM Z Z (sV Z (cz en Z Z) (bc (wn Z) dQ Z Z Z Z H3 1 Z Z (fun w4 e4 H4=>?_))));dsimp only[lNA,lCA,lSZ,lSS,aL] at H4;refine aa (bM (hQ _ _ (dI results16 Z (aI gd Z dQ Z (At.whole (H4.box 1 Z))) ?_)))
  by_cases hu:upF z=0
  ·rw [gaF,pT hu (by omega)];exact ⟨H4.ext,none,0,none,0,none,0,Z,ij (by unfold I64ok; have:=lg (z:=z) (g:=f) (row:=0); (try dsimp only); omega)⟩
  ·rw [gaF,ti hu,show eN z f 0=upF z from Df hu];exact ⟨H4.ext,none,0,none,0,none,0,Z,ij (by unfold I64ok; have:=rI (z:=z); (try dsimp only); omega)⟩
 ·refine ah (ac ?_);have aq:eN z f 0=0:=by omega
  have hu:=vm aq;obtain ⟨_,_,hf,_,_⟩:=gQ aq;obtain ⟨hwf,hdn⟩:=iB hu;obtain ⟨hs,hG,hO⟩:=cd hwf;have hT:=(cd hwf).2.2.2.1;obtain ⟨hw0,hw1,_,_⟩:=eU hwf;have hrl:=nu hwf;have hrl2:=kf hwf;have hq:=fD hwf;refine aj (sV Z (an aW Z dd Z Z (At.whole (H3.box 0 Z))) (sC func78 vM Z (kQ (by assumption) (H3.sees 0 Z) (H3.sees 1 Z) (H3.sees 2 Z) (by first | assumption | omega)) (fun v2 w5 r2=>?_)));obtain ⟨e5,sa1,sk1,sa2,sk2,sa3,sk3,rfl,r2⟩:=r2;obtain ⟨fp1,H5⟩:=H3.res e5 r2;obtain ⟨sf1,sf2,sf3,sq1,sok1,so1,so2,so3⟩:=eL (H5.mine 2 Z);have H6:=H5.part 2 Z [mine [.slice _ z.Groups.length _] z.Groups sf1,mine [.slice _ z.On.length _] z.On sf2,mine [.slice _ z.Tapes.length _] z.Tapes sf3] (all_cons so1 (all_cons so2 (all_cons so3 (by simp)))) (by simp [blocks,mine,sq1])
  try dsimp only[lNA,lCA,lSZ,lSS] at H6
  refine bW (wn Z) Z zeroValue34 H6 (fun b3 w6 e6 g3 H7=>bc (wn Z) dd Z Z Z Z H7 6 Z Z (fun w7 e7 H8=>?_));dsimp only[lNA,lCA,lSZ,lSS,aL] at H8;refine aa (ab (sM Z Z ?_));obtain ⟨fp2,H9⟩:=H8.closeW 6 3 4 5 z Z Z Z Z Z Z Z Z Z Z zK
  try dsimp only[lNA,lCA,lSZ,lSS] at H9
  refine sC func79 vn Z (ji (H9.wldAt 6 Z) (H9.nodup1 (i:=6) Z) (by first | assumption | omega) (by first | assumption | omega) (by first | assumption | omega)) (fun v3 w8 r3=>?_);obtain ⟨rfl,mm1⟩:=r3;obtain ⟨fp3,H10⟩:=H9.mutW 6 Z mm1
  try dsimp only[lNA,lCA,lSZ,lSS] at H10
  refine sA Z Z (aa (ac ?_));obtain ⟨wA1,wC1,wA2,wC2,wA3,wC3,wf1,wf2,wf3,wok1,H11⟩:=H10.openW 6 Z
  try dsimp only[lNA,lCA,lSZ,lSS] at H11
  have wok1U:=wok1;unfold Wld.Ok Shape.Ok I64ok at wok1U;have wL1:=oL (H11.mine 8 Z);have wL2:=oL (H11.mine 9 Z);have wL3:=oL (H11.mine 10 Z);refine aj (sV Z (an aW Z dd Z Z (At.whole (H11.box 6 Z))) (sM Z Z (sE func80 wN Z (vh (by assumption) (H11.msees 8 Z) (H11.msees 9 Z) (H11.msees 10 Z) (by first | assumption | omega)) H11 (fun w9 e9 H12=>bc (wn Z) dQ Z Z Z Z H12 1 Z Z (fun w10 e10 H13=>?_)))));dsimp only[lNA,lCA,lSZ,lSS,aL] at H13;refine aa (bM (hQ _ _ (dI results16 Z (aI gd Z dQ Z (At.whole (H13.box 1 Z))) ?_)));rw [gaF,xq hu aq hc];exact ⟨H13.ext,none,0,none,0,none,0,Z,ij (by unfold I64ok; have:=o5 (z:=z) (f:=f); (try dsimp only); omega)⟩
theorem kU {w:World}{z:Wld}{zA9 zA10 zA11:Option Addr}{zC9 zC10 zC11:Nat}{f:Int}(zK:z.Ok) (zS9:Sees w [.slice zA9 z.Groups.length zC9] z.Groups) (zS10:Sees w [.slice zA10 z.On.length zC10] z.On) (zS11:Sees w [.slice zA11 z.Tapes.length zC11] z.Tapes) (hb:gm z≤1048576) (hc:(gaP z f).1=0∨(gaP z f).1=9):Ret Tryz.prog 16 #[z.val zA9 zC9 zA10 zC10 zA11 zC11,.int .i64 f] w fun v w'=>Ext No w w'∧(∃ A10 C10 A11 C11 A12 C12,v=(gaF z f).val A10 C10 A11 C11 A12 C12∧Res w w' [.int .i64 (gaF z f).Code,.int .i64 (gaF z f).Wd.Shape.Groups,.int .i64 (gaF z f).Wd.Shape.Column,.int .i64 (gaF z f).Wd.Shape.Data,.int .i64 (gaF z f).Wd.Shape.Spare,.int .i64 (gaF z f).Wd.Shape.Rows,.int .i64 (gaF z f).Wd.Shape.Cap,.int .i64 (gaF z f).Wd.Shape.Batch,.int .i64 (gaF z f).Wd.Shape.Queue,.int .i64 (gaF z f).Wd.Shape.Stage,.slice A10 (gaF z f).Wd.Groups.length C10,.slice A11 (gaF z f).Wd.On.length C11,.slice A12 (gaF z f).Wd.Tapes.length C12,.int .i64 (gaF z f).Wd.Writes,.int .i64 (gaF z f).Wd.Stop,.bool (gaF z f).Wd.Down] (gaF z f)):=by
 have zK2:=zK;unfold Wld.Ok Shape.Ok at zK2
 try unfold I64ok at zK2
 try unfold maxLen at zK2
 have zL9:=sL zS9;obtain ⟨zF9,zO9⟩:=zS9;have zL10:=sL zS10;obtain ⟨zF10,zO10⟩:=zS10;have zL11:=sL zS11;obtain ⟨zF11,zO11⟩:=zS11;refine aC (vs:=[z.val zA9 zC9 zA10 zC10 zA11 zC11,.int .i64 f]) func16 Z ntmps16 Z (fun Q hQ hN=>?_);have H0:=Sep.start (w:=w) (F:=[seen false [.slice zA9 z.Groups.length zC9] z.Groups zF9,seen false [.slice zA10 z.On.length zC10] z.On zF10,seen false [.slice zA11 z.Tapes.length zC11] z.Tapes zF11]) (all_cons zO9 (all_cons zO10 (all_cons zO11 (by simp))));refine ab (aZ (wn Z) Z Z H0 (fun b1 w1 e1 g1 H1=>bW (wn Z) Z zeroValue36 H1 (fun b2 w2 e2 g2 H2=>aa (ac (ab (sV Z (an aW Z dd Z Z (At.whole (H2.box 0 Z))) (sM Z Z (sE func77 wV Z (ku (by assumption) (H2.sees 0 Z) (H2.sees 1 Z) (H2.sees 2 Z)) H2 (fun w3 e3 H3=>sA Z Z (aa (ab (sR 2 Z (aa (ay Z (fun c1=>?_) (fun c1=>?_)))))))))))))))
 ·refine ab (sM Z Z (sV Z (cz en Z Z) (bc (wn Z) dQ Z Z Z Z H3 1 Z Z (fun w4 e4 H4=>?_))));dsimp only[lNA,lCA,lSZ,lSS,aL] at H4;refine aa (bM (hQ _ _ (dI results16 Z (aI gd Z dQ Z (At.whole (H4.box 1 Z))) ?_)))
  by_cases hu:upF z=0
  ·rw [gaF,pT hu (by omega)];exact ⟨H4.ext,none,0,none,0,none,0,Z,ij (by unfold I64ok; have:=lg (z:=z) (g:=f) (row:=0); (try dsimp only); omega)⟩
  ·rw [gaF,ti hu,show eN z f 0=upF z from Df hu];exact ⟨H4.ext,none,0,none,0,none,0,Z,ij (by unfold I64ok; have:=rI (z:=z); (try dsimp only); omega)⟩
 ·refine ah (ac ?_);have aq:eN z f 0=0:=by omega
  have hu:=vm aq;obtain ⟨_,_,hf,_,_⟩:=gQ aq;obtain ⟨hwf,hdn⟩:=iB hu;obtain ⟨hs,hG,hO⟩:=cd hwf;have hT:=(cd hwf).2.2.2.1;obtain ⟨hw0,hw1,_,_⟩:=eU hwf;have hrl:=nu hwf;have hrl2:=kf hwf;have hq:=fD hwf;refine aj (sV Z (an aW Z dd Z Z (At.whole (H3.box 0 Z))) (sC func78 vM Z (kQ (by assumption) (H3.sees 0 Z) (H3.sees 1 Z) (H3.sees 2 Z) (by first | assumption | omega)) (fun v2 w5 r2=>?_)));obtain ⟨e5,sa1,sk1,sa2,sk2,sa3,sk3,rfl,r2⟩:=r2;obtain ⟨fp1,H5⟩:=H3.res e5 r2;obtain ⟨sf1,sf2,sf3,sq1,sok1,so1,so2,so3⟩:=eL (H5.mine 2 Z);have H6:=H5.part 2 Z [mine [.slice _ z.Groups.length _] z.Groups sf1,mine [.slice _ z.On.length _] z.On sf2,mine [.slice _ z.Tapes.length _] z.Tapes sf3] (all_cons so1 (all_cons so2 (all_cons so3 (by simp)))) (by simp [blocks,mine,sq1])
  try dsimp only[lNA,lCA,lSZ,lSS] at H6
  refine bW (wn Z) Z zeroValue34 H6 (fun b3 w6 e6 g3 H7=>bc (wn Z) dd Z Z Z Z H7 6 Z Z (fun w7 e7 H8=>?_));dsimp only[lNA,lCA,lSZ,lSS,aL] at H8;refine aa (ab (sM Z Z ?_));obtain ⟨fp2,H9⟩:=H8.closeW 6 3 4 5 z Z Z Z Z Z Z Z Z Z Z zK
  try dsimp only[lNA,lCA,lSZ,lSS] at H9
  refine sC func79 vn Z (ji (H9.wldAt 6 Z) (H9.nodup1 (i:=6) Z) (by first | assumption | omega) (by first | assumption | omega) (by first | assumption | omega)) (fun v3 w8 r3=>?_);obtain ⟨rfl,mm1⟩:=r3;obtain ⟨fp3,H10⟩:=H9.mutW 6 Z mm1
  try dsimp only[lNA,lCA,lSZ,lSS] at H10
  refine sA Z Z (aa (ac ?_));obtain ⟨wA1,wC1,wA2,wC2,wA3,wC3,wf1,wf2,wf3,wok1,H11⟩:=H10.openW 6 Z
  try dsimp only[lNA,lCA,lSZ,lSS] at H11
  have wok1U:=wok1;unfold Wld.Ok Shape.Ok I64ok at wok1U;have wL1:=oL (H11.mine 8 Z);have wL2:=oL (H11.mine 9 Z);have wL3:=oL (H11.mine 10 Z);refine aj (sV Z (an aW Z dd Z Z (At.whole (H11.box 6 Z))) (sM Z Z (sE func80 wN Z (uh (by assumption) (H11.msees 8 Z) (H11.msees 9 Z) (H11.msees 10 Z) (by first | assumption | (split<;>simp))) H11 (fun w9 e9 H12=>bc (wn Z) dQ Z Z Z Z H12 1 Z Z (fun w10 e10 H13=>?_)))));dsimp only[lNA,lCA,lSZ,lSS,aL] at H13;refine aa (bM (hQ _ _ (dI results16 Z (aI gd Z dQ Z (At.whole (H13.box 1 Z))) ?_)));rw [gaF,xv hu aq hc];exact ⟨H13.ext,_,_,_,_,_,_,Z,WldResult.out (x:=⟨(gaP z f).1,(gaP z f).2⟩) (H13.sub (.cons _ (.cons _ (.cons _ (.cons _ (.cons _ (.cons _ (.cons _ (.cons _ (.cons_cons _ (.cons_cons _ (.cons_cons _ List.Sublist.slnil)))))))))))) ⟨(by have:=o5 (z:=z) (f:=f); show I64ok ((gaP z f).1); unfold I64ok; omega),(by assumption)⟩⟩
theorem mY {w:World}{z:Wld}{zA9 zA10 zA11:Option Addr}{zC9 zC10 zC11:Nat}{f:Int}(zK:z.Ok) (zS9:Sees w [.slice zA9 z.Groups.length zC9] z.Groups) (zS10:Sees w [.slice zA10 z.On.length zC10] z.On) (zS11:Sees w [.slice zA11 z.Tapes.length zC11] z.Tapes) (hb:gm z≤1048576):Ret Tryz.prog 16 #[z.val zA9 zC9 zA10 zC10 zA11 zC11,.int .i64 f] w fun v w'=>Ext No w w'∧(∃ A10 C10 A11 C11 A12 C12,v=(gaF z f).val A10 C10 A11 C11 A12 C12∧Res w w' [.int .i64 (gaF z f).Code,.int .i64 (gaF z f).Wd.Shape.Groups,.int .i64 (gaF z f).Wd.Shape.Column,.int .i64 (gaF z f).Wd.Shape.Data,.int .i64 (gaF z f).Wd.Shape.Spare,.int .i64 (gaF z f).Wd.Shape.Rows,.int .i64 (gaF z f).Wd.Shape.Cap,.int .i64 (gaF z f).Wd.Shape.Batch,.int .i64 (gaF z f).Wd.Shape.Queue,.int .i64 (gaF z f).Wd.Shape.Stage,.slice A10 (gaF z f).Wd.Groups.length C10,.slice A11 (gaF z f).Wd.On.length C11,.slice A12 (gaF z f).Wd.Tapes.length C12,.int .i64 (gaF z f).Wd.Writes,.int .i64 (gaF z f).Wd.Stop,.bool (gaF z f).Wd.Down] (gaF z f)):=by
 by_cases h2:(gaP z f).1=0∨(gaP z f).1=9
 ·exact kU zK zS9 zS10 zS11 hb h2
 ·exact jZ zK zS9 zS10 zS11 hb (by omega)
end Go.Wk
namespace Go.Wk
open Go.Proofs Rp Go.Proofs.Tryz
set_option maxRecDepth 10000
set_option maxHeartbeats 2000000 in
theorem jt {w:World}{z:Wld}{zA9 zA10 zA11:Option Addr}{zC9 zC10 zC11:Nat}{f:Int}(zK:z.Ok) (zS9:Sees w [.slice zA9 z.Groups.length zC9] z.Groups) (zS10:Sees w [.slice zA10 z.On.length zC10] z.On) (zS11:Sees w [.slice zA11 z.Tapes.length zC11] z.Tapes):Ret Tryz.prog 3 #[z.val zA9 zC9 zA10 zC10 zA11 zC11,.int .i64 f] w fun v w'=>Ext No w w'∧(v = .bool true):=by
 have zK2:=zK;unfold Wld.Ok Shape.Ok at zK2
 try unfold I64ok at zK2
 try unfold maxLen at zK2
 have zL9:=sL zS9;obtain ⟨zF9,zO9⟩:=zS9;have zL10:=sL zS10;obtain ⟨zF10,zO10⟩:=zS10;have zL11:=sL zS11;obtain ⟨zF11,zO11⟩:=zS11;refine aC (vs:=[z.val zA9 zC9 zA10 zC10 zA11 zC11,.int .i64 f]) func3 Z ntmps3 Z (fun Q hQ hN=>?_);have H0:=Sep.start (w:=w) (F:=[seen false [.slice zA9 z.Groups.length zC9] z.Groups zF9,seen false [.slice zA10 z.On.length zC10] z.On zF10,seen false [.slice zA11 z.Tapes.length zC11] z.Tapes zF11]) (all_cons zO9 (all_cons zO10 (all_cons zO11 (by simp))));refine ab (aZ (wn Z) Z Z H0 (fun b1 w1 e1 g1 H1=>sA Z Z (aa (ab (sA Z Z (aa (ab (sV Z (an pc Z EI Z Z (At.whole (H1.box 0 Z))) (sM Z Z (sE func15 Ee Z (qJ (by assumption) (H1.sees 0 Z) (H1.sees 1 Z) (H1.sees 2 Z) (by omega)) H1 (fun w2 e2 H2=>sA Z Z (aa (ac (ab (sR 2 Z (aa (ay Z (fun c1=>?_) (fun c1=>?_))))))))))))))))))
 ·refine ab (rA hQ results3 Z ?_);exact ⟨H2.ext,Z⟩
 ·refine ah (ac ?_);have hsz:gm z≤1048576:=by omega
  have hmk:=EZ z;have hml:=Iv (z:=z) (f:=f) zK;have hOk:=IJ (z:=z) (f:=f) zK;refine aj (sV Z (an pc Z EI Z Z (At.whole (H2.box 0 Z))) (sC func17 ns Z (fo (by assumption) (H2.sees 0 Z) (H2.sees 1 Z) (H2.sees 2 Z) (by assumption)) (fun v2 w3 r2=>?_)));obtain ⟨e3,sa1,sk1,sa2,sk2,sa3,sk3,rfl,r2⟩:=r2;obtain ⟨fp1,H3⟩:=H2.res e3 r2;have H4:=H3.share 1 Z;obtain ⟨sf1,sf2,sf3,sq1,sok1,so1,so2,so3⟩:=eL (H4.seen 3 Z);have H6:=H4.look1 3 Z so1 (fun b hb=>by rw [sq1]; simp [hb]);have H7:=H6.look1 3 Z so2 (fun b hb=>by rw [sq1]; simp [hb]);have H8:=H7.look1 3 Z so3 (fun b hb=>by rw [sq1]; simp [hb]);refine sM Z Z (sC func16 DN Z (mY (by assumption) (H8.sees 4 Z) (H8.sees 5 Z) (H8.sees 6 Z) (by first | assumption | omega)) (fun v3 w4 r3=>?_));obtain ⟨e4,sa4,sk4,sa5,sk5,sa6,sk6,rfl,r3⟩:=r3;obtain ⟨fp2,H9⟩:=H8.res e4 r3;have H10:=H9.share 2 Z;obtain ⟨sf4,sf5,sf6,sq2,sok2,so4,so5,so6⟩:=eO (H10.seen 7 Z);have H12:=H10.look1 7 Z so4 (fun b hb=>by rw [sq2]; simp [hb]);have H13:=H12.look1 7 Z so5 (fun b hb=>by rw [sq2]; simp [hb]);have H14:=H13.look1 7 Z so6 (fun b hb=>by rw [sq2]; simp [hb]);refine bW (wn Z) Z zeroValue36 H14 (fun b2 w5 e5 g2 H15=>bc (wn Z) dQ Z Z Z Z H15 3 Z Z (fun w6 e6 H16=>?_));dsimp only[lNA,lCA,lSZ,lSS,aL] at H16;refine aa (ab (sV Z (an pc Z EI Z Z (At.whole (H16.box 0 Z))) (sC func17 ns Z (fo (by assumption) (H16.sees 0 Z) (H16.sees 1 Z) (H16.sees 2 Z) (by assumption)) (fun v4 w7 r4=>?_))));obtain ⟨e7,sa7,sk7,sa8,sk8,sa9,sk9,rfl,r4⟩:=r4;obtain ⟨fp3,H17⟩:=H16.res e7 r4;refine bW (wn Z) Z zeroValue34 H17 (fun b3 w8 e8 g3 H18=>bc (wn Z) dd Z Z Z Z H18 5 Z Z (fun w9 e9 H19=>?_));dsimp only[lNA,lCA,lSZ,lSS,aL] at H19;refine aa (ab (sV Z (an aW Z dd Z Z (At.whole (H19.box 5 Z))) (sM Z Z (sC func18 wb Z (iY (by assumption) (Wld.see9 (H19.mine 4 Z)) (Wld.see10 (H19.mine 4 Z)) (Wld.see11 (H19.mine 4 Z)) (by first | assumption | omega)) (fun v5 w10 r5=>?_)))));obtain ⟨e10,sa10,sk10,sa11,sk11,sa12,sk12,rfl,r5⟩:=r5;obtain ⟨fp4,H20⟩:=H19.res e10 r5;refine bW (wn Z) Z zeroValue36 H20 (fun b4 w11 e11 g4 H21=>bc (wn Z) dQ Z Z Z Z H21 7 Z Z (fun w12 e12 H22=>?_));dsimp only[lNA,lCA,lSZ,lSS,aL] at H22;refine aa (ac (ab (sV Z (an gd Z dQ Z Z (At.whole (H22.box 7 Z))) (sV Z (an gd Z dQ Z Z (At.whole (H22.box 3 Z))) (sE func19 qO Z (eJ (by assumption) (WldResult.see10 (H22.mine 6 Z)) (WldResult.see11 (H22.mine 6 Z)) (WldResult.see12 (H22.mine 6 Z)) (by assumption) (H22.sees 8 Z) (H22.sees 9 Z) (H22.sees 10 Z)) H22 (fun w13 e13 H23=>sV Z (aX Z) (aa (bI Z (fun c2=>?_) (fun c2=>?_)))))))))
  ·exfalso; simp_all
  ·refine ah (ac (ac (bE (S:=Ext No _) (oQ [1,3,4,6,8]) (by kernel_rfl) (by kernel_rfl) (by kernel_rfl) Z (fun _=>Ext.refl.drawn _) (fun q1=>?_))));have H24:=H23.drawn q1;refine dV Z Z (fun zw hx=>an aW Z dd Z Z (At.whole (hx.heap (H24.box 5 Z)))) (dV Z Z (fun zw hx=>an pc Z EI Z Z (At.whole (hx.heap (H24.box 0 Z)))) (dC func17 ns Z (fo (by assumption) (H24.sees 0 Z) (H24.sees 1 Z) (H24.sees 2 Z) (by assumption)) (fun v7 w14 r7=>?_)));obtain ⟨e14,sa13,sk13,sa14,sk14,sa15,sk15,rfl,r7⟩:=r7;obtain ⟨fp5,H25⟩:=H24.res e14 r7;have H26:=H25.share 8 Z;obtain ⟨sf7,sf8,sf9,sq3,sok3,so7,so8,so9⟩:=eL (H26.seen 11 Z);have H28:=H26.look1 11 Z so7 (fun b hb=>by rw [sq3]; simp [hb]);have H29:=H28.look1 11 Z so8 (fun b hb=>by rw [sq3]; simp [hb]);have H30:=H29.look1 11 Z so9 (fun b hb=>by rw [sq3]; simp [hb]);refine dC func20 wy Z (ki (by assumption) (Wld.see9 (H30.mine 4 Z)) (Wld.see10 (H30.mine 4 Z)) (Wld.see11 (H30.mine 4 Z)) (by assumption) (H30.sees 12 Z) (H30.sees 13 Z) (H30.sees 14 Z)) (fun v8 w15 r8=>?_);obtain ⟨e15,rfl⟩:=r8;have H31:=H30.to e15;refine aP Z (wn Z) Z Z (aX Z) (aQ (bI Z (fun c3=>?_) (fun c3=>?_)))
   ·exfalso; simp_all
   ·refine ah (ab (sA Z Z (aa (ab (sV Z (an aW Z dd Z Z (At.whole (H31.box 5 Z))) (sM Z Z (sC func21 wD Z (jl (by assumption) (H31.mine 4 Z) (H31.nodup1 (i:=4) Z) (by constructor<;>omega)) (fun v9 w16 r9=>?_))))))));obtain ⟨rfl,mx1,mm1,ml1⟩:=r9;obtain ⟨fp6,H32⟩:=H31.mut 4 Z mm1
    try dsimp only[lNA,lCA,lSZ,lSS] at H32
    refine sA Z Z (aa (ac (ab (sR 3 Z (bp 4 (j:=2) (want:=false) (t:=45) Z Z Z Z (fun hg1 kk1=>ak (wgE Z Z Z hg1) Z Z (an gd Z dQ Z Z (At.whole (H32.box 7 Z))) (ak (wgE Z Z Z hg1) Z Z (an gd Z dQ Z Z (At.whole (H32.box 3 Z))) (cB (wgE Z Z Z hg1) Z Z (aU func19 Z qO Z) (eJ (by assumption) (WldResult.see10 (H32.mine 6 Z)) (WldResult.see11 (H32.mine 6 Z)) (WldResult.see12 (H32.mine 6 Z)) (by assumption) (H32.sees 8 Z) (H32.sees 9 Z) (H32.sees 10 Z)) (fun w18 e18=>ak (wgE Z Z Z hg1) Z Z (aX Z) (kk1 _ _ (kx Z (kx Z (kx Z (kx Z k0)))) Z (Ext.refl.trans e18)))))) (fun w17 e17=>?_))))));have H33:=H32.to e17;refine sV Z (ew Z Z) (aa (bI Z (fun c4=>?_) (fun c4=>?_)))
    ·exact absurd c4 (by simp; omega)
    ·refine ah (ab (sA Z Z (aa (ab (sV Z (an gd Z dQ Z Z (At.whole (H33.box 7 Z))) (sM Z Z (sC func22 Dy Z (ka (H33.mine 6 Z) (H33.nodup1 (i:=6) Z) (by constructor<;>omega)) (fun v10 w19 r10=>?_))))))));obtain ⟨rfl,mx2,mm2,ml2⟩:=r10;obtain ⟨fp7,H34⟩:=H33.mut 6 Z mm2
     try dsimp only[lNA,lCA,lSZ,lSS] at H34
     refine sA Z Z (aa (ab (sA Z Z (aa (ab (sV Z (an gd Z dQ Z Z (At.whole (H34.box 7 Z))) (sM Z Z (sE func23 wP Z (fY (x:=mx2) (rF (H34.mine 6 Z)).1 (rF (H34.mine 6 Z)).2.1 (rF (H34.mine 6 Z)).2.2 (by have:=ml2.2.2.2.1; constructor<;>omega) ml2.2.2.2.2.1) H34 (fun w20 e20 H35=>sA Z Z (aa (ac (ac ?_))))))))))));have hq:=ml2.2.2.2.1;refine aj (sR 2 Z (aa (ay Z (fun c5=>?_) (fun c5=>?_))))
     ·exact absurd c5 (by omega)
     ·refine ah (ac (ab (sR 3 Z (aa (ay Z (fun c6=>?_) (fun c6=>?_))))))
      ·exact absurd c6 (by omega)
      ·refine ah (ab (sV Z (an pc Z EI Z Z (At.whole (H35.box 0 Z))) (sC func17 ns Z (fo (by assumption) (H35.sees 0 Z) (H35.sees 1 Z) (H35.sees 2 Z) (by assumption)) (fun v12 w21 r12=>?_))));obtain ⟨e21,sa16,sk16,sa17,sk17,sa18,sk18,rfl,r12⟩:=r12;obtain ⟨fp8,H36⟩:=H35.res e21 r12;have H37:=H36.share 9 Z;obtain ⟨sf10,sf11,sf12,sq4,sok4,so10,so11,so12⟩:=eL (H37.seen 15 Z);have H39:=H37.look1 15 Z so10 (fun b hb=>by rw [sq4]; simp [hb]);have H40:=H39.look1 15 Z so11 (fun b hb=>by rw [sq4]; simp [hb]);have H41:=H40.look1 15 Z so12 (fun b hb=>by rw [sq4]; simp [hb]);refine sM Z Z (sC func18 wb Z (iY (by assumption) (H41.sees 16 Z) (H41.sees 17 Z) (H41.sees 18 Z) (by first | assumption | omega)) (fun v13 w22 r13=>?_));obtain ⟨e22,sa19,sk19,sa20,sk20,sa21,sk21,rfl,r13⟩:=r13;obtain ⟨fp9,H42⟩:=H41.res e22 r13;have H43:=H42.share 10 Z;obtain ⟨sf13,sf14,sf15,sq5,sok5,so13,so14,so15⟩:=eO (H43.seen 19 Z);have H45:=H43.look1 19 Z so13 (fun b hb=>by rw [sq5]; simp [hb]);have H46:=H45.look1 19 Z so14 (fun b hb=>by rw [sq5]; simp [hb]);have H47:=H46.look1 19 Z so15 (fun b hb=>by rw [sq5]; simp [hb]);refine bW (wn Z) Z zeroValue36 H47 (fun b5 w23 e23 g5 H48=>bc (wn Z) dQ Z Z Z Z H48 11 Z Z (fun w24 e24 H49=>?_));dsimp only[lNA,lCA,lSZ,lSS,aL] at H49;refine aa (ac (ab (sV Z (an gd Z dQ Z Z (At.whole (H49.box 11 Z))) (sV Z (an gd Z dQ Z Z (At.whole (H49.box 3 Z))) (sE func19 qO Z (eJ (by assumption) (H49.sees 20 Z) (H49.sees 21 Z) (H49.sees 22 Z) (by assumption) (H49.sees 8 Z) (H49.sees 9 Z) (H49.sees 10 Z)) H49 (fun w25 e25 H50=>sV Z (aX Z) (aa (bI Z (fun c7=>?_) (fun c7=>?_)))))))))
       ·exfalso; simp_all
       ·refine ah (ab (sA Z Z (aa (ab (sV Z (an gd Z dQ Z Z (At.whole (H50.box 7 Z))) (sM Z Z (sE func23 wP Z (fY (x:=mx2) (rF (H50.mine 6 Z)).1 (rF (H50.mine 6 Z)).2.1 (rF (H50.mine 6 Z)).2.2 (by have:=ml2.2.2.2.1; constructor<;>omega) ml2.2.2.2.2.1) H50 (fun w26 e26 H51=>sA Z Z (aa (ac (ab (sR 2 Z (aa (ay Z (fun c8=>?_) (fun c8=>?_)))))))))))))))
        ·exact absurd c8 (by omega)
        ·refine ah (ac (ab (sR 3 Z (aa (ay Z (fun c9=>?_) (fun c9=>?_))))))
         ·exact absurd c9 (by omega)
         ·refine ah (ab (rA hQ results3 Z ?_));exact ⟨H51.ext,Z⟩
end Go.Wk
