/-
  Laws on walking, and the functions walked, each once: what this claim comes to.
-/
import Derived.Test.YtflmgahagbfbbaaGreatZD1
set_option linter.unusedVariables false
set_option linter.unusedSimpArgs false
namespace Go.Wk
open Rp (sz own)
section
variable {s:Shape}{r:Rec}
theorem wJ (h:r.Ok):(⟨r.Kind,r.Seq,⟨#[]⟩,0,r.Group,r.Row,[],[],r.Delta⟩:Rec).Ok:=by
  unfold Rec.Ok I64ok at h ⊢
  have:(⟨#[]⟩:ByteArray).size≤maxLen:=Nat.zero_le _
  simp only; omega
theorem xo (h:r.Ok):(⟨r.Kind,r.Seq,r.Name,r.Length,0,0,r.Rows,[],[]⟩:Rec).Ok:=by
  unfold Rec.Ok I64ok at h ⊢
  simp only; omega
theorem xH (h:r.Ok):(⟨r.Kind,r.Seq,r.Name,r.Length,0,r.Row,r.Rows,r.Data,r.Delta⟩:Rec).Ok:=by
  unfold Rec.Ok I64ok at h ⊢
  simp only; omega
theorem xL (h:r.Ok):(⟨r.Kind,r.Seq,r.Name,r.Length,0,0,[],[],[]⟩:Rec).Ok:=by
  unfold Rec.Ok I64ok at h ⊢
  simp only; omega
theorem pk (h:r.Kind=1):jA ⟨r.Kind,r.Seq,⟨#[]⟩,0,r.Group,r.Row,[],[],r.Delta⟩=bareOK r:=by rw [bareOK,if_pos h]; simp [jA,noName]
theorem pQ (h:r.Kind=2):jA ⟨r.Kind,r.Seq,r.Name,r.Length,0,0,r.Rows,[],[]⟩=bareOK r:=by rw [bareOK,if_neg ω,if_pos h]; simp [jA,noName]
theorem pB (h:r.Kind=3):jA ⟨r.Kind,r.Seq,r.Name,r.Length,0,r.Row,r.Rows,r.Data,r.Delta⟩=bareOK r:=by rw [bareOK,if_neg ω,if_neg ω,if_pos h]; simp [jA,noName,Bool.and_assoc]
theorem pd (h:r.Kind=4):jA ⟨r.Kind,r.Seq,r.Name,r.Length,0,0,[],[],[]⟩=bareOK r:=by rw [bareOK,if_neg ω,if_neg ω,if_neg ω]; simp [jA,noName]
end
end Go.Wk
namespace Go.Wk
section
variable {z:Wld}{s:Shape}{g:List Drive}{d:Drive}
theorem uN {α:Type}[Inhabited α] {xs:List α}{p:α→Bool}(h:(xs.any fun b => !p b)=false):((List.range xs.length).all fun i=>p (xs.getD i default))=true:=
  gZ fun i hi=>by simpa using vh (d:=default) h i hi
theorem pK {α:Type}[Inhabited α] {xs:List α}{p:α→Bool}(h:(xs.any fun b => !p b)=true):((List.range xs.length).all fun i=>p (xs.getD i default))=false:=by
  obtain ⟨i,hi,h⟩:=s5 (d:=default) h
  exact jX i hi (by simpa using h)
theorem nM (h:¬ (d.Blocks.length:Int)=s.Rows):dh s d=false:=by rw [dh,decide_eq_false h]; rfl
theorem sk (h:(d.Blocks.any fun b => !dk b)=true):dh s d=false:=by rw [dh,pK h,Bool.and_false]
theorem sj (h:(d.Blocks.length:Int)=s.Rows) (h2:(d.Blocks.any fun b => !dk b)=false):dh s d=true:=by rw [dh,decide_eq_true h,uN h2]; rfl
theorem sP (h:(d.Blocks.length:Int)=s.Rows) (h2:∀ i,i<d.Blocks.length→dk (d.Blocks.getD i default)=true):dh s d=true:=by rw [dh,decide_eq_true h,gZ h2]; rfl
theorem uW (i:Nat) (hi:i<d.Blocks.length) (h2:dk (d.Blocks.getD i default)=false):dh s d=false:=by rw [dh,jX i hi h2,Bool.and_false]
theorem nW (h:¬ (g.length:Int)=s.Data+s.Spare):et s g=false:=by rw [et,decide_eq_false h]; rfl
theorem ka (k:Nat) (hk:k<g.length) (h:dh s (g.getD k default)=false):et s g=false:=by rw [et,jX k hk h,Bool.and_false]
theorem nT (h:(g.length:Int)=s.Data+s.Spare) (h2:∀ i,i<g.length→dh s (g.getD i default)=true):et s g=true:=by rw [et,decide_eq_true h,gZ h2]; rfl
theorem mR (h:¬ (z.Groups.length:Int)=z.Shape.Groups+z.Shape.Column):bG z=false:=by rw [bG,decide_eq_false h]; rfl
theorem ge (k:Nat) (hk:k<z.Groups.length) (h:et z.Shape (z.Groups.getD k [])=false):bG z=false:=by rw [bG,jX k hk h,Bool.and_false]
theorem mY (h:(z.Groups.length:Int)=z.Shape.Groups+z.Shape.Column) (h2:∀ i,i<z.Groups.length→et z.Shape (z.Groups.getD i [])=true):bG z=true:=by rw [bG,decide_eq_true h,gZ h2]; rfl
end
end Go.Wk
namespace Go.Wk
section
variable {z:Wld}
theorem pv (h:(List.range z.On.length).all (apartAt z.On (z.Shape.Groups+z.Shape.Column-1))=false):kB z=false:=by rw [kB,apartL,h]; rfl
theorem nz (h:(List.range z.On.length).all (apartAt z.On (z.Shape.Groups+z.Shape.Column-1))=true) {b:Bool}(hb:b=(decide ((z.On.length:Int)≤z.Shape.Cap) && (decide (z.On.length=0) || !z.Down))):kB z=b:=by rw [kB,apartL,h,hb]; simp [Bool.and_assoc]
theorem ii (h:z.Tapes.any dB=true):eQ z=2:=by rw [eQ,if_pos h]
theorem l9 (h:z.Tapes.any dB=false) {k k2:Nat}(hk:k<z.Tapes.length) (hkz:fF z.Shape z.Tapes k=0) (hk2:k2<(z.Tapes.getD k default).Recs.length) (h2:fN z.Shape (z.Tapes.getD k default).Recs k2=0)
    (hr:fK z.Shape ((z.Tapes.getD k default).Recs.getD k2 default)≠0):eQ z=fK z.Shape ((z.Tapes.getD k default).Recs.getD k2 default):=by
  have e:=vT hk hkz hk2 h2 hr
  rw [eQ,if_neg (by simp [h]),if_pos (by rw [e]; exact hr),e]
theorem kR (h:z.Tapes.any dB=false) (h2:fF z.Shape z.Tapes z.Tapes.length=0) (h3:z.Tapes.any dI=true):eQ z=1:=by rw [eQ,if_neg (by simp [h]),if_neg ω,if_pos h3]
theorem nr (h:z.Tapes.any dB=false) (h2:fF z.Shape z.Tapes z.Tapes.length=0) (h3:z.Tapes.any dI=false):eQ z=0:=by rw [eQ,if_neg (by simp [h]),if_neg ω,if_neg (by simp [h3])]
end
end Go.Wk
namespace Go.Wk
section
variable {z:Wld}{b:Block}
theorem tk (h:(!ins b.Stamp 0 1000000000 || decide ((b.Bytes.length:Int)≠4))=true):dk b=false:=by
  rw [dk]
  simp only [Bool.or_eq_true,decide_eq_true_eq] at h
  rcases h with h | h
  · rw [cL h]; rfl
  · rw [decide_eq_false ω,Bool.and_false]
theorem sS (h:(!ins b.Stamp 0 1000000000 || decide ((b.Bytes.length:Int)≠4))=false):dk b=true:=by
  rw [Bool.or_eq_false_iff] at h
  have h2:=of_decide_eq_false h.2
  rw [dk,aB h.1,decide_eq_true ω]; rfl
theorem oD {α:Type}[Inhabited α] {xs:List α}{p:α→Bool}(h:xs.length=2) (h2:p (xs.getD 0 default)=true∨p (xs.getD 1 default)=true):xs.any p=true:=by
  rcases h2 with h2 | h2
  · exact ry 0 ω h2
  · exact ry 1 ω h2
theorem oc {α:Type}[Inhabited α] {xs:List α}{p:α→Bool}(h:xs.length=2) (h0:p (xs.getD 0 default)=false) (h1:p (xs.getD 1 default)=false):xs.any p=false:=
  oZ fun i hi=>by
    have:i=0∨i=1:=by omega
    rcases this with rfl | rfl
    · exact h0
    · exact h1
theorem jh:(bG z && (apartL z.On (z.Shape.Groups+z.Shape.Column-1) && (decide ((z.On.length:Int)≤z.Shape.Cap) && ((decide (z.On.length=0) || !z.Down) && decide (z.Tapes.length=2)))))=(bG z && kB z && decide (z.Tapes.length=2)):=by
  rw [kB]; simp only [Bool.and_assoc]
end
end Go.Wk
namespace Go.Wk
theorem bw {w:World}{b o:Nat}{cs:List Value}(h:At w b o cs) (j:Nat) {v:Value}(hj:cs[j]? = some v):w.cell? ⟨b,o+j,none⟩=some v:=h j v hj
end Go.Wk
namespace Go.Wk
open Go.Proofs Rp Go.Proofs.Tryz
set_option maxRecDepth 10000
set_option maxHeartbeats 1000000 in
theorem ei {w:World}{s:Shape}{r:Rec}{rA6 rA7 rA8:Option Addr}{rC6 rC7 rC8:Nat}(rK:r.Ok) (rS6:Sees w [.slice rA6 r.Rows.length rC6] r.Rows) (rS7:Sees w [.slice rA7 r.Data.length rC7] r.Data) (rS8:Sees w [.slice rA8 r.Delta.length rC8] r.Delta):Ret Tryz.prog 74 #[s.v,r.val rA6 rC6 rA7 rC7 rA8 rC8] w fun v w'=>Ext No w w'∧(v = .int .i64 (if s.fault≠0 then s.fault else fK s r)):=by
 have rK2:=rK;unfold Rec.Ok at rK2
 try unfold I64ok at rK2
 try unfold maxLen at rK2
 have rN2:r.Name.size≤maxLen:=by unfold maxLen; omega
 have rL6:=sL rS6;obtain ⟨rF6,rO6⟩:=rS6;have rL7:=sL rS7;obtain ⟨rF7,rO7⟩:=rS7;have rL8:=sL rS8;obtain ⟨rF8,rO8⟩:=rS8;refine aV func74 Z ntmps74 Z (fun Q hQ hN=>?_);have H0:=Sep.start (an rO6 (an rO7 (an rO8 aP)));refine ah (bE ae Z Z H0 (fun b1 w1 e1 g1 H1=>bE ae Z Z H1 (fun b2 w2 e2 g2 H2=>sA Z Z (aa (ag (ah (sV Z (aj aX Z ba Z Z (At.whole (H2.box 0 Z))) (sE func63 lB Z ez H2 (fun w3 e3 H3=>sA Z Z (aa (ah (sR 2 Z (aa (aA Z (fun c1=>?_) (fun c1=>?_)))))))))))))))
 ·refine ah (sR 2 Z (rN hQ results74 Z ?_));exact ⟨H3.ext,congrArg (Value.int .i64) (if_pos ω).symm⟩
 ·refine ar (ag (ag ?_));have hs:=fa (s:=s) ω;have sbd:=aZ hs;refine aw (sF az Z ts2 (sLd tu2 (H3.box 1 Z) Z (sE func121 bP Z bm H3 (fun w4 e4 H4=>sV Z (bj Z) (aa (cI Z (fun c2=>?_) (fun c2=>?_)))))))
  ·refine ah (rA hQ results74 Z ?_);exact ⟨H4.ext,congrArg (Value.int .i64) ((if_neg ω).trans (qL (cL c2))).symm⟩
  ·refine ar (ag (ah (sF az Z ts2 (sLd tu2 (H4.box 1 Z) Z (sE func121 bP Z bm H4 (fun w5 e5 H5=>sV Z (bj Z) (aa (cI Z (fun c3=>?_) (fun c3=>?_)))))))))
   ·refine ah (rA hQ results74 Z ?_);exact ⟨H5.ext,congrArg (Value.int .i64) ((if_neg ω).trans (rL (aB c2) (cL c3))).symm⟩
   ·refine ar (ah (sV Z (aj az Z aW Z Z (At.whole (H5.box 1 Z))) (bQ ae Z zeroValue47 H5 (fun b3 w6 e6 g3 H6=>aO ae aW Z Z Z Z H6 2 Z Z (fun w7 e7 H7=>?_)))));dsimp only[lNA,lCA,lSZ,lSS,aC] at H7;refine aa (ag (ah (sF az Z ts2 (sLd tu2 (H7.box 1 Z) Z (aa (ay (ag ?_)))))));have hk1:=bD.1 (aB c2);refine aw (sR 2 Z (aa (aA Z (fun c4=>?_) (fun c4=>?_))))
    ·refine ag (ah (sF az Z ts9 (sLd tu9 (H7.box 1 Z) Z (sE func138 t5 Z (lM η) H7 (fun w8 e8 H8=>sA Z Z (aa (ah (sR 2 Z (aa (aA Z (fun c5=>?_) (fun c5=>?_)))))))))))
     ·refine ah (sR 2 Z (rN hQ results74 Z ?_));have kq:=(iZ (s:=s) ω).trans (pH ω);have kF:=eK (s:=s) (aB c2) (aB c3) ω;exact ⟨H8.ext,congrArg (Value.int .i64) ((if_neg ω).trans (kF.trans kq)).symm⟩
     ·refine ar (ag (ah (sV Z (aj aX Z ba Z Z (At.whole (H8.box 0 Z))) (sV Z (aj az Z aW Z Z (At.whole (H8.box 1 Z))) (sE func139 uC Z (nh η (H8.sees 0 Z) (H8.sees 1 Z) (H8.sees 2 Z) η) H8 (fun w9 e9 H9=>sV Z (bj Z) (aa (cI Z (fun c6=>?_) (fun c6=>?_)))))))))
      ·refine ah (rA hQ results74 Z ?_);have kq:=(iZ (s:=s) ω).trans (jN ω (cL c6));have kF:=eK (s:=s) (aB c2) (aB c3) ω;exact ⟨H9.ext,congrArg (Value.int .i64) ((if_neg ω).trans (kF.trans kq)).symm⟩
      ·refine ar (ah (sF az Z ts9 (bA ae ts9 Z Z Z H9 2 Z Z (fun w10 e10 H10=>?_))));dsimp only[lNA,lCA,lSZ,lSS,aC] at H10;refine aa (ah (sF az Z ts2 (bA ae ts2 Z Z Z H10 2 Z Z (fun w11 e11 H11=>?_))));dsimp only[lNA,lCA,lSZ,lSS,aC] at H11;refine aa (ah (sF az Z bH (bA ae bH Z Z Z H11 2 Z Z (fun w12 e12 H12=>?_))));dsimp only[lNA,lCA,lSZ,lSS,aC] at H12;refine aa (aw (sF az Z bf (bA ae bf Z Z Z H12 2 Z Z (fun w13 e13 H13=>?_))));dsimp only[lNA,lCA,lSZ,lSS,aC] at H13;refine aa (ag (ah (sV Z (aj az Z aW Z Z (At.whole (H13.box 2 Z))) (sE func142 kp Z (fd (r:=⟨r.Kind,r.Seq,⟨#[]⟩,0,r.Group,r.Row,[],[],r.Delta⟩) (wJ rK) ⟨[],.inr (.inl ⟨Z,Z,Z⟩)⟩ ⟨[],.inr (.inl ⟨Z,Z,Z⟩)⟩ (H13.sees 2 Z)) H13 (fun w14 e14 H14=>sV Z (bj Z) (aa (cI Z (fun c7=>?_) (fun c7=>?_))))))))
       ·refine ah (rA hQ results74 Z ?_);have kq:=(iZ (s:=s) ω).trans (lg ω (aB c6));exact ⟨H14.ext,congrArg (Value.int .i64) ((if_neg ω).trans (jP (aB c2) (aB c3) kq (by rw [← pk ω]; exact cL c7))).symm⟩
       ·refine ar (ah (rA hQ results74 Z ?_));have kq:=(iZ (s:=s) ω).trans (lg ω (aB c6));exact ⟨H14.ext,congrArg (Value.int .i64) ((if_neg ω).trans (mA (aB c2) (aB c3) kq (by rw [← pk ω]; exact aB c7))).symm⟩
    ·refine ah (sR 2 Z (aa (aA Z (fun c8=>?_) (fun c8=>?_))))
     ·refine ag (ag (bv (S:=Ext No _) (oQ [1,3,5,7,9,10,13,15,17,19,21,23,25,26,29,31,33,35,37,39,41,42,45,47,49,51,53,55,57,58,61,62]) κ κ κ Z (fun _=>Ext.refl.drawn _) (fun q1=>?_)));have H15:=H7.drawn q1;refine dV Z Z (fun zw hx=>ab az Z ts2 Z Z) (dV Z Z (fun zw hx=>ac tu2 Z Z (ak (hx.heap (H15.box 1 Z)) Z)) (dV Z Z (fun zw hx=>ab aX Z ts2 Z Z) (dV Z Z (fun zw hx=>ac tu2 Z Z (ak (hx.heap (H15.box 0 Z)) Z)) (dV Z Z (fun zw hx=>cQ Z Z iO) (dC func121 bP Z bm (fun v7 w15 r7=>?_))))));obtain ⟨e15,rfl⟩:=r7;have H16:=H15.to e15;refine dV Z Z (fun zw hx=>bj Z) (dM Z Z Z (cK (t:=49) Z (fun hg1=>?_) (fun hg1=>?_)))
      ·try simp only [decide_eq_true_eq,decide_eq_false_iff_not] at hg1
       refine dR 7 Z (dV Z Z (fun zw hx=>aG Z Z) (dR 7 Z (dV Z Z (fun zw hx=>aG Z Z) (dR 7 Z (bh Z ae Z Z (aG Z Z) (aS (dz Z (ah (rA hQ results74 Z ?_)))))))));have kq:=dY (s:=s) ω (by simp_all [fw]);have kF:=eK (s:=s) (aB c2) (aB c3) ω;exact ⟨H16.ext,congrArg (Value.int .i64) ((if_neg ω).trans (kF.trans kq)).symm⟩
      ·try simp only [decide_eq_true_eq,decide_eq_false_iff_not] at hg1
       refine aL Z (wg Z Z Z) Z Z (fun zw hx=>ab az Z ts2 Z Z) (aL Z (wg Z Z Z) Z Z (fun zw hx=>ac tu2 Z Z (ak (hx.heap (H15.box 1 Z)) Z)) (aL Z (wg Z Z Z) Z Z (fun zw hx=>ab aX Z ts2 Z Z) (aL Z (wg Z Z Z) Z Z (fun zw hx=>ac tu2 Z Z (ak (hx.heap (H15.box 0 Z)) Z)) (aL Z (wg Z Z Z) Z Z (fun zw hx=>cQ Z Z iO) (bi Z (wg Z Z Z) Z Z (aD func121 Z bP Z) bm (fun hS _ _ r _=>hS.trans r.1.no) (fun v8 w16 r8=>?_))))));obtain ⟨e16,rfl⟩:=r8;have H17:=H16.to e16;refine aL Z (wg Z Z Z) Z Z (fun zw hx=>bj Z) (dV Z Z (fun zw hx=>aE Z Z) (dM Z Z Z (cK (t:=58) Z (fun hg2=>?_) (fun hg2=>?_))))
       ·try simp only [decide_eq_true_eq,decide_eq_false_iff_not] at hg2
        refine dR 6 Z (dV Z Z (fun zw hx=>aG Z Z) (dR 7 Z (bh Z ae Z Z (aG Z Z) (aS (dz Z (ah (rA hQ results74 Z ?_)))))));have kq:=dY (s:=s) ω (by simp_all [fw]);have kF:=eK (s:=s) (aB c2) (aB c3) ω;exact ⟨H17.ext,congrArg (Value.int .i64) ((if_neg ω).trans (kF.trans kq)).symm⟩
       ·try simp only [decide_eq_true_eq,decide_eq_false_iff_not] at hg2
        refine aL Z (wg Z Z Z) Z Z (fun zw hx=>ab az Z bf Z Z) (aL Z (wg Z Z Z) Z Z (fun zw hx=>ac bc Z Z (ak (hx.heap (H15.box 1 Z)) Z)) (aL Z (wg Z Z Z) Z Z (fun zw hx=>aU bc Z) (aL Z (wg Z Z Z) Z Z (fun zw hx=>aj aX Z ba Z Z (At.whole (hx.heap (H15.box 0 Z)))) (bi Z (wg Z Z Z) Z Z (aD func66 Z cR Z) (bz η) (fun hS _ _ r _=>hS.trans r.1.no) (fun v9 w17 r9=>?_)))));obtain ⟨e17,rfl⟩:=r9;have H18:=H17.to e17;refine aL Z (wg Z Z Z) Z Z (fun zw hx=>cx Z Z) (dV Z Z (fun zw hx=>aE Z Z) (dM Z Z Z (cK (t:=66) Z (fun hg3=>?_) (fun hg3=>?_))))
        ·try simp only [decide_eq_true_eq,decide_eq_false_iff_not] at hg3
         refine dR 6 Z (bh Z ae Z Z (aG Z Z) (aS (dz Z (ah (rA hQ results74 Z ?_)))));have kq:=dY (s:=s) ω (by simp_all [fw]);have kF:=eK (s:=s) (aB c2) (aB c3) ω;exact ⟨H18.ext,congrArg (Value.int .i64) ((if_neg ω).trans (kF.trans kq)).symm⟩
        ·try simp only [decide_eq_true_eq,decide_eq_false_iff_not] at hg3
         refine aL Z (wg Z Z Z) Z Z (fun zw hx=>ab az Z bf Z Z) (aL Z (wg Z Z Z) Z Z (fun zw hx=>ac bc Z Z (ak (hx.heap (H15.box 1 Z)) Z)) (aL Z (wg Z Z Z) Z Z (fun zw hx=>aU bc Z) (aL Z (wg Z Z Z) Z Z (fun zw hx=>aj aX Z ba Z Z (At.whole (hx.heap (H15.box 0 Z)))) (bi Z (wg Z Z Z) Z Z (aD func66 Z cR Z) (bz η) (fun hS _ _ r _=>hS.trans r.1.no) (fun v10 w18 r10=>?_)))));obtain ⟨e18,rfl⟩:=r10;have H19:=H18.to e18;refine aL Z (wg Z Z Z) Z Z (fun zw hx=>cx Z Z) (bh Z ae Z Z (aE Z Z) (aS (aA Z (fun c9=>?_) (fun c9=>?_))))
         ·refine ah (rA hQ results74 Z ?_);have kq:=dY (s:=s) ω (by simp_all [fw]);have kF:=eK (s:=s) (aB c2) (aB c3) ω;exact ⟨H19.ext,congrArg (Value.int .i64) ((if_neg ω).trans (kF.trans kq)).symm⟩
         ·refine ar (ah (sF az Z ts2 (bA ae ts2 Z Z Z H19 2 Z Z (fun w19 e19 H20=>?_))));dsimp only[lNA,lCA,lSZ,lSS,aC] at H20;refine aa (ah (sF az Z ts2 (bA ae ts2 Z Z Z H20 2 Z Z (fun w20 e20 H21=>?_))));dsimp only[lNA,lCA,lSZ,lSS,aC] at H21;refine aa (ah (sF az Z bf (bA ae bf Z Z Z H21 2 Z Z (fun w21 e21 H22=>?_))));dsimp only[lNA,lCA,lSZ,lSS,aC] at H22;refine aa (aw (sF az Z bf (bA ae bf Z Z Z H22 2 Z Z (fun w22 e22 H23=>?_))));dsimp only[lNA,lCA,lSZ,lSS,aC] at H23;refine aa (ag (ah (sV Z (aj az Z aW Z Z (At.whole (H23.box 2 Z))) (sE func142 kp Z (fd (r:=⟨r.Kind,r.Seq,r.Name,r.Length,0,0,r.Rows,[],[]⟩) (xo rK) (H23.sees 0 Z) ⟨[],.inr (.inl ⟨Z,Z,Z⟩)⟩ ⟨[],.inr (.inl ⟨Z,Z,Z⟩)⟩) H23 (fun w23 e23 H24=>sV Z (bj Z) (aa (cI Z (fun c10=>?_) (fun c10=>?_))))))))
          ·refine ah (rA hQ results74 Z ?_);have kq:=jq (s:=s) ω (by simp_all [fw]);exact ⟨H24.ext,congrArg (Value.int .i64) ((if_neg ω).trans (jP (aB c2) (aB c3) kq (by rw [← pQ ω]; exact cL c10))).symm⟩
          ·refine ar (ah (rA hQ results74 Z ?_));have kq:=jq (s:=s) ω (by simp_all [fw]);exact ⟨H24.ext,congrArg (Value.int .i64) ((if_neg ω).trans (mA (aB c2) (aB c3) kq (by rw [← pQ ω]; exact aB c10))).symm⟩
     ·refine ah (sR 2 Z (aa (aA Z (fun c11=>?_) (fun c11=>?_))))
      ·refine ag (ag (bv (S:=Ext No _) (oQ [1,3,5,6,9,10,12]) κ κ κ Z (fun _=>Ext.refl.drawn _) (fun q2=>?_)));have H25:=H7.drawn q2;refine dV Z Z (fun zw hx=>ab az Z ts2 Z Z) (dV Z Z (fun zw hx=>ac tu2 Z Z (ak (hx.heap (H25.box 1 Z)) Z)) (dV Z Z (fun zw hx=>aj aX Z ba Z Z (At.whole (hx.heap (H25.box 0 Z)))) (dC func116 cN Z (bM η) (fun v12 w24 r12=>?_))));obtain ⟨e24,rfl⟩:=r12;have H26:=H25.to e24;refine dV Z Z (fun zw hx=>cQ Z Z iO) (dC func121 bP Z bm (fun v13 w25 r13=>?_));obtain ⟨e25,rfl⟩:=r13;have H27:=H26.to e25;refine bh Z ae Z Z (bj Z) (aS (cI Z (fun c12=>?_) (fun c12=>?_)))
       ·refine ah (rA hQ results74 Z ?_);have kq:=lQ (s:=s) ω (cL c12);have kF:=eK (s:=s) (aB c2) (aB c3) ω;exact ⟨H27.ext,congrArg (Value.int .i64) ((if_neg ω).trans (kF.trans kq)).symm⟩
       ·refine ar (aw (sF az Z ts2 (bA ae ts2 Z Z Z H27 2 Z Z (fun w26 e26 H28=>?_))));dsimp only[lNA,lCA,lSZ,lSS,aC] at H28;refine aa (ag (ah (sV Z (aj az Z aW Z Z (At.whole (H28.box 2 Z))) (sE func142 kp Z (fd (r:=⟨r.Kind,r.Seq,r.Name,r.Length,0,r.Row,r.Rows,r.Data,r.Delta⟩) (xH rK) (H28.sees 0 Z) (H28.sees 1 Z) (H28.sees 2 Z)) H28 (fun w27 e27 H29=>sV Z (bj Z) (aa (cI Z (fun c13=>?_) (fun c13=>?_))))))))
        ·refine ah (rA hQ results74 Z ?_);have kq:=ju (s:=s) ω (aB c12);exact ⟨H29.ext,congrArg (Value.int .i64) ((if_neg ω).trans (jP (aB c2) (aB c3) kq (by rw [← pB ω]; exact cL c13))).symm⟩
        ·refine ar (ah (rA hQ results74 Z ?_));have kq:=ju (s:=s) ω (aB c12);exact ⟨H29.ext,congrArg (Value.int .i64) ((if_neg ω).trans (mA (aB c2) (aB c3) kq (by rw [← pB ω]; exact aB c13))).symm⟩
      ·refine ah (sR 2 Z (aa (aA Z (fun c14=>?_) (fun c14=>?_))))
       ·refine ag (ag (bv (S:=Ext No _) (oQ [1,3,5,6,9,10,13,15,17,19,21,23,25,26,29,31,33,35,37,39,40,43,44,47,49,51,53,55,57,59,60,63,65,67,69,71,72,75,76]) κ κ κ Z (fun _=>Ext.refl.drawn _) (fun q3=>?_)));have H30:=H7.drawn q3;refine dV Z Z (fun zw hx=>ab az Z ts2 Z Z) (dV Z Z (fun zw hx=>ac tu2 Z Z (ak (hx.heap (H30.box 1 Z)) Z)) (dV Z Z (fun zw hx=>aj aX Z ba Z Z (At.whole (hx.heap (H30.box 0 Z)))) (dC func116 cN Z (bM η) (fun v15 w28 r15=>?_))));obtain ⟨e28,rfl⟩:=r15;have H31:=H30.to e28;refine dV Z Z (fun zw hx=>cQ Z Z iO) (dC func121 bP Z bm (fun v16 w29 r16=>?_));obtain ⟨e29,rfl⟩:=r16;have H32:=H31.to e29;refine dV Z Z (fun zw hx=>bj Z) (dM Z Z Z (cK (t:=97) Z (fun hg4=>?_) (fun hg4=>?_)))
        ·try simp only [decide_eq_true_eq,decide_eq_false_iff_not] at hg4
         refine dR 7 Z (dV Z Z (fun zw hx=>aG Z Z) (dR 8 Z (dV Z Z (fun zw hx=>aG Z Z) (dR 7 Z (dV Z Z (fun zw hx=>aG Z Z) (dR 5 Z (bh Z ae Z Z (aG Z Z) (aS (dz Z (ah (rA hQ results74 Z ?_)))))))))));have kq:=(eN (s:=s) ω).trans (if_neg (by simp_all [eu]));have kF:=eK (s:=s) (aB c2) (aB c3) ω;exact ⟨H32.ext,congrArg (Value.int .i64) ((if_neg ω).trans (kF.trans kq)).symm⟩
        ·try simp only [decide_eq_true_eq,decide_eq_false_iff_not] at hg4
         refine aL Z (wg Z Z Z) Z Z (fun zw hx=>ab az Z ts2 Z Z) (aL Z (wg Z Z Z) Z Z (fun zw hx=>ac tu2 Z Z (ak (hx.heap (H30.box 1 Z)) Z)) (aL Z (wg Z Z Z) Z Z (fun zw hx=>ab aX Z ts2 Z Z) (aL Z (wg Z Z Z) Z Z (fun zw hx=>ac tu2 Z Z (ak (hx.heap (H30.box 0 Z)) Z)) (aL Z (wg Z Z Z) Z Z (fun zw hx=>cQ Z Z iO) (bi Z (wg Z Z Z) Z Z (aD func121 Z bP Z) bm (fun hS _ _ r _=>hS.trans r.1.no) (fun v17 w30 r17=>?_))))));obtain ⟨e30,rfl⟩:=r17;have H33:=H32.to e30;refine aL Z (wg Z Z Z) Z Z (fun zw hx=>bj Z) (dV Z Z (fun zw hx=>aE Z Z) (dM Z Z Z (cK (t:=106) Z (fun hg5=>?_) (fun hg5=>?_))))
         ·try simp only [decide_eq_true_eq,decide_eq_false_iff_not] at hg5
          refine dR 7 Z (dV Z Z (fun zw hx=>aG Z Z) (dR 7 Z (dV Z Z (fun zw hx=>aG Z Z) (dR 5 Z (bh Z ae Z Z (aG Z Z) (aS (dz Z (ah (rA hQ results74 Z ?_)))))))));have kq:=(eN (s:=s) ω).trans (if_neg (by simp_all [eu]));have kF:=eK (s:=s) (aB c2) (aB c3) ω;exact ⟨H33.ext,congrArg (Value.int .i64) ((if_neg ω).trans (kF.trans kq)).symm⟩
         ·try simp only [decide_eq_true_eq,decide_eq_false_iff_not] at hg5
          refine aL Z (wg Z Z Z) Z Z (fun zw hx=>ab az Z bH Z Z) (aL Z (wg Z Z Z) Z Z (fun zw hx=>ac bn Z Z (ak (hx.heap (H30.box 1 Z)) Z)) (aL Z (wg Z Z Z) Z Z (fun zw hx=>aj aX Z ba Z Z (At.whole (hx.heap (H30.box 0 Z)))) (bi Z (wg Z Z Z) Z Z (aD func116 Z cN Z) (bM η) (fun hS _ _ r _=>hS.trans r.1.no) (fun v18 w31 r18=>?_))));obtain ⟨e31,rfl⟩:=r18;have H34:=H33.to e31;refine aL Z (wg Z Z Z) Z Z (fun zw hx=>cQ Z Z iO) (bi Z (wg Z Z Z) Z Z (aD func140 Z tm Z) (nl (H34.sees 0 Z) ω) (fun hS _ _ r _=>hS.trans r.1.no) (fun v19 w32 r19=>?_));obtain ⟨e32,rfl⟩:=r19;have H35:=H34.to e32;refine aL Z (wg Z Z Z) Z Z (fun zw hx=>bj Z) (dV Z Z (fun zw hx=>aE Z Z) (dM Z Z Z (cK (t:=115) Z (fun hg6=>?_) (fun hg6=>?_))))
          ·try simp only [decide_eq_true_eq,decide_eq_false_iff_not] at hg6
           refine dR 6 Z (dV Z Z (fun zw hx=>aG Z Z) (dR 5 Z (bh Z ae Z Z (aG Z Z) (aS (dz Z (ah (rA hQ results74 Z ?_)))))));have kq:=(eN (s:=s) ω).trans (if_neg (by simp_all [eu]));have kF:=eK (s:=s) (aB c2) (aB c3) ω;exact ⟨H35.ext,congrArg (Value.int .i64) ((if_neg ω).trans (kF.trans kq)).symm⟩
          ·try simp only [decide_eq_true_eq,decide_eq_false_iff_not] at hg6
           refine aL Z (wg Z Z Z) Z Z (fun zw hx=>ab az Z bf Z Z) (aL Z (wg Z Z Z) Z Z (fun zw hx=>ac bc Z Z (ak (hx.heap (H30.box 1 Z)) Z)) (aL Z (wg Z Z Z) Z Z (fun zw hx=>aU bc Z) (aL Z (wg Z Z Z) Z Z (fun zw hx=>aj aX Z ba Z Z (At.whole (hx.heap (H30.box 0 Z)))) (bi Z (wg Z Z Z) Z Z (aD func66 Z cR Z) (bz η) (fun hS _ _ r _=>hS.trans r.1.no) (fun v20 w33 r20=>?_)))));obtain ⟨e33,rfl⟩:=r20;have H36:=H35.to e33;refine aL Z (wg Z Z Z) Z Z (fun zw hx=>cx Z Z) (dV Z Z (fun zw hx=>aE Z Z) (dM Z Z Z (cK (t:=123) Z (fun hg7=>?_) (fun hg7=>?_))))
           ·try simp only [decide_eq_true_eq,decide_eq_false_iff_not] at hg7
            refine dR 4 Z (bh Z ae Z Z (aG Z Z) (aS (dz Z (ah (rA hQ results74 Z ?_)))));have kq:=(eN (s:=s) ω).trans (if_neg (by simp_all [eu]));have kF:=eK (s:=s) (aB c2) (aB c3) ω;exact ⟨H36.ext,congrArg (Value.int .i64) ((if_neg ω).trans (kF.trans kq)).symm⟩
           ·have hgr:=bD.1 (aB hg4);have hrr:∀ i,i<r.Rows.length→0≤r.Rows.getD i 0∧r.Rows.getD i 0<s.Groups+s.Column:=fun i hi=>by have:=qp (aB hg6) i hi; omega
            refine aL Z (wg Z Z Z) Z Z (fun zw hx=>aj aX Z ba Z Z (At.whole (hx.heap (H30.box 0 Z)))) (aL Z (wg Z Z Z) Z Z (fun zw hx=>aj az Z aW Z Z (At.whole (hx.heap (H30.box 1 Z)))) (bi Z (wg Z Z Z) Z Z (aD func141 Z tA Z) (lL η (H36.sees 0 Z) (H36.sees 1 Z) (H36.sees 2 Z) η ω hrr) (fun hS _ _ r _=>hS.trans r.1.no) (fun v21 w34 r21=>?_)));obtain ⟨e34,rfl⟩:=r21;have H37:=H36.to e34;refine aL Z (wg Z Z Z) Z Z (fun zw hx=>bj Z) (bh Z ae Z Z (aE Z Z) (aS (cI Z (fun c15=>?_) (fun c15=>?_))))
            ·refine ah (rA hQ results74 Z ?_);have kq:=(eN (s:=s) ω).trans (if_neg (by simp_all [eu]));have kF:=eK (s:=s) (aB c2) (aB c3) ω;exact ⟨H37.ext,congrArg (Value.int .i64) ((if_neg ω).trans (kF.trans kq)).symm⟩
            ·refine ar (ah (sF az Z bf (bA ae bf Z Z Z H37 2 Z Z (fun w35 e35 H38=>?_))));dsimp only[lNA,lCA,lSZ,lSS,aC] at H38;refine aa (ah (sF az Z ts2 (bA ae ts2 Z Z Z H38 2 Z Z (fun w36 e36 H39=>?_))));dsimp only[lNA,lCA,lSZ,lSS,aC] at H39;refine aa (ah (sF az Z ts2 (bA ae ts2 Z Z Z H39 2 Z Z (fun w37 e37 H40=>?_))));dsimp only[lNA,lCA,lSZ,lSS,aC] at H40;refine aa (ah (sF az Z bH (bA ae bH Z Z Z H40 2 Z Z (fun w38 e38 H41=>?_))));dsimp only[lNA,lCA,lSZ,lSS,aC] at H41;refine aa (aw (sF az Z bf (bA ae bf Z Z Z H41 2 Z Z (fun w39 e39 H42=>?_))));dsimp only[lNA,lCA,lSZ,lSS,aC] at H42;refine aa (ag (ah (sV Z (aj az Z aW Z Z (At.whole (H42.box 2 Z))) (sE func142 kp Z (fd (r:=⟨r.Kind,r.Seq,r.Name,r.Length,0,0,[],[],[]⟩) (xL rK) ⟨[],.inr (.inl ⟨Z,Z,Z⟩)⟩ ⟨[],.inr (.inl ⟨Z,Z,Z⟩)⟩ ⟨[],.inr (.inl ⟨Z,Z,Z⟩)⟩) H42 (fun w40 e40 H43=>sV Z (bj Z) (aa (cI Z (fun c16=>?_) (fun c16=>?_))))))))
             ·refine ah (rA hQ results74 Z ?_);have kq:=(eN (s:=s) ω).trans (if_pos (by simp_all [eu]));exact ⟨H43.ext,congrArg (Value.int .i64) ((if_neg ω).trans (jP (aB c2) (aB c3) kq (by rw [← pd ω]; exact cL c16))).symm⟩
             ·refine ar (ah (rA hQ results74 Z ?_));have kq:=(eN (s:=s) ω).trans (if_pos (by simp_all [eu]));exact ⟨H43.ext,congrArg (Value.int .i64) ((if_neg ω).trans (mA (aB c2) (aB c3) kq (by rw [← pd ω]; exact aB c16))).symm⟩
       ·exfalso; omega
theorem mi {w:World}{b:Block}{bA1:Option Addr}{bC1:Nat}(bK:b.Ok) (bS1:Sees w [.slice bA1 b.Bytes.length bC1] b.Bytes):Ret Tryz.prog 163 #[b.val bA1 bC1] w fun v w'=>Ext No w w'∧(v = .bool (dk b)):=by
 have bK2:=bK;unfold Block.Ok at bK2
 try unfold I64ok at bK2
 try unfold maxLen at bK2
 have bL1:=sL bS1;obtain ⟨bF1,bO1⟩:=bS1;refine aV func163 Z ntmps163 Z (fun Q hQ hN=>?_);have H0:=Sep.start (an bO1 aP);refine ah (bE ae Z Z H0 (fun b1 w1 e1 g1 H1=>sA Z Z (aa (ah (sF eX Z ts2 (sLd tu2 (H1.box 0 Z) Z (sE func77 cH Z br H1 (fun w2 e2 H2=>sM Z Z (bO 4 (j:=3) (want:=true) (t:=10) Z Z Z Z (fun hg1 kk1=>ao (wgE Z Z Z hg1) Z Z (ab eX Z bf Z Z) (ao (wgE Z Z Z hg1) Z Z (ac bc Z Z (ak (H2.box 0 Z) Z)) (ao (wgE Z Z Z hg1) Z Z (aU bc Z) (ao (wgE Z Z Z hg1) Z Z (cD Z Z) (kk1 _ _ (kx Z (kx Z (kx Z (kx Z k0)))) Z Ext.refl))))) (fun w3 e3=>?_))))))))));have H3:=H2.to e3;refine sV Z (bI Z Z) (rA hQ results163 Z ?_);exact ⟨H3.ext,congrArg Value.bool (by simp only [dk]; congr 1; exact decide_eq_decide.2 ω)⟩
theorem kM {w:World}{b:Block}{bA1:Option Addr}{bC1:Nat}(bK:b.Ok) (bS1:Sees w [.slice bA1 b.Bytes.length bC1] b.Bytes):Ret Tryz.prog 162 #[b.val bA1 bC1] w fun v w'=>Ext No w w'∧(v = .bool (!dk b)):=by
 have bK2:=bK;unfold Block.Ok at bK2
 try unfold I64ok at bK2
 try unfold maxLen at bK2
 have bL1:=sL bS1;obtain ⟨bF1,bO1⟩:=bS1;refine aV func162 Z ntmps162 Z (fun Q hQ hN=>?_);have H0:=Sep.start (an bO1 aP);refine ah (bE ae Z Z H0 (fun b1 w1 e1 g1 H1=>sA Z Z (aa (ah (sV Z (aj eX Z dX Z Z (At.whole (H1.box 0 Z))) (sE func163 tf Z (mi η (H1.sees 0 Z)) H1 (fun w2 e2 H2=>sV Z (bj Z) (rA hQ results162 Z ?_))))))));exact ⟨H2.ext,Z⟩
set_option maxHeartbeats 1000000 in
theorem l7 {w:World}{z:Wld}{zA9 zA10 zA11:Option Addr}{zC9 zC10 zC11:Nat}(zK:z.Ok) (zS9:Sees w [.slice zA9 z.Groups.length zC9] z.Groups) (zS10:Sees w [.slice zA10 z.On.length zC10] z.On) (zS11:Sees w [.slice zA11 z.Tapes.length zC11] z.Tapes) (hs:z.Shape.ok=true):Ret Tryz.prog 86 #[z.val zA9 zC9 zA10 zC10 zA11 zC11] w fun v w'=>Ext No w w'∧(v = .bool (bG z)):=by
 have zK2:=zK;unfold Wld.Ok Shape.Ok at zK2
 try unfold I64ok at zK2
 try unfold maxLen at zK2
 have zL9:=sL zS9;obtain ⟨zF9,zO9⟩:=zS9;have zL10:=sL zS10;obtain ⟨zF10,zO10⟩:=zS10;have zL11:=sL zS11;obtain ⟨zF11,zO11⟩:=zS11;have sbd:=aZ hs;refine aV func86 Z ntmps86 Z (fun Q hQ hN=>?_);have H0:=Sep.start (an zO9 (an zO10 (an zO11 aP)));refine ah (bE ae Z Z H0 (fun b1 w1 e1 g1 H1=>sA Z Z (aa (ah (sF aJ Z ba (sV Z (aj aX Z ba Z Z (At.sub (H1.box 0 Z) 9)) (bQ ae Z zeroValue30 H1 (fun b2 w2 e2 g2 H2=>aO ae ba Z Z Z Z H2 1 Z Z (fun w3 e3 H3=>?_)))))))));dsimp only[lNA,lCA,lSZ,lSS,aC] at H3;refine aa (ag (ag (bv (S:=Ext No _) (oQ [1,3,7,4,8,10]) κ κ κ Z (fun _=>Ext.refl.drawn _) (fun q1=>?_))));have H4:=H3.drawn q1;refine dV Z Z (fun zw hx=>ab aJ Z df Z Z) (dV Z Z (fun zw hx=>ac bT Z Z (ak (hx.heap (H4.box 0 Z)) Z)) (dV Z Z (fun zw hx=>aj aX Z ba Z Z (At.whole (hx.heap (H4.box 1 Z)))) (dC func158 tE Z (lK (H4.sees 0 Z)) (fun v1 w4 r1=>?_))));obtain ⟨e4,rfl⟩:=r1;have H5:=H4.to e4;refine dC func148 jW Z (eF η) (fun v2 w5 r2=>?_);obtain ⟨e5,rfl⟩:=r2;have H6:=H5.to e5;refine bh Z ae Z Z (cx Z Z) (aS (aA Z (fun c1=>?_) (fun c1=>?_)))
 ·refine ah (rA hQ results86 Z ?_);exact ⟨H6.ext,congrArg Value.bool (mR ω).symm⟩
 ·refine ar (ag (ah (sF aJ Z df (sLd bT (H6.box 0 Z) Z (sV Z (aU bT Z) (sM Z Z (aa (ay (dd (γ:=Nat) H6 [(3,_),(17,_),(18,_)] ⟨Z,Z,Z,trivial⟩ (fun k=>[(19,.int .i64 k)]) (fun k=>k≤z.Groups.length∧(∀ i,i<k→et z.Shape (z.Groups.getD i [])=true)) (fun k=>z.Groups.length-k) 0 ⟨Z,trivial⟩ ⟨ω,fun i hi=>by omega⟩ (fun k w6 H7 ⟨hk,he⟩=>?_))))))))));dsimp only[lCA,lNA];refine ah (sV Z (bq Z Z) (aa (ag (aA Z (fun c2=>?_) (fun c2=>?_)))))
  ·refine ar (ag (ay (ag ?_)));obtain ⟨eb1,eo1,ea1,ek1,ef1,ee1,ec1,eO1,eH1⟩:=dp (H7.seen 0 Z) k ω;have eP1:=H7.look1 0 Z eO1 eH1;refine aw (sV Z (aF bT fB Z Z ee1 k ω ω) (sV Z (ac cm Z Z ec1) (sA Z Z (aa (ag (ag (bv (S:=Ext No _) (oQ [1,5,2,6,8]) κ κ κ Z (fun _=>Ext.refl.drawn _) (fun q2=>?_))))))));have H8:=eP1.drawn q2;refine dM Z Z Z (dV Z Z (fun zw hx=>aj aX Z ba Z Z (At.whole (hx.heap (H8.box 1 Z)))) (dC func159 tU Z (oB (H8.sees 3 Z)) (fun v3 w7 r3=>?_)));obtain ⟨e6,rfl⟩:=r3;have H9:=H8.to e6;refine dC func134 l0 Z (eS η) (fun v4 w8 r4=>?_);obtain ⟨e7,rfl⟩:=r4;have H10:=H9.to e7;refine bh Z ae Z Z (cx Z Z) (aS (aA Z (fun c3=>?_) (fun c3=>?_)))
   ·refine ah (rA hQ results86 Z ?_);exact ⟨H10.ext,congrArg Value.bool (ge k ω (nW ω)).symm⟩
   ·refine ar (ah (sM Z Z (sV Z (aU cm Z) (sM Z Z (aa (ay (dd (γ:=Nat) H10 [(3,_),(17,_),(18,_),(19,_),(28,_),(29,_)] ⟨Z,Z,Z,Z,Z,Z,trivial⟩ (fun k2=>[(30,.int .i64 k2)]) (fun k2=>k2≤(z.Groups.getD k []).length∧(∀ i,i<k2→dh z.Shape ((z.Groups.getD k []).getD i default)=true)) (fun k2=>(z.Groups.getD k []).length-k2) 0 ⟨Z,trivial⟩ ⟨ω,fun i hi=>by omega⟩ (fun k2 w9 H11 ⟨hk2,hek2⟩=>?_))))))));dsimp only[lCA,lNA];refine ah (sV Z (bq Z Z) (aa (ag (aA Z (fun c4=>?_) (fun c4=>?_)))))
    ·refine ar (ag (ay (ag ?_)));obtain ⟨eb2,eo2,es1,ef2,ee2,ec2,eO2,eH2,em1⟩:=bV (H11.seen 3 Z) k2 ω;obtain ⟨ea2,ek2,eg1,rfl,eq1,eK1,eo3⟩:=eI eO2;have eP2:=H11.look1 3 Z eo3 (fun b hb=>eH2 b (by rw [eq1]; simp [hb]));have eL1:=oL eo3;refine aw (sV Z (aF cm dW Z Z ee2 k2 ω ω) (sV Z (aj d8 Z dW Z Z ec2) (bQ ae Z zeroValue54 eP2 (fun b3 w10 e8 g3 H12=>aO ae dW Z Z Z Z H12 2 Z Z (fun w11 e9 H13=>?_)))));dsimp only[lNA,lCA,lSZ,lSS,aC] at H13;refine aa (ag (bv (S:=Ext No _) (oQ [1,3,7,9,4,11,13,15,17,18,20]) κ κ κ Z (fun _=>Ext.refl.drawn _) (fun q3=>?_)));have H14:=H13.drawn q3;refine dV Z Z (fun zw hx=>ab d8 Z gb Z Z) (dV Z Z (fun zw hx=>ac dg Z Z (ak (hx.heap (H14.box 2 Z)) Z)) (dV Z Z (fun zw hx=>ab aX Z ts2 Z Z) (dV Z Z (fun zw hx=>ac tu2 Z Z (ak (hx.heap (H14.box 1 Z)) Z)) (dC func160 uI Z (ox (H14.sees 4 Z)) (fun v5 w12 r5=>?_)))));obtain ⟨e10,rfl⟩:=r5;have H15:=H14.to e10;refine dR 2 Z (cK (t:=40) Z (fun hg1=>?_) (fun hg1=>?_))
     ·try simp only [decide_eq_true_eq,decide_eq_false_iff_not] at hg1
      refine dR 3 Z (bh Z ae Z Z (aG Z Z) (aS (dz Z (ah (rA hQ results86 Z ?_)))));exact ⟨H15.ext,congrArg Value.bool (ge k ω (ka k2 ω (nM ω))).symm⟩
     ·try simp only [decide_eq_true_eq,decide_eq_false_iff_not] at hg1
      refine aL Z (wg Z Z Z) Z Z (fun zw hx=>ab d8 Z gb Z Z) (aL Z (wg Z Z Z) Z Z (fun zw hx=>ac dg Z Z (ak (hx.heap (H14.box 2 Z)) Z)) (bi Z (wg Z Z Z) Z Z (aD func161 Z tx Z) (jT (H15.sees 4 Z) (p:=(fun b => !dk b)) func162 Z ti (fun w1 e1 i0 hi0 _ _ K0 o0_1=>kM K0 o0_1)) (fun hS _ _ r _=>hS.trans r.1.no) (fun v6 w13 r6=>?_)));obtain ⟨e11,rfl⟩:=r6;have H16:=H15.to e11;refine bh Z ae Z Z (aE Z Z) (aS (cI Z (fun c5=>?_) (fun c5=>?_)))
      ·refine ah (rA hQ results86 Z ?_);exact ⟨H16.ext,congrArg Value.bool (ge k ω (ka k2 ω (sk c5))).symm⟩
      ·refine ar (aw (sV Z (aN Z Z iO) (sM Z Z (aa (⟨k2+1,⟨Z,Z,Z,Z,Z,Z,Z,trivial⟩,⟨((H16.ftake 4).dtake 2),ω,fun i hi=>?_⟩,θ⟩)))))
       by_cases e:i=k2
       ·subst e;exact sj ω c5
       ·exact hek2 i ω
    ·refine bd (aw (sV Z (aN Z Z iO) (sM Z Z (aa (⟨k+1,⟨Z,Z,Z,Z,trivial⟩,⟨(H11.ftake 3),ω,fun i hi=>?_⟩,θ⟩)))))
     by_cases e:i=k
     ·subst e;exact nT ω (fun i hi=>hek2 i ω)
     ·exact he i ω
  ·refine bd (ah (rA hQ results86 Z ?_));exact ⟨H7.ext,congrArg Value.bool (mY ω (fun i hi=>he i ω)).symm⟩
theorem pW {w:World}{z:Wld}{zA9 zA10 zA11:Option Addr}{zC9 zC10 zC11:Nat}(zK:z.Ok) (zS9:Sees w [.slice zA9 z.Groups.length zC9] z.Groups) (zS10:Sees w [.slice zA10 z.On.length zC10] z.On) (zS11:Sees w [.slice zA11 z.Tapes.length zC11] z.Tapes) (hs:z.Shape.ok=true):Ret Tryz.prog 87 #[z.val zA9 zC9 zA10 zC10 zA11 zC11] w fun v w'=>Ext No w w'∧(v = .bool (kB z)):=by
 have zK2:=zK;unfold Wld.Ok Shape.Ok at zK2
 try unfold I64ok at zK2
 try unfold maxLen at zK2
 have zL9:=sL zS9;obtain ⟨zF9,zO9⟩:=zS9;have zL10:=sL zS10;obtain ⟨zF10,zO10⟩:=zS10;have zL11:=sL zS11;obtain ⟨zF11,zO11⟩:=zS11;have sbd:=aZ hs;refine aV func87 Z ntmps87 Z (fun Q hQ hN=>?_);have H0:=Sep.start (an zO9 (an zO10 (an zO11 aP)));refine ah (bE ae Z Z H0 (fun b1 w1 e1 g1 H1=>sA Z Z (aa (ag (ah (sF aJ Z bH (sLd bn (H1.box 0 Z) Z (sV Z (aU bn Z) (sM Z Z (aa (ay (dd (γ:=Nat) H1 [(1,_),(6,_),(7,_)] ⟨Z,Z,Z,trivial⟩ (fun k=>[(8,.int .i64 k)]) (fun k=>k≤z.On.length∧(∀ i,i<k→apartAt z.On (z.Shape.Groups+z.Shape.Column-1) i=true)) (fun k=>z.On.length-k) 0 ⟨Z,trivial⟩ ⟨ω,fun i hi=>by omega⟩ (fun k w2 H2 ⟨hk,he⟩=>?_)))))))))))));dsimp only[lCA,lNA];refine ah (sV Z (bq Z Z) (aa (ag (aA Z (fun c1=>?_) (fun c1=>?_)))))
 ·refine ar (ag (ay (ag ?_)));obtain ⟨eb1,eo1,ee1,ec1⟩:=dS (H2.seen 1 Z) k ω;have eI1:=en (H2.seen 1 Z) k ω;refine aw (sM Z Z (sV Z (aF bn ts2 Z Z ee1 k ω ω) (sV Z (ac tu2 Z Z ec1) (sR 2 Z (aa (ah (sF aJ Z ba (sV Z (aj aX Z ba Z Z (At.sub (H2.box 0 Z) 9)) (sM Z Z (sE func78 jM Z (db η) H2 (fun w3 e2 H3=>sV Z (bj Z) (sM Z Z (bZ (t:=18) Z (fun hg1=>?_) (fun hg1=>?_))))))))))))))
  ·try simp only [decide_eq_true_eq,decide_eq_false_iff_not] at hg1
   refine sR 6 Z (sV Z (aG Z Z) (aa (dz Z (ah (rA hQ results87 Z ?_)))));exact ⟨H3.ext,congrArg Value.bool (pv (jX k ω (by simp only [apartAt,eU] at *; simp_all))).symm⟩
  ·try simp only [decide_eq_true_eq,decide_eq_false_iff_not] at hg1
   refine ao (wg Z Z Z) Z Z (ab aJ Z bH Z Z) (ao (wg Z Z Z) Z Z (ac bn Z Z (ak (H3.box 0 Z) Z)) (ao (wg Z Z Z) Z Z (aM Z) ?_));have sc1:=fY (H3.seen 1 Z);obtain ⟨sf1,so1,ss1⟩:=kL (H3.seen 1 Z) (0) (k) _ ω ω ω (Nat.le_refl _);have H4:=H3.look1 1 Z so1 ss1;have sl1:=jf (xs:=z.On) (l:=0) (h:=k) ω;refine ao (wg Z Z Z) Z Z (kU bn ts2 Z Z (k) ω ω sl1) ((ao (wg Z Z Z) Z Z (aM Z) (cW (wg Z Z Z) Z Z (aD func149 Z ku Z) (cB (H4.sees 3 Z)) (fun v2 w4 r2=>?_))));obtain ⟨e3,rfl⟩:=r2;have H5:=H4.to e3;refine sV Z (aE Z Z) (aa (cI Z (fun c2=>?_) (fun c2=>?_)))
   ·refine ah (rA hQ results87 Z ?_);exact ⟨H5.ext,congrArg Value.bool (pv (jX k ω (by simp only [apartAt,eU] at *; simp_all))).symm⟩
   ·refine ar (aw (sV Z (aN Z Z iO) (sM Z Z (aa (⟨k+1,⟨Z,Z,Z,Z,trivial⟩,⟨(H5.ftake 3),ω,fun i hi=>?_⟩,θ⟩)))))
    by_cases e:i=k
    ·subst e;simp only [apartAt,eU] at *; simp_all
    ·exact he i ω
 ·refine bd (ag (bv (S:=Ext No _) (oQ [1,3,7,9,11,4,13,15,17,19,21,23,25,27,29,31,33,35,36]) κ κ κ Z (fun _=>Ext.refl.drawn _) (fun q1=>?_)));have H6:=H2.drawn q1;refine dV Z Z (fun zw hx=>ab aJ Z bH Z Z) (dV Z Z (fun zw hx=>ac bn Z Z (ak (hx.heap (H6.box 0 Z)) Z)) (dV Z Z (fun zw hx=>ab aJ Z ba Z Z) (dV Z Z (fun zw hx=>ab aX Z ts2 Z Z) (dV Z Z (fun zw hx=>ac tu2 Z Z (ak (hx.heap (H6.box 0 Z)) Z)) (dC func80 ly Z (fV (H6.sees 1 Z)) (fun v3 w5 r3=>?_))))));obtain ⟨e4,rfl⟩:=r3;have H7:=H6.to e4;refine dR 2 Z (cK (t:=34) Z (fun hg2=>?_) (fun hg2=>?_))
  ·try simp only [decide_eq_true_eq,decide_eq_false_iff_not] at hg2
   refine aL Z (wg Z Z Z) Z Z (fun zw hx=>ab aJ Z bH Z Z) (aL Z (wg Z Z Z) Z Z (fun zw hx=>ac bn Z Z (ak (hx.heap (H6.box 0 Z)) Z)) (aL Z (wg Z Z Z) Z Z (fun zw hx=>aU bn Z) (aL Z (wg Z Z Z) Z Z (fun zw hx=>cD Z Z) (aL Z (wg Z Z Z) Z Z (fun zw hx=>aM Z) (cK (t:=39) Z (fun hg3=>?_) (fun hg3=>?_))))))
   ·try simp only [decide_eq_true_eq,decide_eq_false_iff_not] at hg3
    refine dR 3 Z (aL Z (wg Z Z Z) Z Z (fun zw hx=>aG Z Z) (dV Z Z (fun zw hx=>aG Z Z) (bh Z ae Z Z (aY Z) (aS (rT hQ results87 Z ?_)))));exact ⟨H7.ext,congrArg Value.bool (nz (gZ fun i hi=>he i ω) (by simp_all)).symm⟩
   ·try simp only [decide_eq_true_eq,decide_eq_false_iff_not] at hg3
    refine aL Z (wg Z Z Z) Z Z (fun zw hx=>ab aJ Z ts4 Z Z) (aL Z (wg Z Z Z) Z Z (fun zw hx=>ac tu4 Z Z (ak (hx.heap (H6.box 0 Z)) Z)) (aL Z (wg Z Z Z) Z Z (fun zw hx=>bj Z) (aL Z (wg Z Z Z) Z Z (fun zw hx=>aE Z Z) (dV Z Z (fun zw hx=>aG Z Z) (bh Z ae Z Z (aY Z) (aS (rT hQ results87 Z ?_)))))));exact ⟨H7.ext,congrArg Value.bool (nz (gZ fun i hi=>he i ω) (by simp_all)).symm⟩
  ·try simp only [decide_eq_true_eq,decide_eq_false_iff_not] at hg2
   refine dR 5 Z (cy Z (wou Z Z Z) Z Z (cy Z (wou Z Z Z) Z Z (cy Z (wou Z Z Z) Z Z (dKf Z Z Z Z (dV Z Z (fun zw hx=>aE Z Z) (bh Z ae Z Z (aY Z) (aS (rT hQ results87 Z ?_))))))));exact ⟨H7.ext,congrArg Value.bool (nz (gZ fun i hi=>he i ω) (by rw [decide_eq_false ω]; rfl)).symm⟩
theorem jY {w:World}{t:Tape}{tA1:Option Addr}{tC1:Nat}(tK:t.Ok) (tS1:Sees w [.slice tA1 t.Recs.length tC1] t.Recs):Ret Tryz.prog 165 #[t.val tA1 tC1] w fun v w'=>Ext No w w'∧(v = .bool (dB t)):=by
 have tK2:=tK;unfold Tape.Ok at tK2
 try unfold I64ok at tK2
 try unfold maxLen at tK2
 have tL1:=sL tS1;obtain ⟨tF1,tO1⟩:=tS1;refine aV func165 Z ntmps165 Z (fun Q hQ hN=>?_);have H0:=Sep.start (an tO1 aP);refine ah (bE ae Z Z H0 (fun b1 w1 e1 g1 H1=>sA Z Z (aa (ah (sF dT Z gJ (sLd cY (H1.box 0 Z) Z (sV Z (aU cY Z) (sR 2 Z (rN hQ results165 Z ?_)))))))));exact ⟨H1.ext,Z⟩
theorem kt {w:World}{t:Tape}{tA1:Option Addr}{tC1:Nat}(tK:t.Ok) (tS1:Sees w [.slice tA1 t.Recs.length tC1] t.Recs):Ret Tryz.prog 166 #[t.val tA1 tC1] w fun v w'=>Ext No w w'∧(v = .bool (dI t)):=by
 have tK2:=tK;unfold Tape.Ok at tK2
 try unfold I64ok at tK2
 try unfold maxLen at tK2
 have tL1:=sL tS1;obtain ⟨tF1,tO1⟩:=tS1;refine aV func166 Z ntmps166 Z (fun Q hQ hN=>?_);have H0:=Sep.start (an tO1 aP);refine ah (bE ae Z Z H0 (fun b1 w1 e1 g1 H1=>sA Z Z (aa (ah (sF dT Z ts4 (sLd tu4 (H1.box 0 Z) Z (sM Z Z (bO 4 (j:=2) (want:=true) (t:=9) Z Z Z Z (fun hg1 kk1=>ao (wgE Z Z Z hg1) Z Z (ab dT Z gJ Z Z) (ao (wgE Z Z Z hg1) Z Z (ac cY Z Z (ak (H1.box 0 Z) Z)) (ao (wgE Z Z Z hg1) Z Z (aU cY Z) (ao (wgE Z Z Z hg1) Z Z (eB Z Z) (kk1 _ _ (kx Z (kx Z (kx Z (kx Z k0)))) Z Ext.refl))))) (fun w2 e2=>?_)))))))));have H2:=H1.to e2;refine sV Z (bI Z Z) (rA hQ results166 Z ?_);exact ⟨H2.ext,congrArg Value.bool (by simp [dI])⟩
set_option maxHeartbeats 1000000 in
theorem kH {w:World}{z:Wld}{zA9 zA10 zA11:Option Addr}{zC9 zC10 zC11:Nat}(zK:z.Ok) (zS9:Sees w [.slice zA9 z.Groups.length zC9] z.Groups) (zS10:Sees w [.slice zA10 z.On.length zC10] z.On) (zS11:Sees w [.slice zA11 z.Tapes.length zC11] z.Tapes) (hs:z.Shape.ok=true):Ret Tryz.prog 88 #[z.val zA9 zC9 zA10 zC10 zA11 zC11] w fun v w'=>Ext No w w'∧(v = .int .i64 (eQ z)):=by
 have zK2:=zK;unfold Wld.Ok Shape.Ok at zK2
 try unfold I64ok at zK2
 try unfold maxLen at zK2
 have zL9:=sL zS9;obtain ⟨zF9,zO9⟩:=zS9;have zL10:=sL zS10;obtain ⟨zF10,zO10⟩:=zS10;have zL11:=sL zS11;obtain ⟨zF11,zO11⟩:=zS11;have sbd:=aZ hs;refine aV func88 Z ntmps88 Z (fun Q hQ hN=>?_);have H0:=Sep.start (an zO9 (an zO10 (an zO11 aP)));refine ah (bE ae Z Z H0 (fun b1 w1 e1 g1 H1=>sA Z Z (aa (ag (ah (sF aJ Z ev (sLd cw (H1.box 0 Z) Z (sE func164 qe Z (gA (H1.sees 2 Z) (p:=dB) func165 Z tJ (fun w1 e1 i0 hi0 _ _ K0 o0_1=>jY K0 o0_1)) H1 (fun w2 e2 H2=>aa (cI Z (fun c1=>?_) (fun c1=>?_)))))))))))
 ·refine ah (rA hQ results88 Z ?_);exact ⟨H2.ext,congrArg (Value.int .i64) (ii c1).symm⟩
 ·refine ar (ag (ag ?_));have cM:=c1;refine aw (sF aJ Z ev (sLd cw (H2.box 0 Z) Z (sV Z (aU cw Z) (sM Z Z (aa (ay (dd (γ:=Nat) H2 [(1,_),(12,_),(13,_)] ⟨Z,Z,Z,trivial⟩ (fun k=>[(14,.int .i64 k)]) (fun k=>k≤z.Tapes.length∧fF z.Shape z.Tapes k=0) (fun k=>z.Tapes.length-k) 0 ⟨Z,trivial⟩ ⟨ω,Z⟩ (fun k w3 H3 ⟨hk,hkz⟩=>?_))))))));dsimp only[lCA,lNA];refine ah (sV Z (bq Z Z) (aa (ag (aA Z (fun c2=>?_) (fun c2=>?_)))))
  ·refine ar (ag (ay (ag ?_)));obtain ⟨eb1,eo1,es1,ef1,ee1,ec1,eO1,eH1,em1⟩:=bV (H3.seen 2 Z) k ω;obtain ⟨ea1,ek1,eg1,rfl,eq1,eK1,eo2⟩:=eq eO1;have eP1:=H3.look1 2 Z eo2 (fun b hb=>eH1 b (by rw [eq1]; simp [hb]));have eL1:=oL eo2;refine aw (sV Z (aF cw dy Z Z ee1 k ω ω) (sV Z (aj dT Z dy Z Z ec1) (bQ ae Z zeroValue123 eP1 (fun b2 w4 e3 g2 H4=>aO ae dy Z Z Z Z H4 1 Z Z (fun w5 e4 H5=>?_)))));dsimp only[lNA,lCA,lSZ,lSS,aC] at H5;refine aa (ah (sF dT Z gJ (sLd cY (H5.box 1 Z) Z (sV Z (aU cY Z) (sM Z Z (aa (ay (dd (γ:=Nat) H5 [(1,_),(12,_),(13,_),(14,_),(19,_),(20,_)] ⟨Z,Z,Z,Z,Z,Z,trivial⟩ (fun k2=>[(21,.int .i64 k2)]) (fun k2=>k2≤(z.Tapes.getD k default).Recs.length∧fN z.Shape (z.Tapes.getD k default).Recs k2=0) (fun k2=>(z.Tapes.getD k default).Recs.length-k2) 0 ⟨Z,trivial⟩ ⟨ω,Z⟩ (fun k2 w6 H6 ⟨hk2,hk2z⟩=>?_)))))))));dsimp only[lCA,lNA];refine ah (sV Z (bq Z Z) (aa (ag (aA Z (fun c3=>?_) (fun c3=>?_)))))
   ·refine ar (ag (ay (ag ?_)));obtain ⟨eb2,eo3,es2,ef2,ee2,ec2,eO2,eH2,em2⟩:=bV (H6.seen 3 Z) k2 ω;obtain ⟨ea2,ek2,ea3,ek3,ea4,ek4,eg2,eg3,eg4,rfl,eq2,eK2,eo4,eo5,eo6⟩:=bN eO2;have eK2U:=eK2;unfold Rec.Ok at eK2U
    try unfold I64ok at eK2U
    try unfold maxLen at eK2U
    have eP2:=H6.look1 3 Z eo4 (fun b hb=>eH2 b (by rw [eq2]; simp [hb]));have eL2:=oL eo4;have eP3:=eP2.look1 3 Z eo5 (fun b hb=>eH2 b (by rw [eq2]; simp [hb]));have eL3:=oL eo5;have eP4:=eP3.look1 3 Z eo6 (fun b hb=>eH2 b (by rw [eq2]; simp [hb]));have eL4:=oL eo6;refine aw (sV Z (aF cY aW Z Z ee2 k2 ω ω) (sV Z (aj az Z aW Z Z ec2) (bQ ae Z zeroValue47 eP4 (fun b3 w7 e5 g3 H7=>aO ae aW Z Z Z Z H7 2 Z Z (fun w8 e6 H8=>?_)))));dsimp only[lNA,lCA,lSZ,lSS,aC] at H8;refine aa (ah (sF aJ Z ba (sV Z (aj aX Z ba Z Z (At.sub (H8.box 0 Z) 9)) (sV Z (aj az Z aW Z Z (At.whole (H8.box 2 Z))) (sE func70 nb Z (gc η (H8.sees 4 Z) (H8.sees 5 Z) (H8.sees 6 Z) η) H8 (fun w9 e7 H9=>sA Z Z (aa (ah (sR 2 Z (aa (aA Z (fun c4=>?_) (fun c4=>?_))))))))))))
    ·refine ah (sR 2 Z (rN hQ results88 Z ?_));exact ⟨H9.ext,congrArg (Value.int .i64) ((l9 cM (k:=k) (k2:=k2) ω hkz ω hk2z ω)).symm⟩
    ·refine ar (aw (sV Z (aN Z Z iO) (sM Z Z (aa (⟨k2+1,⟨Z,Z,Z,Z,Z,Z,Z,trivial⟩,⟨((H9.ftake 4).dtake 2),ω,(ks hk2z).trans ω⟩,θ⟩)))))
   ·refine bd (aw (sV Z (aN Z Z iO) (sM Z Z (aa ?_))));obtain rfl:k2=(z.Tapes.getD k default).Recs.length:=by omega
    refine ⟨k+1,⟨Z,Z,Z,Z,trivial⟩,⟨((H6.ftake 3).dtake 1),ω,(kj hkz).trans hk2z⟩,θ⟩
  ·refine bd (ag (ag ?_));obtain rfl:k=z.Tapes.length:=by omega
   have hAll:=hkz;refine aw (sF aJ Z ev (sLd cw (H3.box 0 Z) Z (sE func164 qe Z (gA (H3.sees 2 Z) (p:=dI) func166 Z uB (fun w1 e1 i0 hi0 _ _ K0 o0_1=>kt K0 o0_1)) H3 (fun w10 e8 H10=>aa (cI Z (fun c5=>?_) (fun c5=>?_))))))
   ·refine ah (rA hQ results88 Z ?_);exact ⟨H10.ext,congrArg (Value.int .i64) (kR cM hAll c5).symm⟩
   ·refine ar (ah (rA hQ results88 Z ?_));exact ⟨H10.ext,congrArg (Value.int .i64) (nr cM hAll c5).symm⟩
end Go.Wk
namespace Go.Wk
open Go.Proofs Rp Go.Proofs.Tryz
set_option maxRecDepth 10000
set_option maxHeartbeats 1000000 in
theorem mr {w:World}{z:Wld}{zA9 zA10 zA11:Option Addr}{zC9 zC10 zC11:Nat}(zK:z.Ok) (zS9:Sees w [.slice zA9 z.Groups.length zC9] z.Groups) (zS10:Sees w [.slice zA10 z.On.length zC10] z.On) (zS11:Sees w [.slice zA11 z.Tapes.length zC11] z.Tapes) (hs:z.Shape.ok=true):Ret Tryz.prog 184 #[z.val zA9 zC9 zA10 zC10 zA11 zC11] w fun v w'=>Ext No w w'∧(v = .bool (bG z)):=by
 have zK2:=zK;unfold Wld.Ok Shape.Ok at zK2
 try unfold I64ok at zK2
 try unfold maxLen at zK2
 have zL9:=sL zS9;obtain ⟨zF9,zO9⟩:=zS9;have zL10:=sL zS10;obtain ⟨zF10,zO10⟩:=zS10;have zL11:=sL zS11;obtain ⟨zF11,zO11⟩:=zS11;have sbd:=aZ hs;refine aV func184 Z ntmps184 Z (fun Q hQ hN=>?_);have H0:=Sep.start (an zO9 (an zO10 (an zO11 aP)));refine ah (bE ae Z Z H0 (fun b1 w1 e1 g1 H1=>sA Z Z (aa (ah (sF aJ Z ba (sV Z (aj aX Z ba Z Z (At.sub (H1.box 0 Z) 9)) (bQ ae Z zeroValue30 H1 (fun b2 w2 e2 g2 H2=>aO ae ba Z Z Z Z H2 1 Z Z (fun w3 e3 H3=>?_)))))))));dsimp only[lNA,lCA,lSZ,lSS,aC] at H3;refine aa (ag (ag (bv (S:=Ext No _) (oQ [1,3,5,7,8,10]) κ κ κ Z (fun _=>Ext.refl.drawn _) (fun q1=>?_))));have H4:=H3.drawn q1;refine dV Z Z (fun zw hx=>ab aJ Z df Z Z) (dV Z Z (fun zw hx=>ac bT Z Z (ak (hx.heap (H4.box 0 Z)) Z)) (dV Z Z (fun zw hx=>aU bT Z) (dV Z Z (fun zw hx=>aj aX Z ba Z Z (At.whole (hx.heap (H4.box 1 Z)))) (dC func116 cN Z (bM η) (fun v1 w4 r1=>?_)))));obtain ⟨e4,rfl⟩:=r1;have H5:=H4.to e4;refine bh Z ae Z Z (cx Z Z) (aS (aA Z (fun c1=>?_) (fun c1=>?_)))
 ·refine ah (rA hQ results184 Z ?_);exact ⟨H5.ext,congrArg Value.bool (mR ω).symm⟩
 ·refine ar (ag (ah (sA Z Z (aa (ay (dd (γ:=Nat) H5 [(1,_),(3,_)] ⟨Z,Z,trivial⟩ (fun k=>[(4,.int .i64 k)]) (fun k=>k≤z.Groups.length∧(∀ i,i<k→et z.Shape (z.Groups.getD i [])=true)) (fun k=>z.Groups.length-k) 0 ⟨Z,trivial⟩ ⟨ω,fun i hi=>by omega⟩ (fun k w5 H6 ⟨hk,he⟩=>?_)))))));dsimp only[lCA,lNA];refine ag (ah (sM Z Z (sF aJ Z df (sLd bT (H6.box 0 Z) Z (sV Z (aU bT Z) (sV Z (bq Z Z) (aa (aA Z (fun c2=>?_) (fun c2=>?_)))))))))
  ·refine ar (ag (ay (ag (ag ?_))));obtain ⟨eb1,eo1,ea1,ek1,ef1,ee1,ec1,eO1,eH1⟩:=dp (H6.seen 0 Z) k ω;have eP1:=H6.look1 0 Z eO1 eH1;refine bv (S:=Ext No _) (oQ [1,3,5,7,9,11,13,14,16]) κ κ κ Z (fun _=>Ext.refl.drawn _) (fun q2=>?_);have H7:=eP1.drawn q2;refine dV Z Z (fun zw hx=>ab aJ Z df Z Z) (dV Z Z (fun zw hx=>ac bT Z Z (ak (hx.heap (H7.box 0 Z)) Z)) (dM Z Z Z (dV Z Z (fun zw hx=>aF bT fB Z Z ee1 k ω ω) (dV Z Z (fun zw hx=>ac cm Z Z (hx.cell ec1)) (dV Z Z (fun zw hx=>aU cm Z) (dV Z Z (fun zw hx=>aj aX Z ba Z Z (At.whole (hx.heap (H7.box 1 Z)))) (dC func216 kr Z (eO η) (fun v2 w6 r2=>?_))))))));obtain ⟨e5,rfl⟩:=r2;have H8:=H7.to e5;refine bh Z ae Z Z (cx Z Z) (aS (aA Z (fun c3=>?_) (fun c3=>?_)))
   ·refine ah (rA hQ results184 Z ?_);exact ⟨H8.ext,congrArg Value.bool (ge k ω (nW ω)).symm⟩
   ·refine ar (ah (sA Z Z (aa (ay (dd (γ:=Nat) H8 [(1,_),(3,_),(4,_)] ⟨Z,Z,Z,trivial⟩ (fun k2=>[(5,.int .i64 k2)]) (fun k2=>k2≤(z.Groups.getD k []).length∧(∀ i,i<k2→dh z.Shape ((z.Groups.getD k []).getD i default)=true)) (fun k2=>(z.Groups.getD k []).length-k2) 0 ⟨Z,trivial⟩ ⟨ω,fun i hi=>by omega⟩ (fun k2 w7 H9 ⟨hk2,hek2⟩=>?_))))));dsimp only[lCA,lNA];refine ag (ag ?_);obtain ⟨eb2,eo2,ea2,ek2,ef2,ee2,ec2,eO2,eH2⟩:=dp (H9.seen 0 Z) k ω;have eP2:=H9.look1 0 Z eO2 eH2;refine aw (sM Z Z (sF aJ Z df (sLd bT (eP2.box 0 Z) Z (sM Z Z (sV Z (aF bT fB Z Z ee2 k ω ω) (sV Z (ac cm Z Z ec2) (sV Z (aU cm Z) (sV Z (bq Z Z) (aa (aA Z (fun c4=>?_) (fun c4=>?_)))))))))))
    ·refine ar (ag (ay (ag ?_)));obtain ⟨eb3,eo3,ea3,ek3,ef3,ee3,ec3,eO3,eH3⟩:=dp (eP2.seen 0 Z) k ω;have eP3:=eP2.look1 0 Z eO3 eH3;obtain ⟨eb4,eo4,es1,ef4,ee4,ec4,eO4,eH4,em1⟩:=bV (eP3.seen 5 Z) k2 ω;obtain ⟨ea4,ek4,eg1,rfl,eq1,eK1,eo5⟩:=eI eO4;have eP4:=eP3.look1 5 Z eo5 (fun b hb=>eH4 b (by rw [eq1]; simp [hb]));have eL1:=oL eo5;refine aw (sF aJ Z df (sLd bT (eP4.box 0 Z) Z (sM Z Z (sV Z (aF bT fB Z Z ee3 k ω ω) (sV Z (ac cm Z Z ec3) (sM Z Z (sV Z (aF cm dW Z Z ee4 k2 ω ω) (sF d8 Z gb (sV Z (ac dg Z Z (bw ec4 1 Z)) (sA Z Z (aa (ag (ah (sM Z Z (sV Z (aU dg Z) (sF aX Z ts2 (sLd tu2 (eP4.box 1 Z) Z (sV Z (cx Z Z) (aa (aA Z (fun c5=>?_) (fun c5=>?_)))))))))))))))))))))
     ·refine ah (rA hQ results184 Z ?_);exact ⟨eP4.ext,congrArg Value.bool (ge k ω (ka k2 ω (nM ω))).symm⟩
     ·refine ar (ah (sA Z Z (aa (ay (dd (γ:=Nat) eP4 [(1,_),(3,_),(4,_),(5,_),(6,_)] ⟨Z,Z,Z,Z,Z,trivial⟩ (fun k3=>[(7,.int .i64 k3)]) (fun k3=>k3≤((z.Groups.getD k []).getD k2 default).Blocks.length∧(∀ i,i<k3→dk (((z.Groups.getD k []).getD k2 default).Blocks.getD i default)=true)) (fun k3=>((z.Groups.getD k []).getD k2 default).Blocks.length-k3) 0 ⟨Z,trivial⟩ ⟨ω,fun i hi=>by omega⟩ (fun k3 w8 H10 ⟨hk3,hek3⟩=>?_))))));dsimp only[lCA,lNA];refine ag (ah (sR 2 Z (sV Z (aU dg Z) (sV Z (bq Z Z) (aa (aA Z (fun c6=>?_) (fun c6=>?_)))))))
      ·refine ar (ag (ay (ag ?_)));obtain ⟨eb5,eo6,es2,ef5,ee5,ec5,eO5,eH5,em2⟩:=bV (H10.seen 6 Z) k3 ω;obtain ⟨ea5,ek5,eg2,rfl,eq2,eK2,eo7⟩:=fM eO5;have eK2U:=eK2;unfold Block.Ok at eK2U
       try unfold I64ok at eK2U
       try unfold maxLen at eK2U
       have eP5:=H10.look1 6 Z eo7 (fun b hb=>eH5 b (by rw [eq2]; simp [hb]));have eL2:=oL eo7;refine aw (sR 2 Z (sV Z (aF dg dX Z Z ee5 k3 ω ω) (sF eX Z ts2 (sV Z (ac tu2 Z Z (bw ec5 0 Z)) (sE func121 bP Z bm eP5 (fun w9 e6 H11=>sV Z (bj Z) (sM Z Z (bO 7 (j:=7) (want:=false) (t:=76) Z Z Z Z (fun hg1 kk1=>ao (wgE Z Z Z hg1) Z Z (aM Z) (ao (wgE Z Z Z hg1) Z Z (aM Z) (ao (wgE Z Z Z hg1) Z Z (aF dg dX Z Z ee5 k3 (by first | omega | (simp only [Bool.or_eq_false_iff,Bool.and_eq_true,Bool.and_eq_false_iff,Bool.or_eq_true,Bool.not_eq_true',Bool.not_eq_false',decide_eq_true_eq,decide_eq_false_iff_not] at hg1; omega)) ω) (ao (wgE Z Z Z hg1) Z Z (ab eX Z bf Z Z) (ao (wgE Z Z Z hg1) Z Z (ac bc Z Z (bw (e6.at ec5) 1 Z)) (ao (wgE Z Z Z hg1) Z Z (aU bc Z) (ao (wgE Z Z Z hg1) Z Z (cx Z Z) (kk1 _ _ (kx Z (kx Z (kx Z (kx Z (kx Z (kx Z (kx Z k0))))))) Z Ext.refl)))))))) (fun w10 e7=>?_)))))))));have H12:=H11.to e7;refine sV Z (du Z Z) (aa (cI Z (fun c7=>?_) (fun c7=>?_)))
       ·refine ah (rA hQ results184 Z ?_);exact ⟨H12.ext,congrArg Value.bool (ge k ω (ka k2 ω (uW k3 ω (tk c7)))).symm⟩
       ·refine ar (aw (sM Z Z (sV Z (aN Z Z iO) (sA Z Z (aa (⟨k3+1,⟨Z,Z,Z,Z,Z,Z,trivial⟩,⟨(H12.ftake 7),ω,fun i hi=>?_⟩,θ⟩))))))
        by_cases e:i=k3
        ·subst e;exact sS η
        ·exact hek3 i ω
      ·refine bd (aw (sM Z Z (sV Z (aN Z Z iO) (sA Z Z (aa (⟨k2+1,⟨Z,Z,Z,Z,trivial⟩,⟨(H10.ftake 4),ω,fun i hi=>?_⟩,θ⟩))))))
       by_cases e:i=k2
       ·subst e;exact sP ω (fun i hi=>hek3 i ω)
       ·exact hek2 i ω
    ·refine bd (aw (sM Z Z (sV Z (aN Z Z iO) (sA Z Z (aa (⟨k+1,⟨Z,Z,Z,trivial⟩,⟨(eP2.ftake 3),ω,fun i hi=>?_⟩,θ⟩))))))
     by_cases e:i=k
     ·subst e;exact nT ω (fun i hi=>hek2 i ω)
     ·exact he i ω
  ·refine bd (ah (rA hQ results184 Z ?_));exact ⟨H6.ext,congrArg Value.bool (mY ω (fun i hi=>he i ω)).symm⟩
theorem ie {w:World}{z:Wld}{zA9 zA10 zA11:Option Addr}{zC9 zC10 zC11:Nat}(zK:z.Ok) (zS9:Sees w [.slice zA9 z.Groups.length zC9] z.Groups) (zS10:Sees w [.slice zA10 z.On.length zC10] z.On) (zS11:Sees w [.slice zA11 z.Tapes.length zC11] z.Tapes):Ret Tryz.prog 29 #[z.val zA9 zC9 zA10 zC10 zA11 zC11] w fun v w'=>Ext No w w'∧(v = .int .i64 (di z)):=by
 have zK2:=zK;unfold Wld.Ok Shape.Ok at zK2
 try unfold I64ok at zK2
 try unfold maxLen at zK2
 have zL9:=sL zS9;obtain ⟨zF9,zO9⟩:=zS9;have zL10:=sL zS10;obtain ⟨zF10,zO10⟩:=zS10;have zL11:=sL zS11;obtain ⟨zF11,zO11⟩:=zS11;refine aV func29 Z ntmps29 Z (fun Q hQ hN=>?_);have H0:=Sep.start (an zO9 (an zO10 (an zO11 aP)));refine ah (bE ae Z Z H0 (fun b1 w1 e1 g1 H1=>sA Z Z (aa (ag (ah (sF aJ Z ba (sV Z (aj aX Z ba Z Z (At.sub (H1.box 0 Z) 9)) (sE func85 ww Z kT H1 (fun w2 e2 H2=>sA Z Z (aa (ah (sR 2 Z (aa (aA Z (fun c1=>?_) (fun c1=>?_)))))))))))))))
 ·refine ah (sR 2 Z (rN hQ results29 Z ?_));exact ⟨H2.ext,congrArg (Value.int .i64) (if_pos ω).symm⟩
 ·refine ar (ag (ag ?_));have hs:=fa (s:=z.Shape) ω;refine aw (sV Z (aj aJ Z bu Z Z (At.whole (H2.box 0 Z))) (sE func86 vE Z (l7 η (H2.sees 0 Z) (H2.sees 1 Z) (H2.sees 2 Z) η) H2 (fun w3 e3 H3=>sV Z (bj Z) (sM Z Z (bZ (t:=14) Z (fun hg1=>?_) (fun hg1=>?_))))))
  ·try simp only [decide_eq_true_eq,decide_eq_false_iff_not] at hg1
   refine sR 3 Z (sV Z (aG Z Z) (sR 5 Z (sV Z (aG Z Z) (aa (dz Z (ah (rA hQ results29 Z ?_)))))));exact ⟨H3.ext,congrArg (Value.int .i64) ((if_neg ω).trans (if_neg (by simp_all<;>omega))).symm⟩
  ·try simp only [decide_eq_true_eq,decide_eq_false_iff_not] at hg1
   refine ao (wg Z Z Z) Z Z (aj aJ Z bu Z Z (At.whole (H3.box 0 Z))) (cW (wg Z Z Z) Z Z (aD func87 Z we Z) (pW η (H3.sees 0 Z) (H3.sees 1 Z) (H3.sees 2 Z) η) (fun v3 w4 r3=>?_));obtain ⟨e4,rfl⟩:=r3;have H4:=H3.to e4;refine ao (wg Z Z Z) Z Z (bj Z) (sV Z (aE Z Z) (sM Z Z (bZ (t:=19) Z (fun hg2=>?_) (fun hg2=>?_))))
   ·try simp only [decide_eq_true_eq,decide_eq_false_iff_not] at hg2
    refine sR 4 Z (sV Z (aG Z Z) (aa (dz Z (ah (rA hQ results29 Z ?_)))));exact ⟨H4.ext,congrArg (Value.int .i64) ((if_neg ω).trans (if_neg (by simp_all<;>omega))).symm⟩
   ·try simp only [decide_eq_true_eq,decide_eq_false_iff_not] at hg2
    refine ao (wg Z Z Z) Z Z (ab aJ Z ev Z Z) (ao (wg Z Z Z) Z Z (ac cw Z Z (ak (H4.box 0 Z) Z)) (ao (wg Z Z Z) Z Z (aU cw Z) (ao (wg Z Z Z) Z Z (cx Z Z) (sV Z (aE Z Z) (aa (aA Z (fun c2=>?_) (fun c2=>?_)))))))
    ·refine ah (rA hQ results29 Z ?_);exact ⟨H4.ext,congrArg (Value.int .i64) ((if_neg ω).trans (if_neg (by simp_all<;>omega))).symm⟩
    ·refine ar (ag (ah (sV Z (aj aJ Z bu Z Z (At.whole (H4.box 0 Z))) (sE func88 vJ Z (kH η (H4.sees 0 Z) (H4.sees 1 Z) (H4.sees 2 Z) η) H4 (fun w5 e5 H5=>sA Z Z (aa (ah (sR 2 Z (aa (aA Z (fun c3=>?_) (fun c3=>?_)))))))))))
     ·refine ah (sR 2 Z (rN hQ results29 Z ?_));exact ⟨H5.ext,congrArg (Value.int .i64) ((if_neg ω).trans ((if_pos (by simp_all<;>omega)).trans (if_pos ω))).symm⟩
     ·refine ar (ag (ah (sF aJ Z ts2 (sLd tu2 (H5.box 0 Z) Z (sE func77 cH Z br H5 (fun w6 e6 H6=>sV Z (bj Z) (sM Z Z (bZ (t:=34) Z (fun hg3=>?_) (fun hg3=>?_)))))))))
      ·try simp only [decide_eq_true_eq,decide_eq_false_iff_not] at hg3
       refine sR 4 Z (sV Z (aG Z Z) (aa (dz Z (ah (rA hQ results29 Z ?_)))));exact ⟨H6.ext,congrArg (Value.int .i64) ((if_neg ω).trans ((if_pos (by simp_all<;>omega)).trans ((if_neg ω).trans (if_neg (by simp_all<;>omega))))).symm⟩
      ·try simp only [decide_eq_true_eq,decide_eq_false_iff_not] at hg3
       refine ao (wg Z Z Z) Z Z (ab aJ Z ts2 Z Z) (ao (wg Z Z Z) Z Z (ac tu2 Z Z (ak (H6.box 0 Z) Z)) (cW (wg Z Z Z) Z Z (aD func77 Z cH Z) br (fun v6 w7 r6=>?_)));obtain ⟨e7,rfl⟩:=r6;have H7:=H6.to e7;refine ao (wg Z Z Z) Z Z (bj Z) (sV Z (aE Z Z) (aa (cI Z (fun c4=>?_) (fun c4=>?_))))
       ·refine ah (rA hQ results29 Z ?_);exact ⟨H7.ext,congrArg (Value.int .i64) ((if_neg ω).trans ((if_pos (by simp_all<;>omega)).trans ((if_neg ω).trans (if_neg (by simp_all<;>omega))))).symm⟩
       ·refine ar (ah (rA hQ results29 Z ?_));exact ⟨H7.ext,congrArg (Value.int .i64) ((if_neg ω).trans ((if_pos (by simp_all<;>omega)).trans ((if_neg ω).trans (if_pos (by simp_all<;>omega))))).symm⟩
theorem jp {w:World}{z:Wld}{zA9 zA10 zA11:Option Addr}{zC9 zC10 zC11:Nat}(zK:z.Ok) (zS9:Sees w [.slice zA9 z.Groups.length zC9] z.Groups) (zS10:Sees w [.slice zA10 z.On.length zC10] z.On) (zS11:Sees w [.slice zA11 z.Tapes.length zC11] z.Tapes):Ret Tryz.prog 48 #[z.val zA9 zC9 zA10 zC10 zA11 zC11] w fun v w'=>Ext No w w'∧(v = .int .i64 (upF z)):=by
 have zK2:=zK;unfold Wld.Ok Shape.Ok at zK2
 try unfold I64ok at zK2
 try unfold maxLen at zK2
 have zL9:=sL zS9;obtain ⟨zF9,zO9⟩:=zS9;have zL10:=sL zS10;obtain ⟨zF10,zO10⟩:=zS10;have zL11:=sL zS11;obtain ⟨zF11,zO11⟩:=zS11;refine aV func48 Z ntmps48 Z (fun Q hQ hN=>?_);have H0:=Sep.start (an zO9 (an zO10 (an zO11 aP)));refine ah (bE ae Z Z H0 (fun b1 w1 e1 g1 H1=>sA Z Z (aa (ag (ah (sV Z (aj aJ Z bu Z Z (At.whole (H1.box 0 Z))) (sE func29 qS Z (ie η (H1.sees 0 Z) (H1.sees 1 Z) (H1.sees 2 Z)) H1 (fun w2 e2 H2=>sA Z Z (aa (ah (sR 2 Z (aa (aA Z (fun c1=>?_) (fun c1=>?_))))))))))))))
 ·refine ah (sR 2 Z (rN hQ results48 Z ?_));exact ⟨H2.ext,congrArg (Value.int .i64) (if_pos ω).symm⟩
 ·refine ar (ag (ah (sF aJ Z ts4 (sLd tu4 (H2.box 0 Z) Z (aa (cI Z (fun c2=>?_) (fun c2=>?_)))))))
  ·refine ah (rA hQ results48 Z ?_);exact ⟨H2.ext,congrArg (Value.int .i64) ((if_neg ω).trans (if_pos η)).symm⟩
  ·refine ar (ah (rA hQ results48 Z ?_));exact ⟨H2.ext,congrArg (Value.int .i64) ((if_neg ω).trans (if_neg (by simp_all<;>omega))).symm⟩
set_option maxHeartbeats 1000000 in
theorem fC {w:World}{z:Wld}{zA9 zA10 zA11:Option Addr}{zC9 zC10 zC11:Nat}(zK:z.Ok) (zS9:Sees w [.slice zA9 z.Groups.length zC9] z.Groups) (zS10:Sees w [.slice zA10 z.On.length zC10] z.On) (zS11:Sees w [.slice zA11 z.Tapes.length zC11] z.Tapes):Ret Tryz.prog 97 #[z.val zA9 zC9 zA10 zC10 zA11 zC11] w fun v w'=>Ext No w w'∧(v = .int .i64 (di z)):=by
 have zK2:=zK;unfold Wld.Ok Shape.Ok at zK2
 try unfold I64ok at zK2
 try unfold maxLen at zK2
 have zL9:=sL zS9;obtain ⟨zF9,zO9⟩:=zS9;have zL10:=sL zS10;obtain ⟨zF10,zO10⟩:=zS10;have zL11:=sL zS11;obtain ⟨zF11,zO11⟩:=zS11;refine aV func97 Z ntmps97 Z (fun Q hQ hN=>?_);have H0:=Sep.start (an zO9 (an zO10 (an zO11 aP)));refine ah (bE ae Z Z H0 (fun b1 w1 e1 g1 H1=>sA Z Z (aa (ag (ah (sF aJ Z ba (sV Z (aj aX Z ba Z Z (At.sub (H1.box 0 Z) 9)) (sE func63 lB Z ez H1 (fun w2 e2 H2=>sA Z Z (aa (ah (sR 2 Z (aa (aA Z (fun c1=>?_) (fun c1=>?_)))))))))))))))
 ·refine ah (sR 2 Z (rN hQ results97 Z ?_));exact ⟨H2.ext,congrArg (Value.int .i64) (if_pos ω).symm⟩
 ·refine ar (ag (ag ?_));have hs:=fa (s:=z.Shape) ω;have sbd:=aZ hs;refine bv (S:=Ext No _) (oQ [1,2,5,7,9,11,13,15,16,19,20,23,25,27,29,31,33,35,37,39,41,43,45,47,49,51,53,55,57,59,61,63,65,67,69,71,73,74]) κ κ κ Z (fun _=>Ext.refl.drawn _) (fun q1=>?_);have H3:=H2.drawn q1;refine dV Z Z (fun zw hx=>aj aJ Z bu Z Z (At.whole (hx.heap (H3.box 0 Z)))) (dC func184 uR Z (mr η (H3.sees 0 Z) (H3.sees 1 Z) (H3.sees 2 Z) η) (fun v2 w3 r2=>?_));obtain ⟨e3,rfl⟩:=r2;have H4:=H3.to e3;refine dV Z Z (fun zw hx=>bj Z) (dM Z Z Z (cK (t:=17) Z (fun hg1=>?_) (fun hg1=>?_)))
  ·try simp only [decide_eq_true_eq,decide_eq_false_iff_not] at hg1
   refine dR 8 Z (dV Z Z (fun zw hx=>aG Z Z) (dR 8 Z (dV Z Z (fun zw hx=>aG Z Z) (dR 4 Z (cy Z (wou Z Z Z) Z Z (cy Z (wou Z Z Z) Z Z (cy Z (wou Z Z Z) Z Z (cy Z (wou Z Z Z) Z Z (dKt Z Z Z Z (dV Z Z (fun zw hx=>aG Z Z) (dR 5 Z (bh Z ae Z Z (aG Z Z) (aS (dz Z (ah (rA hQ results97 Z ?_))))))))))))))));exact ⟨H4.ext,congrArg (Value.int .i64) ((if_neg ω).trans (if_neg (by rw [← jh]; first | (simp_all<;>omega) | (cases hh:z.On<;>simp_all<;>omega)))).symm⟩
  ·try simp only [decide_eq_true_eq,decide_eq_false_iff_not] at hg1
   refine aL Z (wg Z Z Z) Z Z (fun zw hx=>ab aJ Z bH Z Z) (aL Z (wg Z Z Z) Z Z (fun zw hx=>ac bn Z Z (ak (hx.heap (H3.box 0 Z)) Z)) (aL Z (wg Z Z Z) Z Z (fun zw hx=>ab aJ Z ba Z Z) (aL Z (wg Z Z Z) Z Z (fun zw hx=>aj aX Z ba Z Z (At.sub (hx.heap (H3.box 0 Z)) 9)) (bi Z (wg Z Z Z) Z Z (aD func116 Z cN Z) (bM η) (fun hS _ _ r _=>hS.trans r.1.no) (fun v3 w4 r3=>?_)))));obtain ⟨e4,rfl⟩:=r3;have H5:=H4.to e4;refine aL Z (wg Z Z Z) Z Z (fun zw hx=>cQ Z Z iO) (bi Z (wg Z Z Z) Z Z (aD func185 Z pI Z) (ji (H5.sees 1 Z)) (fun hS _ _ r _=>hS.trans r.1.no) (fun v4 w5 r4=>?_));obtain ⟨e5,rfl⟩:=r4;have H6:=H5.to e5;refine aL Z (wg Z Z Z) Z Z (fun zw hx=>bj Z) (dV Z Z (fun zw hx=>aE Z Z) (dM Z Z Z (cK (t:=27) Z (fun hg2=>?_) (fun hg2=>?_))))
   ·try simp only [decide_eq_true_eq,decide_eq_false_iff_not] at hg2
    refine dR 7 Z (dV Z Z (fun zw hx=>aG Z Z) (dR 4 Z (cy Z (wou Z Z Z) Z Z (cy Z (wou Z Z Z) Z Z (cy Z (wou Z Z Z) Z Z (cy Z (wou Z Z Z) Z Z (dKt Z Z Z Z (dV Z Z (fun zw hx=>aG Z Z) (dR 5 Z (bh Z ae Z Z (aG Z Z) (aS (dz Z (ah (rA hQ results97 Z ?_))))))))))))));exact ⟨H6.ext,congrArg (Value.int .i64) ((if_neg ω).trans (if_neg (by rw [← jh]; first | (simp_all<;>omega) | (cases hh:z.On<;>simp_all<;>omega)))).symm⟩
   ·try simp only [decide_eq_true_eq,decide_eq_false_iff_not] at hg2
    refine aL Z (wg Z Z Z) Z Z (fun zw hx=>ab aJ Z bH Z Z) (aL Z (wg Z Z Z) Z Z (fun zw hx=>ac bn Z Z (ak (hx.heap (H3.box 0 Z)) Z)) (aL Z (wg Z Z Z) Z Z (fun zw hx=>aU bn Z) (aL Z (wg Z Z Z) Z Z (fun zw hx=>ab aJ Z ba Z Z) (aL Z (wg Z Z Z) Z Z (fun zw hx=>ab aX Z ts2 Z Z) (aL Z (wg Z Z Z) Z Z (fun zw hx=>ac tu2 Z Z (ak (hx.heap (H3.box 0 Z)) Z)) (aL Z (wg Z Z Z) Z Z (fun zw hx=>eB Z Z) (dV Z Z (fun zw hx=>aE Z Z) (dM Z Z Z (cK (t:=36) Z (fun hg3=>?_) (fun hg3=>?_))))))))))
    ·try simp only [decide_eq_true_eq,decide_eq_false_iff_not] at hg3
     refine dR 3 Z (cy Z (wou Z Z Z) Z Z (cy Z (wou Z Z Z) Z Z (cy Z (wou Z Z Z) Z Z (cy Z (wou Z Z Z) Z Z (dKt Z Z Z Z (dV Z Z (fun zw hx=>aG Z Z) (dR 5 Z (bh Z ae Z Z (aG Z Z) (aS (dz Z (ah (rA hQ results97 Z ?_))))))))))));exact ⟨H6.ext,congrArg (Value.int .i64) ((if_neg ω).trans (if_neg (by rw [← jh]; first | (simp_all<;>omega) | (cases hh:z.On<;>simp_all<;>omega)))).symm⟩
    ·try simp only [decide_eq_true_eq,decide_eq_false_iff_not] at hg3
     refine aL Z (wg Z Z Z) Z Z (fun zw hx=>ab aJ Z ts4 Z Z) (aL Z (wg Z Z Z) Z Z (fun zw hx=>ac tu4 Z Z (ak (hx.heap (H3.box 0 Z)) Z)) (aL Z (wg Z Z Z) Z Z (fun zw hx=>aM Z) (cK (t:=39) Z (fun hg4=>?_) (fun hg4=>?_))))
     ·try simp only [decide_eq_true_eq,decide_eq_false_iff_not] at hg4
      refine aL Z (wg Z Z Z) Z Z (fun zw hx=>ab aJ Z bH Z Z) (aL Z (wg Z Z Z) Z Z (fun zw hx=>ac bn Z Z (ak (hx.heap (H3.box 0 Z)) Z)) (aL Z (wg Z Z Z) Z Z (fun zw hx=>aU bn Z) (aL Z (wg Z Z Z) Z Z (fun zw hx=>eB Z Z) (aL Z (wg Z Z Z) Z Z (fun zw hx=>aG Z Z) (dV Z Z (fun zw hx=>aE Z Z) (dM Z Z Z (cK (t:=46) Z (fun hg5=>?_) (fun hg5=>?_))))))))
      ·try simp only [decide_eq_true_eq,decide_eq_false_iff_not] at hg5
       refine dR 4 Z (bh Z ae Z Z (aG Z Z) (aS (dz Z (ah (rA hQ results97 Z ?_)))));exact ⟨H6.ext,congrArg (Value.int .i64) ((if_neg ω).trans (if_neg (by rw [← jh]; first | (simp_all<;>omega) | (cases hh:z.On<;>simp_all<;>omega)))).symm⟩
      ·try simp only [decide_eq_true_eq,decide_eq_false_iff_not] at hg5
       refine aL Z (wg Z Z Z) Z Z (fun zw hx=>ab aJ Z ev Z Z) (aL Z (wg Z Z Z) Z Z (fun zw hx=>ac cw Z Z (ak (hx.heap (H3.box 0 Z)) Z)) (aL Z (wg Z Z Z) Z Z (fun zw hx=>aU cw Z) (aL Z (wg Z Z Z) Z Z (fun zw hx=>cx Z Z) (bh Z ae Z Z (aE Z Z) (aS (aA Z (fun c2=>?_) (fun c2=>?_)))))))
       ·refine ah (rA hQ results97 Z ?_);exact ⟨H6.ext,congrArg (Value.int .i64) ((if_neg ω).trans (if_neg (by rw [← jh]; first | (simp_all<;>omega) | (cases hh:z.On<;>simp_all<;>omega)))).symm⟩
       ·refine ar (ag (ag ?_));have hF:(bG z && kB z && decide (z.Tapes.length=2))=true:=by rw [← jh]; simp_all<;>omega
        have h2:z.Tapes.length=2:=by simp_all<;>omega
        obtain ⟨eb1,eo1,es1,ef1,ee1,ec1,eO1,eH1,em1⟩:=bV (H6.seen 2 Z) 0 ω;obtain ⟨ea1,ek1,eg1,rfl,eq1,eK1,eo2⟩:=eq eO1;have eP1:=H6.look1 2 Z eo2 (fun b hb=>eH1 b (by rw [eq1]; simp [hb]));have eL1:=oL eo2;refine aw (sF aJ Z ev (sLd cw (eP1.box 0 Z) Z (sV Z (aF cw dy Z Z ee1 0 ω ω) (sF dT Z gJ (sV Z (ac cY Z Z (bw ec1 1 Z)) (sV Z (aU cY Z) (sR 2 Z (bZ (t:=59) Z (fun hg6=>?_) (fun hg6=>?_)))))))))
        ·try simp only [decide_eq_true_eq,decide_eq_false_iff_not] at hg6
         refine sR 7 Z (sV Z (aG Z Z) (aa (dz Z (ag ?_))));have tq:=ii (z:=z) (oD h2 (by simp only [dB]; simp_all<;>omega));refine aw (rA hQ results97 Z ?_);exact ⟨eP1.ext,congrArg (Value.int .i64) ((if_neg ω).trans ((if_pos hF).trans ((if_pos ω).trans tq))).symm⟩
        ·try simp only [decide_eq_true_eq,decide_eq_false_iff_not] at hg6
         refine ao (wg Z Z Z) Z Z (ab aJ Z ev Z Z) (ao (wg Z Z Z) Z Z (ac cw Z Z (ak (eP1.box 0 Z) Z)) ?_);obtain ⟨eb2,eo3,es2,ef2,ee2,ec2,eO2,eH2,em2⟩:=bV (eP1.seen 2 Z) 1 ω;obtain ⟨ea2,ek2,eg2,rfl,eq2,eK2,eo4⟩:=eq eO2;have eP2:=eP1.look1 2 Z eo4 (fun b hb=>eH2 b (by rw [eq2]; simp [hb]));have eL2:=oL eo4;refine ao (wg Z Z Z) Z Z (aF cw dy Z Z ee2 1 ω ω) (ao (wg Z Z Z) Z Z (ab dT Z gJ Z Z) (ao (wg Z Z Z) Z Z (ac cY Z Z (bw ec2 1 Z)) (ao (wg Z Z Z) Z Z (aU cY Z) (ao (wg Z Z Z) Z Z (eB Z Z) (sV Z (aE Z Z) (aa (aA Z (fun c3=>?_) (fun c3=>?_))))))))
         ·refine ag ?_;have tq:=ii (z:=z) (oD h2 (by simp only [dB]; simp_all<;>omega));refine aw (rA hQ results97 Z ?_);exact ⟨eP2.ext,congrArg (Value.int .i64) ((if_neg ω).trans ((if_pos hF).trans ((if_pos ω).trans tq))).symm⟩
         ·refine ar (ag (ag ?_));have hM:z.Tapes.any dB=false:=oc h2 (by simp only [dB]; simp_all<;>omega) (by simp only [dB]; simp_all<;>omega);refine aw (sA Z Z (aa (ay (dd (γ:=Nat) eP2 [(1,_)] ⟨Z,trivial⟩ (fun k=>[(4,.int .i64 k)]) (fun k=>k≤z.Tapes.length∧fF z.Shape z.Tapes k=0) (fun k=>z.Tapes.length-k) 0 ⟨Z,trivial⟩ ⟨ω,Z⟩ (fun k w6 H7 ⟨hk,hkz⟩=>?_)))));dsimp only[lCA,lNA];refine ag (ah (sR 2 Z (aa (aA Z (fun c4=>?_) (fun c4=>?_)))))
          ·refine ar (ag (ay (ah (sA Z Z (aa (ay (dd (γ:=Nat) H7 [(1,_),(4,_)] ⟨Z,Z,trivial⟩ (fun k2=>[(5,.int .i64 k2)]) (fun k2=>k2≤(z.Tapes.getD k default).Recs.length∧fN z.Shape (z.Tapes.getD k default).Recs k2=0) (fun k2=>(z.Tapes.getD k default).Recs.length-k2) 0 ⟨Z,trivial⟩ ⟨ω,Z⟩ (fun k2 w7 H8 ⟨hk2,hk2z⟩=>?_))))))));dsimp only[lCA,lNA];refine ag (ag ?_);obtain ⟨eb3,eo5,es3,ef3,ee3,ec3,eO3,eH3,em3⟩:=bV (H8.seen 2 Z) k ω;obtain ⟨ea3,ek3,eg3,rfl,eq3,eK3,eo6⟩:=eq eO3;have eP3:=H8.look1 2 Z eo6 (fun b hb=>eH3 b (by rw [eq3]; simp [hb]));have eL3:=oL eo6;refine aw (sM Z Z (sF aJ Z ev (sLd cw (eP3.box 0 Z) Z (sM Z Z (sV Z (aF cw dy Z Z ee3 k ω ω) (sF dT Z gJ (sV Z (ac cY Z Z (bw ec3 1 Z)) (sV Z (aU cY Z) (sV Z (bq Z Z) (aa (aA Z (fun c5=>?_) (fun c5=>?_))))))))))))
           ·refine ar (ag (ay (ag ?_)));obtain ⟨eb4,eo7,es4,ef4,ee4,ec4,eO4,eH4,em4⟩:=bV (eP3.seen 2 Z) k ω;obtain ⟨ea4,ek4,eg4,rfl,eq4,eK4,eo8⟩:=eq eO4;have eP4:=eP3.look1 2 Z eo8 (fun b hb=>eH4 b (by rw [eq4]; simp [hb]));have eL4:=oL eo8;obtain ⟨eb5,eo9,es5,ef5,ee5,ec5,eO5,eH5,em5⟩:=bV (eP4.seen 6 Z) k2 ω;obtain ⟨ea5,ek5,ea6,ek6,ea7,ek7,eg5,eg6,eg7,rfl,eq5,eK5,eo10,eo11,eo12⟩:=bN eO5;have eK5U:=eK5;unfold Rec.Ok at eK5U
            try unfold I64ok at eK5U
            try unfold maxLen at eK5U
            have eP5:=eP4.look1 6 Z eo10 (fun b hb=>eH5 b (by rw [eq5]; simp [hb]));have eL5:=oL eo10;have eP6:=eP5.look1 6 Z eo11 (fun b hb=>eH5 b (by rw [eq5]; simp [hb]));have eL6:=oL eo11;have eP7:=eP6.look1 6 Z eo12 (fun b hb=>eH5 b (by rw [eq5]; simp [hb]));have eL7:=oL eo12;refine bv (S:=Ext No _) (oQ [1,3,5,7,9,11,13,15,17,19,21,22,24]) κ κ κ Z (fun _=>Ext.refl.drawn _) (fun q2=>?_);have H9:=eP7.drawn q2;refine dV Z Z (fun zw hx=>ab aJ Z ba Z Z) (dV Z Z (fun zw hx=>aj aX Z ba Z Z (At.sub (hx.heap (H9.box 0 Z)) 9)) (dV Z Z (fun zw hx=>ab aJ Z ev Z Z) (dV Z Z (fun zw hx=>ac cw Z Z (ak (hx.heap (H9.box 0 Z)) Z)) (dM Z Z Z (dV Z Z (fun zw hx=>aF cw dy Z Z ee4 k ω ω) (dV Z Z (fun zw hx=>ab dT Z gJ Z Z) (dV Z Z (fun zw hx=>ac cY Z Z (bw (hx.at ec4) 1 Z)) (dM Z Z Z (dV Z Z (fun zw hx=>aF cY aW Z Z ee5 k2 ω ω) (dV Z Z (fun zw hx=>aj az Z aW Z Z (hx.at ec5)) (dC func74 jI Z (ei η (H9.sees 7 Z) (H9.sees 8 Z) (H9.sees 9 Z)) (fun v5 w8 r5=>?_))))))))))));obtain ⟨e6,rfl⟩:=r5;have H10:=H9.to e6;refine bh Z ae Z Z (aY Z) (aS (ah (sR 2 Z (aa (aA Z (fun c6=>?_) (fun c6=>?_))))))
            ·refine ah (sR 2 Z (rN hQ results97 Z ?_));have tq:=l9 hM (k:=k) (k2:=k2) ω hkz ω hk2z ω;exact ⟨H10.ext,congrArg (Value.int .i64) ((if_neg ω).trans (((if_neg ω).trans ((if_pos hF).trans ((if_pos ω).trans tq)))).symm)⟩
            ·refine ar (aw (sM Z Z (sV Z (aN Z Z iO) (sA Z Z (aa (⟨k2+1,⟨Z,Z,Z,trivial⟩,⟨(H10.ftake 5),ω,(ks hk2z).trans ω⟩,θ⟩))))))
           ·refine bd (aw (sM Z Z (sV Z (aN Z Z iO) (sA Z Z (aa ?_)))));obtain rfl:k2=(z.Tapes.getD k default).Recs.length:=by omega
            refine ⟨k+1,⟨Z,Z,trivial⟩,⟨(eP3.ftake 5),ω,(kj hkz).trans hk2z⟩,θ⟩
          ·refine bd (ag (ag ?_));obtain rfl:k=z.Tapes.length:=by omega
           have hAll:=hkz;refine aw (sA Z Z (aa (ay (dd (γ:=Nat) H7 [(1,_)] ⟨Z,trivial⟩ (fun k=>[(7,.int .i64 k)]) (fun k=>k≤2∧(∀ i,i<k→dI (z.Tapes.getD i default)=false)) (fun k=>2-k) 0 ⟨Z,trivial⟩ ⟨ω,fun i hi=>by omega⟩ (fun k w9 H11 ⟨hk,hek⟩=>?_)))));dsimp only[lCA,lNA];refine ag (ah (sR 2 Z (aa (aA Z (fun c7=>?_) (fun c7=>?_)))))
           ·refine ar (ag (ay (ag ?_)));obtain ⟨eb6,eo13,es6,ef6,ee6,ec6,eO6,eH6,em6⟩:=bV (H11.seen 2 Z) k ω;obtain ⟨ea8,ek8,eg8,rfl,eq6,eK6,eo14⟩:=eq eO6;have eP8:=H11.look1 2 Z eo14 (fun b hb=>eH6 b (by rw [eq6]; simp [hb]));have eL8:=oL eo14;refine aw (sF aJ Z ev (sLd cw (eP8.box 0 Z) Z (sM Z Z (sV Z (aF cw dy Z Z ee6 k ω ω) (sF dT Z ts4 (sV Z (ac tu4 Z Z (bw ec6 0 Z)) (sM Z Z (bZ (t:=108) Z (fun hg7=>?_) (fun hg7=>?_)))))))))
            ·try simp only [decide_eq_true_eq,decide_eq_false_iff_not] at hg7
             refine ao (wg Z Z Z) Z Z (ab aJ Z ev Z Z) (ao (wg Z Z Z) Z Z (ac cw Z Z (ak (eP8.box 0 Z) Z)) (ao (wg Z Z Z) Z Z (aM Z) (ao (wg Z Z Z) Z Z (aF cw dy Z Z ee6 k ω ω) (ao (wg Z Z Z) Z Z (ab dT Z gJ Z Z) (ao (wg Z Z Z) Z Z (ac cY Z Z (bw ec6 1 Z)) (ao (wg Z Z Z) Z Z (aU cY Z) (ao (wg Z Z Z) Z Z (eB Z Z) (sV Z (aG Z Z) (aa (aA Z (fun c8=>?_) (fun c8=>?_)))))))))))
             ·refine ah (rA hQ results97 Z ?_);have tq:=kR hM hAll (ry k ω (by rw [dI]; simp_all<;>omega));exact ⟨eP8.ext,congrArg (Value.int .i64) ((if_neg ω).trans ((if_pos hF).trans ((if_pos ω).trans tq))).symm⟩
             ·refine ar (aw (sM Z Z (sV Z (aN Z Z iO) (sA Z Z (aa (⟨k+1,⟨Z,Z,trivial⟩,⟨(eP8.ftake 5),ω,fun i hi=>?_⟩,θ⟩))))))
              by_cases e:i=k
              ·subst e; rw [dI]; simp_all<;>omega
              ·exact hek i ω
            ·try simp only [decide_eq_true_eq,decide_eq_false_iff_not] at hg7
             refine sR 8 Z (sV Z (aE Z Z) (aa (dE Z (ar (aw (sM Z Z (sV Z (aN Z Z iO) (sA Z Z (aa (⟨k+1,⟨Z,Z,trivial⟩,⟨(eP8.ftake 5),ω,fun i hi=>?_⟩,θ⟩))))))))))
             by_cases e:i=k
             ·subst e; rw [dI]; simp_all<;>omega
             ·exact hek i ω
           ·refine bd (ag (ag ?_));have tq:=nr hM hAll (oZ (fun i hi=>hek i ω));refine aw (sF aJ Z ts2 (sLd tu2 (H11.box 0 Z) Z (sE func121 bP Z bm H11 (fun w10 e7 H12=>sV Z (bj Z) (sM Z Z (bZ (t:=122) Z (fun hg8=>?_) (fun hg8=>?_)))))))
            ·try simp only [decide_eq_true_eq,decide_eq_false_iff_not] at hg8
             refine sR 4 Z (sV Z (aG Z Z) (aa (dz Z (ah (rA hQ results97 Z ?_)))));exact ⟨H12.ext,congrArg (Value.int .i64) ((if_neg ω).trans ((if_pos hF).trans ((if_neg ω).trans (if_neg (by simp_all<;>omega))))).symm⟩
            ·try simp only [decide_eq_true_eq,decide_eq_false_iff_not] at hg8
             refine ao (wg Z Z Z) Z Z (ab aJ Z ts2 Z Z) (ao (wg Z Z Z) Z Z (ac tu2 Z Z (ak (H12.box 0 Z) Z)) (cW (wg Z Z Z) Z Z (aD func121 Z bP Z) bm (fun v7 w11 r7=>?_)));obtain ⟨e8,rfl⟩:=r7;have H13:=H12.to e8;refine ao (wg Z Z Z) Z Z (bj Z) (sV Z (aE Z Z) (aa (cI Z (fun c9=>?_) (fun c9=>?_))))
             ·refine ah (rA hQ results97 Z ?_);exact ⟨H13.ext,congrArg (Value.int .i64) ((if_neg ω).trans ((if_pos hF).trans ((if_neg ω).trans (if_neg (by simp_all<;>omega))))).symm⟩
             ·refine ar (ah (rA hQ results97 Z ?_));exact ⟨H13.ext,congrArg (Value.int .i64) ((if_neg ω).trans ((if_pos hF).trans ((if_neg ω).trans (if_pos (by simp_all<;>omega))))).symm⟩
     ·try simp only [decide_eq_true_eq,decide_eq_false_iff_not] at hg4
      refine dR 4 Z (aL Z (wg Z Z Z) Z Z (fun zw hx=>aE Z Z) (dV Z Z (fun zw hx=>aE Z Z) (dM Z Z Z (aL Z (wg Z Z Z) Z Z (fun zw hx=>ab aJ Z ev Z Z) (aL Z (wg Z Z Z) Z Z (fun zw hx=>ac cw Z Z (ak (hx.heap (H3.box 0 Z)) Z)) (aL Z (wg Z Z Z) Z Z (fun zw hx=>aU cw Z) (aL Z (wg Z Z Z) Z Z (fun zw hx=>cx Z Z) (bh Z ae Z Z (aE Z Z) (aS (aA Z (fun c10=>?_) (fun c10=>?_)))))))))))
      ·refine ah (rA hQ results97 Z ?_);exact ⟨H6.ext,congrArg (Value.int .i64) ((if_neg ω).trans (if_neg (by rw [← jh]; first | (simp_all<;>omega) | (cases hh:z.On<;>simp_all<;>omega)))).symm⟩
      ·refine ar (ag (ag ?_));have hF:(bG z && kB z && decide (z.Tapes.length=2))=true:=by rw [← jh]; simp_all<;>omega
       have h2:z.Tapes.length=2:=by simp_all<;>omega
       obtain ⟨eb7,eo15,es7,ef7,ee7,ec7,eO7,eH7,em7⟩:=bV (H6.seen 2 Z) 0 ω;obtain ⟨ea9,ek9,eg9,rfl,eq7,eK7,eo16⟩:=eq eO7;have eP9:=H6.look1 2 Z eo16 (fun b hb=>eH7 b (by rw [eq7]; simp [hb]));have eL9:=oL eo16;refine aw (sF aJ Z ev (sLd cw (eP9.box 0 Z) Z (sV Z (aF cw dy Z Z ee7 0 ω ω) (sF dT Z gJ (sV Z (ac cY Z Z (bw ec7 1 Z)) (sV Z (aU cY Z) (sR 2 Z (bZ (t:=59) Z (fun hg9=>?_) (fun hg9=>?_)))))))))
       ·try simp only [decide_eq_true_eq,decide_eq_false_iff_not] at hg9
        refine sR 7 Z (sV Z (aG Z Z) (aa (dz Z (ag ?_))));have tq:=ii (z:=z) (oD h2 (by simp only [dB]; simp_all<;>omega));refine aw (rA hQ results97 Z ?_);exact ⟨eP9.ext,congrArg (Value.int .i64) ((if_neg ω).trans ((if_pos hF).trans ((if_pos ω).trans tq))).symm⟩
       ·try simp only [decide_eq_true_eq,decide_eq_false_iff_not] at hg9
        refine ao (wg Z Z Z) Z Z (ab aJ Z ev Z Z) (ao (wg Z Z Z) Z Z (ac cw Z Z (ak (eP9.box 0 Z) Z)) ?_);obtain ⟨eb8,eo17,es8,ef8,ee8,ec8,eO8,eH8,em8⟩:=bV (eP9.seen 2 Z) 1 ω;obtain ⟨ea10,ek10,eg10,rfl,eq8,eK8,eo18⟩:=eq eO8;have eP10:=eP9.look1 2 Z eo18 (fun b hb=>eH8 b (by rw [eq8]; simp [hb]));have eL10:=oL eo18;refine ao (wg Z Z Z) Z Z (aF cw dy Z Z ee8 1 ω ω) (ao (wg Z Z Z) Z Z (ab dT Z gJ Z Z) (ao (wg Z Z Z) Z Z (ac cY Z Z (bw ec8 1 Z)) (ao (wg Z Z Z) Z Z (aU cY Z) (ao (wg Z Z Z) Z Z (eB Z Z) (sV Z (aE Z Z) (aa (aA Z (fun c11=>?_) (fun c11=>?_))))))))
        ·refine ag ?_;have tq:=ii (z:=z) (oD h2 (by simp only [dB]; simp_all<;>omega));refine aw (rA hQ results97 Z ?_);exact ⟨eP10.ext,congrArg (Value.int .i64) ((if_neg ω).trans ((if_pos hF).trans ((if_pos ω).trans tq))).symm⟩
        ·refine ar (ag (ag ?_));have hM:z.Tapes.any dB=false:=oc h2 (by simp only [dB]; simp_all<;>omega) (by simp only [dB]; simp_all<;>omega);refine aw (sA Z Z (aa (ay (dd (γ:=Nat) eP10 [(1,_)] ⟨Z,trivial⟩ (fun k=>[(4,.int .i64 k)]) (fun k=>k≤z.Tapes.length∧fF z.Shape z.Tapes k=0) (fun k=>z.Tapes.length-k) 0 ⟨Z,trivial⟩ ⟨ω,Z⟩ (fun k w12 H14 ⟨hk,hkz⟩=>?_)))));dsimp only[lCA,lNA];refine ag (ah (sR 2 Z (aa (aA Z (fun c12=>?_) (fun c12=>?_)))))
         ·refine ar (ag (ay (ah (sA Z Z (aa (ay (dd (γ:=Nat) H14 [(1,_),(4,_)] ⟨Z,Z,trivial⟩ (fun k2=>[(5,.int .i64 k2)]) (fun k2=>k2≤(z.Tapes.getD k default).Recs.length∧fN z.Shape (z.Tapes.getD k default).Recs k2=0) (fun k2=>(z.Tapes.getD k default).Recs.length-k2) 0 ⟨Z,trivial⟩ ⟨ω,Z⟩ (fun k2 w13 H15 ⟨hk2,hk2z⟩=>?_))))))));dsimp only[lCA,lNA];refine ag (ag ?_);obtain ⟨eb9,eo19,es9,ef9,ee9,ec9,eO9,eH9,em9⟩:=bV (H15.seen 2 Z) k ω;obtain ⟨ea11,ek11,eg11,rfl,eq9,eK9,eo20⟩:=eq eO9;have eP11:=H15.look1 2 Z eo20 (fun b hb=>eH9 b (by rw [eq9]; simp [hb]));have eL11:=oL eo20;refine aw (sM Z Z (sF aJ Z ev (sLd cw (eP11.box 0 Z) Z (sM Z Z (sV Z (aF cw dy Z Z ee9 k ω ω) (sF dT Z gJ (sV Z (ac cY Z Z (bw ec9 1 Z)) (sV Z (aU cY Z) (sV Z (bq Z Z) (aa (aA Z (fun c13=>?_) (fun c13=>?_))))))))))))
          ·refine ar (ag (ay (ag ?_)));obtain ⟨eb10,eo21,es10,ef10,ee10,ec10,eO10,eH10,em10⟩:=bV (eP11.seen 2 Z) k ω;obtain ⟨ea12,ek12,eg12,rfl,eq10,eK10,eo22⟩:=eq eO10;have eP12:=eP11.look1 2 Z eo22 (fun b hb=>eH10 b (by rw [eq10]; simp [hb]));have eL12:=oL eo22;obtain ⟨eb11,eo23,es11,ef11,ee11,ec11,eO11,eH11,em11⟩:=bV (eP12.seen 6 Z) k2 ω;obtain ⟨ea13,ek13,ea14,ek14,ea15,ek15,eg13,eg14,eg15,rfl,eq11,eK11,eo24,eo25,eo26⟩:=bN eO11;have eK11U:=eK11;unfold Rec.Ok at eK11U
           try unfold I64ok at eK11U
           try unfold maxLen at eK11U
           have eP13:=eP12.look1 6 Z eo24 (fun b hb=>eH11 b (by rw [eq11]; simp [hb]));have eL13:=oL eo24;have eP14:=eP13.look1 6 Z eo25 (fun b hb=>eH11 b (by rw [eq11]; simp [hb]));have eL14:=oL eo25;have eP15:=eP14.look1 6 Z eo26 (fun b hb=>eH11 b (by rw [eq11]; simp [hb]));have eL15:=oL eo26;refine bv (S:=Ext No _) (oQ [1,3,5,7,9,11,13,15,17,19,21,22,24]) κ κ κ Z (fun _=>Ext.refl.drawn _) (fun q3=>?_);have H16:=eP15.drawn q3;refine dV Z Z (fun zw hx=>ab aJ Z ba Z Z) (dV Z Z (fun zw hx=>aj aX Z ba Z Z (At.sub (hx.heap (H16.box 0 Z)) 9)) (dV Z Z (fun zw hx=>ab aJ Z ev Z Z) (dV Z Z (fun zw hx=>ac cw Z Z (ak (hx.heap (H16.box 0 Z)) Z)) (dM Z Z Z (dV Z Z (fun zw hx=>aF cw dy Z Z ee10 k ω ω) (dV Z Z (fun zw hx=>ab dT Z gJ Z Z) (dV Z Z (fun zw hx=>ac cY Z Z (bw (hx.at ec10) 1 Z)) (dM Z Z Z (dV Z Z (fun zw hx=>aF cY aW Z Z ee11 k2 ω ω) (dV Z Z (fun zw hx=>aj az Z aW Z Z (hx.at ec11)) (dC func74 jI Z (ei η (H16.sees 7 Z) (H16.sees 8 Z) (H16.sees 9 Z)) (fun v8 w14 r8=>?_))))))))))));obtain ⟨e9,rfl⟩:=r8;have H17:=H16.to e9;refine bh Z ae Z Z (aY Z) (aS (ah (sR 2 Z (aa (aA Z (fun c14=>?_) (fun c14=>?_))))))
           ·refine ah (sR 2 Z (rN hQ results97 Z ?_));have tq:=l9 hM (k:=k) (k2:=k2) ω hkz ω hk2z ω;exact ⟨H17.ext,congrArg (Value.int .i64) ((if_neg ω).trans (((if_neg ω).trans ((if_pos hF).trans ((if_pos ω).trans tq)))).symm)⟩
           ·refine ar (aw (sM Z Z (sV Z (aN Z Z iO) (sA Z Z (aa (⟨k2+1,⟨Z,Z,Z,trivial⟩,⟨(H17.ftake 5),ω,(ks hk2z).trans ω⟩,θ⟩))))))
          ·refine bd (aw (sM Z Z (sV Z (aN Z Z iO) (sA Z Z (aa ?_)))));obtain rfl:k2=(z.Tapes.getD k default).Recs.length:=by omega
           refine ⟨k+1,⟨Z,Z,trivial⟩,⟨(eP11.ftake 5),ω,(kj hkz).trans hk2z⟩,θ⟩
         ·refine bd (ag (ag ?_));obtain rfl:k=z.Tapes.length:=by omega
          have hAll:=hkz;refine aw (sA Z Z (aa (ay (dd (γ:=Nat) H14 [(1,_)] ⟨Z,trivial⟩ (fun k=>[(7,.int .i64 k)]) (fun k=>k≤2∧(∀ i,i<k→dI (z.Tapes.getD i default)=false)) (fun k=>2-k) 0 ⟨Z,trivial⟩ ⟨ω,fun i hi=>by omega⟩ (fun k w15 H18 ⟨hk,hek⟩=>?_)))));dsimp only[lCA,lNA];refine ag (ah (sR 2 Z (aa (aA Z (fun c15=>?_) (fun c15=>?_)))))
          ·refine ar (ag (ay (ag ?_)));obtain ⟨eb12,eo27,es12,ef12,ee12,ec12,eO12,eH12,em12⟩:=bV (H18.seen 2 Z) k ω;obtain ⟨ea16,ek16,eg16,rfl,eq12,eK12,eo28⟩:=eq eO12;have eP16:=H18.look1 2 Z eo28 (fun b hb=>eH12 b (by rw [eq12]; simp [hb]));have eL16:=oL eo28;refine aw (sF aJ Z ev (sLd cw (eP16.box 0 Z) Z (sM Z Z (sV Z (aF cw dy Z Z ee12 k ω ω) (sF dT Z ts4 (sV Z (ac tu4 Z Z (bw ec12 0 Z)) (sM Z Z (bZ (t:=108) Z (fun hg10=>?_) (fun hg10=>?_)))))))))
           ·try simp only [decide_eq_true_eq,decide_eq_false_iff_not] at hg10
            refine ao (wg Z Z Z) Z Z (ab aJ Z ev Z Z) (ao (wg Z Z Z) Z Z (ac cw Z Z (ak (eP16.box 0 Z) Z)) (ao (wg Z Z Z) Z Z (aM Z) (ao (wg Z Z Z) Z Z (aF cw dy Z Z ee12 k ω ω) (ao (wg Z Z Z) Z Z (ab dT Z gJ Z Z) (ao (wg Z Z Z) Z Z (ac cY Z Z (bw ec12 1 Z)) (ao (wg Z Z Z) Z Z (aU cY Z) (ao (wg Z Z Z) Z Z (eB Z Z) (sV Z (aG Z Z) (aa (aA Z (fun c16=>?_) (fun c16=>?_)))))))))))
            ·refine ah (rA hQ results97 Z ?_);have tq:=kR hM hAll (ry k ω (by rw [dI]; simp_all<;>omega));exact ⟨eP16.ext,congrArg (Value.int .i64) ((if_neg ω).trans ((if_pos hF).trans ((if_pos ω).trans tq))).symm⟩
            ·refine ar (aw (sM Z Z (sV Z (aN Z Z iO) (sA Z Z (aa (⟨k+1,⟨Z,Z,trivial⟩,⟨(eP16.ftake 5),ω,fun i hi=>?_⟩,θ⟩))))))
             by_cases e:i=k
             ·subst e; rw [dI]; simp_all<;>omega
             ·exact hek i ω
           ·try simp only [decide_eq_true_eq,decide_eq_false_iff_not] at hg10
            refine sR 8 Z (sV Z (aE Z Z) (aa (dE Z (ar (aw (sM Z Z (sV Z (aN Z Z iO) (sA Z Z (aa (⟨k+1,⟨Z,Z,trivial⟩,⟨(eP16.ftake 5),ω,fun i hi=>?_⟩,θ⟩))))))))))
            by_cases e:i=k
            ·subst e; rw [dI]; simp_all<;>omega
            ·exact hek i ω
          ·refine bd (ag (ag ?_));have tq:=nr hM hAll (oZ (fun i hi=>hek i ω));refine aw (sF aJ Z ts2 (sLd tu2 (H18.box 0 Z) Z (sE func121 bP Z bm H18 (fun w16 e10 H19=>sV Z (bj Z) (sM Z Z (bZ (t:=122) Z (fun hg11=>?_) (fun hg11=>?_)))))))
           ·try simp only [decide_eq_true_eq,decide_eq_false_iff_not] at hg11
            refine sR 4 Z (sV Z (aG Z Z) (aa (dz Z (ah (rA hQ results97 Z ?_)))));exact ⟨H19.ext,congrArg (Value.int .i64) ((if_neg ω).trans ((if_pos hF).trans ((if_neg ω).trans (if_neg (by simp_all<;>omega))))).symm⟩
           ·try simp only [decide_eq_true_eq,decide_eq_false_iff_not] at hg11
            refine ao (wg Z Z Z) Z Z (ab aJ Z ts2 Z Z) (ao (wg Z Z Z) Z Z (ac tu2 Z Z (ak (H19.box 0 Z) Z)) (cW (wg Z Z Z) Z Z (aD func121 Z bP Z) bm (fun v10 w17 r10=>?_)));obtain ⟨e11,rfl⟩:=r10;have H20:=H19.to e11;refine ao (wg Z Z Z) Z Z (bj Z) (sV Z (aE Z Z) (aa (cI Z (fun c17=>?_) (fun c17=>?_))))
            ·refine ah (rA hQ results97 Z ?_);exact ⟨H20.ext,congrArg (Value.int .i64) ((if_neg ω).trans ((if_pos hF).trans ((if_neg ω).trans (if_neg (by simp_all<;>omega))))).symm⟩
            ·refine ar (ah (rA hQ results97 Z ?_));exact ⟨H20.ext,congrArg (Value.int .i64) ((if_neg ω).trans ((if_pos hF).trans ((if_neg ω).trans (if_pos (by simp_all<;>omega))))).symm⟩
theorem mM {w:World}{z:Wld}{zA9 zA10 zA11:Option Addr}{zC9 zC10 zC11:Nat}(zK:z.Ok) (zS9:Sees w [.slice zA9 z.Groups.length zC9] z.Groups) (zS10:Sees w [.slice zA10 z.On.length zC10] z.On) (zS11:Sees w [.slice zA11 z.Tapes.length zC11] z.Tapes):Ret Tryz.prog 40 #[z.val zA9 zC9 zA10 zC10 zA11 zC11] w fun v w'=>Ext No w w'∧(v = .int .i64 (upF z)):=by
 have zK2:=zK;unfold Wld.Ok Shape.Ok at zK2
 try unfold I64ok at zK2
 try unfold maxLen at zK2
 have zL9:=sL zS9;obtain ⟨zF9,zO9⟩:=zS9;have zL10:=sL zS10;obtain ⟨zF10,zO10⟩:=zS10;have zL11:=sL zS11;obtain ⟨zF11,zO11⟩:=zS11;refine aV func40 Z ntmps40 Z (fun Q hQ hN=>?_);have H0:=Sep.start (an zO9 (an zO10 (an zO11 aP)));refine ah (bE ae Z Z H0 (fun b1 w1 e1 g1 H1=>sA Z Z (aa (ag (ah (sV Z (aj aJ Z bu Z Z (At.whole (H1.box 0 Z))) (sE func97 ni Z (fC η (H1.sees 0 Z) (H1.sees 1 Z) (H1.sees 2 Z)) H1 (fun w2 e2 H2=>sA Z Z (aa (ah (sR 2 Z (aa (aA Z (fun c1=>?_) (fun c1=>?_))))))))))))))
 ·refine ah (sR 2 Z (rN hQ results40 Z ?_));exact ⟨H2.ext,congrArg (Value.int .i64) (if_pos ω).symm⟩
 ·refine ar (ag (ah (sF aJ Z ts4 (sLd tu4 (H2.box 0 Z) Z (aa (cI Z (fun c2=>?_) (fun c2=>?_)))))))
  ·refine ah (rA hQ results40 Z ?_);exact ⟨H2.ext,congrArg (Value.int .i64) ((if_neg ω).trans (if_pos η)).symm⟩
  ·refine ar (ah (rA hQ results40 Z ?_));exact ⟨H2.ext,congrArg (Value.int .i64) ((if_neg ω).trans (if_neg (by simp_all<;>omega))).symm⟩
end Go.Wk
namespace Go.Wk
open Rp (sz own)
section
variable {z:Wld}{s:Shape}{g row d:Int}
theorem qX (h:ins g 0 (z.Shape.Groups+z.Shape.Column-1)=false):fi z g=3:=by rw [fi,if_neg (by simp [h])]
theorem pL (h:ins g 0 (z.Shape.Groups+z.Shape.Column-1)=true) (h2:¬ g∈z.On):fi z g=8:=by rw [fi,if_pos h,if_neg h2]
theorem lD (h:ins g 0 (z.Shape.Groups+z.Shape.Column-1)=true) (h2:g∈z.On):fi z g=0:=by rw [fi,if_pos h,if_pos h2]
def kW (s:Shape) (g d row:Int):Bool:=ins g 0 (s.Groups+s.Column-1) && (ins d 0 (s.Data+s.Spare-1) && ins row 0 (s.Rows-1))
theorem oP (h:s.ok=true):kW s g 0 row=(ins g 0 (s.Groups+s.Column-1) && ins row 0 (s.Rows-1)):=by
  have:=aZ h
  have:ins 0 0 (s.Data+s.Spare-1)=true:=bD.2 ω
  rw [kW,this,Bool.true_and]
theorem tH (h:z.Shape.ok=true) (h2:kW z.Shape g 0 row=false):nB z g row=3:=by
  rw [oP h] at h2
  unfold nB
  by_cases hg:ins g 0 (z.Shape.Groups+z.Shape.Column-1)=true
  · rw [if_pos ⟨hg,by rw [hg,Bool.true_and] at h2; exact h2⟩]
  · rw [if_neg (fun e=>hg e.1),qX (by simpa using hg)]
theorem oG (h:z.Shape.ok=true) (h2:kW z.Shape g 0 row=true):nB z g row=fi z g∧ins g 0 (z.Shape.Groups+z.Shape.Column-1)=true:=by
  rw [oP h,Bool.and_eq_true] at h2
  exact ⟨by rw [nB,if_neg (by simp [h2.2])],h2.1⟩
theorem x4 (h:z.Shape.ok=true) (h2:kW z.Shape g 0 row=true) (h3:decide (g∈z.On)=false):nB z g row=8:=by
  rw [(oG h h2).1,pL (oG h h2).2 (of_decide_eq_false h3)]
theorem yC (h:z.Shape.ok=true) (h2:kW z.Shape g 0 row=true) (h3:decide (g∈z.On)=true):nB z g row=0:=by
  rw [(oG h h2).1,lD (oG h h2).2 (of_decide_eq_true h3)]
theorem rZ (h:fi z g=0):ins g 0 (z.Shape.Groups+z.Shape.Column-1)=true∧g∈z.On:=by
  unfold fi at h
  split at h
  · rename_i h1
    split at h
    · rename_i h2; exact ⟨h1,h2⟩
    · cases h
  · cases h
theorem jJ (h:dt z g row=0):z.Shape.ok=true∧bG z=true∧ins g 0 (z.Shape.Groups+z.Shape.Column-1)=true∧ins row 0 (z.Shape.Rows-1)=true∧g∈z.On:=by
  unfold dt at h
  split at h
  · rename_i h1; exact absurd h h1
  · rename_i h1
    have hw:=fL (jy (w:=z) ω).1
    unfold nB at h
    split at h
    · cases h
    · rename_i h2
      obtain ⟨h3,h4⟩:=rZ h
      exact ⟨hw.1,hw.2.1,h3,by cases hr:ins row 0 (z.Shape.Rows-1)<;>simp_all,h4⟩
theorem jR (h:dt z g row=0):upF z=0:=by
  unfold dt at h
  split at h
  · rename_i h1; exact absurd h h1
  · omega
end
end Go.Wk
namespace Go.Wk
section
variable {z:Wld}{s:Shape}{r:Rec}{g row d:Int}
theorem xv:0≤s.fault∧s.fault≤3:=by unfold Shape.fault; split<;>omega
theorem yR {b:ByteArray}:0≤dc b∧dc b≤5:=by unfold dc; split<;>omega
theorem wT:0≤eY s r∧eY s r≤5:=by
  have:=yR (b:=r.Name)
  unfold eY
  repeat' split
  all_goals omega
theorem yn:0≤fK s r∧fK s r≤5:=by
  have:=wT (s:=s) (r:=r)
  unfold fK
  repeat' split
  all_goals omega
theorem su {rs:List Rec}:∀ k,0≤fN s rs k∧fN s rs k≤5
  | 0=>by simp [fN]
  | k+1=>by
    have h1:=su (rs:=rs) k
    have h2:=yn (s:=s) (r:=rs.getD k default)
    rw [fN]
    split<;>omega
theorem sd {ts:List Tape}:∀ k,0≤fF s ts k∧fF s ts k≤5
  | 0=>by simp [fF]
  | k+1=>by
    have h1:=sd (ts:=ts) k
    have h2:=su (s:=s) (rs:=(ts.getD k default).Recs) (ts.getD k default).Recs.length
    rw [fF]
    split<;>omega
theorem vK:0≤eQ z∧eQ z≤5:=by
  have:=sd (s:=z.Shape) (ts:=z.Tapes) z.Tapes.length
  unfold eQ
  repeat' split
  all_goals omega
theorem qB:0≤di z∧di z≤5:=by
  have h1:=xv (s:=z.Shape)
  have h2:=vK (z:=z)
  unfold di
  repeat' split
  all_goals omega
theorem uq:0≤upF z∧upF z≤9:=by
  have h1:=qB (z:=z)
  unfold upF
  repeat' split
  all_goals omega
theorem vX:0≤fi z g∧fi z g≤8:=by unfold fi; repeat' split<;>omega
theorem yI:0≤nB z g row∧nB z g row≤8:=by
  have h1:=vX (z:=z) (g:=g)
  unfold nB; split<;>omega
theorem qO:0≤dt z g row∧dt z g row≤9:=by
  have h1:=uq (z:=z)
  have h2:=yI (z:=z) (g:=g) (row:=row)
  unfold dt; split<;>omega
end
end Go.Wk
namespace Go.Wk
open Go.Proofs Rp Go.Proofs.Tryz
set_option maxRecDepth 10000
theorem eA {w:World}{zb zC9 zC10 zC11:Nat}{z:Wld}{zA9 zA10 zA11:Option Addr}{g:Int}(zB:w.heap[zb]? = some (.cells [.int .i64 z.Shape.Groups,.int .i64 z.Shape.Column,.int .i64 z.Shape.Data,.int .i64 z.Shape.Spare,.int .i64 z.Shape.Rows,.int .i64 z.Shape.Cap,.int .i64 z.Shape.Batch,.int .i64 z.Shape.Queue,.int .i64 z.Shape.Stage,.slice zA9 z.Groups.length zC9,.slice zA10 z.On.length zC10,.slice zA11 z.Tapes.length zC11,.int .i64 z.Writes,.int .i64 z.Stop,.bool z.Down].toArray 34)) (zK:z.Ok) (zS9:Sees w [.slice zA9 z.Groups.length zC9] z.Groups) (zS10:Sees w [.slice zA10 z.On.length zC10] z.On) (zS11:Sees w [.slice zA11 z.Tapes.length zC11] z.Tapes):Ret Tryz.prog 79 #[.pointer (some ⟨zb,0,none⟩),.int .i64 g] w fun v w'=>Ext No w w'∧(v = .bool (decide (g∈z.On))):=by
 have zK2:=zK;unfold Wld.Ok Shape.Ok at zK2
 try unfold I64ok at zK2
 try unfold maxLen at zK2
 have zL9:=sL zS9;obtain ⟨zF9,zO9⟩:=zS9;have zL10:=sL zS10;obtain ⟨zF10,zO10⟩:=zS10;have zL11:=sL zS11;obtain ⟨zF11,zO11⟩:=zS11;refine aV func79 Z ntmps79 Z (fun Q hQ hN=>?_);have H0:=Sep.start (lu zB (an zO9 (an zO10 (an zO11 aP))));refine ah (sA Z Z (aa (ah (sR 2 Z (sF aJ Z bH (sLd bn (H0.fbox 0 Z) Z (sM Z Z (sE func149 ku Z (cB (H0.sees 2 Z)) H0 (fun w1 e1 H1=>rA hQ results79 Z ?_)))))))));exact ⟨H1.ext,Z⟩
theorem iQ {w:World}{zb zC9 zC10 zC11:Nat}{z:Wld}{zA9 zA10 zA11:Option Addr}{g:Int}(zB:w.heap[zb]? = some (.cells [.int .i64 z.Shape.Groups,.int .i64 z.Shape.Column,.int .i64 z.Shape.Data,.int .i64 z.Shape.Spare,.int .i64 z.Shape.Rows,.int .i64 z.Shape.Cap,.int .i64 z.Shape.Batch,.int .i64 z.Shape.Queue,.int .i64 z.Shape.Stage,.slice zA9 z.Groups.length zC9,.slice zA10 z.On.length zC10,.slice zA11 z.Tapes.length zC11,.int .i64 z.Writes,.int .i64 z.Stop,.bool z.Down].toArray 34)) (zK:z.Ok) (zS9:Sees w [.slice zA9 z.Groups.length zC9] z.Groups) (zS10:Sees w [.slice zA10 z.On.length zC10] z.On) (zS11:Sees w [.slice zA11 z.Tapes.length zC11] z.Tapes) (hs:z.Shape.ok=true):Ret Tryz.prog 69 #[.pointer (some ⟨zb,0,none⟩),.int .i64 g] w fun v w'=>Ext No w w'∧(v = .int .i64 (fi z g)):=by
 have zK2:=zK;unfold Wld.Ok Shape.Ok at zK2
 try unfold I64ok at zK2
 try unfold maxLen at zK2
 have zL9:=sL zS9;obtain ⟨zF9,zO9⟩:=zS9;have zL10:=sL zS10;obtain ⟨zF10,zO10⟩:=zS10;have zL11:=sL zS11;obtain ⟨zF11,zO11⟩:=zS11;have sbd:=aZ hs;refine aV func69 Z ntmps69 Z (fun Q hQ hN=>?_);have H0:=Sep.start (lu zB (an zO9 (an zO10 (an zO11 aP))));refine ah (sA Z Z (aa (ag (ay (ah (sR 2 Z (sF aJ Z ba (sV Z (aj aX Z ba Z Z (At.sub (H0.fbox 0 Z) 9)) (sM Z Z (sE func78 jM Z (db η) H0 (fun w1 e1 H1=>sV Z (bj Z) (sA Z Z (aa (cI Z (fun c1=>?_) (fun c1=>?_)))))))))))))))
 ·refine ah (rA hQ results69 Z ?_);exact ⟨H1.ext,congrArg (Value.int .i64) (qX (cL c1)).symm⟩
 ·refine ah (sR 2 Z (sE func79 lx Z (eA (H1.fbox 0 Z) η (H1.sees 1 Z) (H1.sees 2 Z) (H1.sees 3 Z)) H1 (fun w2 e2 H2=>sV Z (bj Z) (sA Z Z (aa (cI Z (fun c2=>?_) (fun c2=>?_)))))))
  ·refine ah (rA hQ results69 Z ?_);exact ⟨H2.ext,congrArg (Value.int .i64) (pL (aB c1) (of_decide_eq_false (cL c2))).symm⟩
  ·refine ar (ah (rA hQ results69 Z ?_));exact ⟨H2.ext,congrArg (Value.int .i64) (lD (aB c1) (of_decide_eq_true (aB c2))).symm⟩
theorem mZ {w:World}{s:Shape}{g d row:Int}(hs:s.ok=true):Ret Tryz.prog 137 #[s.v,.int .i64 g,.int .i64 d,.int .i64 row] w fun v w'=>Ext No w w'∧(v = .bool (kW s g d row)):=by
 have sbd:=aZ hs;refine aV func137 Z ntmps137 Z (fun Q hQ hN=>?_);have H0:=Sep.start (w:=w) (F:=[]) σ;refine ah (bE ae Z Z H0 (fun b1 w1 e1 g1 H1=>sA Z Z (aa (ah (sM Z Z (sV Z (aj aX Z ba Z Z (At.whole (H1.box 0 Z))) (sE func116 cN Z (bM η) H1 (fun w2 e2 H2=>sV Z (cQ Z Z iO) (sE func121 bP Z bm H2 (fun w3 e3 H3=>sM Z Z (bO 5 (j:=5) (want:=true) (t:=19) Z Z Z Z (fun hg1 kk1=>ao (wgE Z Z Z hg1) Z Z (aM Z) (ao (wgE Z Z Z hg1) Z Z (aj aX Z ba Z Z (At.whole (H3.box 0 Z))) (cJ (wgE Z Z Z hg1) Z Z (aD func216 Z kr Z) (eO η) (fun w5 e5=>ao (wgE Z Z Z hg1) Z Z (cQ Z Z iO) (cJ (wgE Z Z Z hg1) Z Z (aD func121 Z bP Z) bm (fun w6 e6=>kk1 _ _ (kx Z (kx Z (kx Z (kx Z (kx Z k0))))) Z ((Ext.refl.trans e5).trans e6))))))) (fun w4 e4=>?_))))))))))));have H4:=H3.to e4;refine sV Z (bI Z Z) (sM Z Z (bO 5 (j:=12) (want:=true) (t:=26) Z Z Z Z (fun hg2 kk2=>ao (wgE Z Z Z hg2) Z Z (aM Z) (ao (wgE Z Z Z hg2) Z Z (ab aX Z ts2 Z Z) (ao (wgE Z Z Z hg2) Z Z (ac tu2 Z Z (ak (H4.box 0 Z) Z)) (ao (wgE Z Z Z hg2) Z Z (cQ Z Z iO) (cJ (wgE Z Z Z hg2) Z Z (aD func121 Z bP Z) bm (fun w8 e8=>kk2 _ _ (kx Z (kx Z (kx Z (kx Z (kx Z k0))))) Z (Ext.refl.trans e8))))))) (fun w7 e7=>?_)));have H5:=H4.to e7;refine sV Z (bI Z Z) (rA hQ results137 Z ?_);exact ⟨H5.ext,congrArg Value.bool (by simp [kW,Bool.and_assoc])⟩
theorem m0 {w:World}{z:Wld}{zA9 zA10 zA11:Option Addr}{zC9 zC10 zC11:Nat}{g row:Int}(zK:z.Ok) (zS9:Sees w [.slice zA9 z.Groups.length zC9] z.Groups) (zS10:Sees w [.slice zA10 z.On.length zC10] z.On) (zS11:Sees w [.slice zA11 z.Tapes.length zC11] z.Tapes):Ret Tryz.prog 73 #[z.val zA9 zC9 zA10 zC10 zA11 zC11,.int .i64 g,.int .i64 row] w fun v w'=>Ext No w w'∧(v = .int .i64 (dt z g row)):=by
 have zK2:=zK;unfold Wld.Ok Shape.Ok at zK2
 try unfold I64ok at zK2
 try unfold maxLen at zK2
 have zL9:=sL zS9;obtain ⟨zF9,zO9⟩:=zS9;have zL10:=sL zS10;obtain ⟨zF10,zO10⟩:=zS10;have zL11:=sL zS11;obtain ⟨zF11,zO11⟩:=zS11;refine aV func73 Z ntmps73 Z (fun Q hQ hN=>?_);have H0:=Sep.start (an zO9 (an zO10 (an zO11 aP)));refine ah (bE ae Z Z H0 (fun b1 w1 e1 g1 H1=>sA Z Z (aa (ag (ah (sV Z (aj aJ Z bu Z Z (At.whole (H1.box 0 Z))) (sE func40 vz Z (mM η (H1.sees 0 Z) (H1.sees 1 Z) (H1.sees 2 Z)) H1 (fun w2 e2 H2=>sA Z Z (aa (ah (sR 2 Z (aa (aA Z (fun c1=>?_) (fun c1=>?_))))))))))))))
 ·refine ah (sR 2 Z (rN hQ results73 Z ?_));exact ⟨H2.ext,congrArg (Value.int .i64) (if_pos ω).symm⟩
 ·refine ar (ag (ag ?_));have hs:=(fL (jy (w:=z) ω).1).1;have sbd:=aZ hs;refine aw (sF aJ Z ba (sV Z (aj aX Z ba Z Z (At.sub (H2.box 0 Z) 9)) (sR 2 Z (sE func137 uV Z (mZ η) H2 (fun w3 e3 H3=>sV Z (bj Z) (aa (cI Z (fun c2=>?_) (fun c2=>?_))))))))
  ·refine ah (rA hQ results73 Z ?_);exact ⟨H3.ext,congrArg (Value.int .i64) ((if_neg ω).trans (tH hs (cL c2))).symm⟩
  ·refine ar (ag (ah (sF aJ Z bH (sLd bn (H3.box 0 Z) Z (sM Z Z (sE func117 mf Z (il (H3.sees 1 Z)) H3 (fun w4 e4 H4=>sV Z (bj Z) (aa (cI Z (fun c3=>?_) (fun c3=>?_))))))))))
   ·refine ah (rA hQ results73 Z ?_);exact ⟨H4.ext,congrArg (Value.int .i64) ((if_neg ω).trans (x4 hs (aB c2) (cL c3))).symm⟩
   ·refine ar (ah (rA hQ results73 Z ?_));exact ⟨H4.ext,congrArg (Value.int .i64) ((if_neg ω).trans (yC hs (aB c2) (aB c3))).symm⟩
end Go.Wk
namespace Go.Wk
open Rp (sz own)
def cat (r q:Rsc):Rsc:=⟨r.fp++q.fp,fun w=>r.φ w∧q.φ w,fun h k=>⟨r.st h.1 fun b hb=>k b (by simp [hb]),q.st h.2 fun b hb=>k b (by simp [hb])⟩,fun h b hb=>(List.mem_append.1 hb).elim (r.lt h.1 b) (q.lt h.2 b)⟩
section
variable {M:Nat→Prop}{w0 w w':World}{Δ F:List Rsc}
theorem Sep.join2 (h:Sep M w0 Δ F w) (i j:Nat) {r q:Rsc}(hi:Δ[i]? = some r) (hj:Δ[j]? = some q) (hij:Nat.beq j i=false):Sep M w0 ((Δ.set j gone).set i (cat r q)) F w:=
  h.set2 hi hj hij Ext.refl (q:=cat r q) ⟨h.r i hi,h.r j hj⟩ (List.nodup_append.2 ⟨h.nodup1 hi,h.nodup1 hj,fun a ha b hb e=>by subst e; exact h.apart hi hj hij a hb ha⟩)
    fun b hb=>(List.mem_append.1 hb).elim .inl fun h => .inr (.inl h)
theorem Sep.conv (h:Sep M w0 Δ F w) (i:Nat) {r:Rsc}(q:Rsc) (hi:Δ[i]? = some r) (hq:q.φ w) (hfp:∀ b∈q.fp,b∈r.fp) (hn:q.fp.Nodup):Sep M w0 (Δ.set i q) F w:=
  h.set hi Ext.refl hq hn fun b hb => .inl (hfp b hb)
theorem Sep.partLast {A:List Rsc}{r:Rsc}(h:Sep M w0 (A++[r]) F w) (rs:List Rsc) (hrs:∀ q∈rs,q.φ w) (hb:blocks rs=r.fp):Sep M w0 (A++gone::rs) F w:=by
  have H:=h.part A.length (r:=r) σ rs hrs hb
  rw [show (A++[r]).set A.length gone=A++[gone] by simp] at H
  simpa using H
def hol {α:Type}[Rp α] (ad:Option Addr) (n cap:Nat) (xs:List α) (k b off:Nat) (T:TypeId) (ck:List Value) (f1 f2:List Nat):Rsc:=
  ⟨b::(f1++f2),fun w=>∃ cur:Array Value,w.heap[b]? = some (.cells cur T (0,0))∧off+sz α≤cur.size∧(cur.toList.drop off).take (sz α)=ck∧(∀ x∈b::(f1++f2),x<w.heap.size) ∧
    ∀ w' cur' x' fk',w'.heap[b]? = some (.cells cur' T (0,0))→cur'.size=cur.size→(∀ j,j<off∨off+sz α≤j→cur'[j]? = cur[j]?)→(∀ b∈f1,w'.heap[b]? = w.heap[b]?)→(∀ b∈f2,w'.heap[b]? = w.heap[b]?) →
        own true w' ((cur'.toList.drop off).take (sz α)) x' fk'→own true w' [.slice ad n cap] (xs.set k x') (b::(f1++(fk'++f2))),
   fun h e=>by
      obtain ⟨cur,h1,h2,h3,h4,h5⟩:=h
      refine ⟨cur,(e b σ).trans h1,h2,h3,fun x hx=>?_,fun w' cur' x' fk' q1 q2 q3 q4 q5 q6=>h5 w' cur' x' fk' q1 q2 q3 (fun b hb=>(q4 b hb).trans (e b (by simp [hb]))) (fun b hb=>(q5 b hb).trans (e b (by simp [hb]))) q6⟩
      have h7:=h4 x hx
      have h8:=e x hx
      rw [Array.getElem?_eq_getElem h7] at h8
      exact (Array.getElem?_eq_some_iff.1 h8).1,
   fun h=>by obtain ⟨_,_,_,_,h,_⟩:=h; exact h⟩
variable {α:Type}[Rp α]
theorem Sep.focus {d:α}(h:Sep M w0 Δ F w) (i:Nat) {ad n cap} {xs:List α}{fp} (hi:Δ[i]? = some (Wk.mine [.slice ad n cap] xs fp)) (k:Nat) (hk:k<xs.length) :
    ∃ b o T ck f1 f2 fk,ad=some ⟨b,o,none⟩∧own true w ck (xs.getD k d) fk∧Sep M w0 (Δ.set i (hol ad n cap xs k b (o+k*sz α) T ck f1 f2)++[Wk.mine ck (xs.getD k d) fk]) F w:=by
  have hnd:=h.nodup1 hi
  obtain ⟨b,o,cur,T,f1,fk,f2,e1,e2,hb,hsz,hx,hback⟩:=oT (h.mine i hi) k hk
  have hlt:=Rp.lt (h.mine i hi)
  have hk1:(k+1)*sz α=k*sz α+sz α:=by rw [Nat.add_mul,Nat.one_mul]
  change fp.Nodup at hnd
  subst e2
  obtain ⟨n1,n2⟩:=List.nodup_cons.1 hnd
  rw [List.nodup_append,List.nodup_append] at n2
  obtain ⟨d1,⟨d2,d3,d4⟩,d5⟩:=n2
  have hmem:∀ x,x∈(b::(f1++f2))++fk↔x∈b::(f1++(fk++f2)):=fun x=>by
    simp only [List.cons_append,List.mem_cons,List.mem_append]
    constructor
    · rintro (h | (h | h) | h)
      · exact .inl h
      · exact .inr (.inl h)
      · exact .inr (.inr (.inr h))
      · exact .inr (.inr (.inl h))
    · rintro (h | h | h | h)
      · exact .inl h
      · exact .inr (.inl (.inl h))
      · exact .inr (.inr h)
      · exact .inr (.inl (.inr h))
  have H1:=h.set hi (q:=reord (Wk.mine [.slice ad n cap] xs (b::(f1++(fk++f2)))) ((b::(f1++f2))++fk) hmem) Ext.refl (h.mine i hi)
    (by
      change ((b::(f1++f2))++fk).Nodup
      refine List.nodup_append.2 ⟨List.nodup_cons.2 ⟨fun hm=>n1 (by rcases List.mem_append.1 hm with hm | hm<;>simp [hm]),List.nodup_append.2 ⟨d1,d3,fun p hp q hq e=>d5 p hp q (by simp [hq]) e⟩⟩,d2,fun p hp q hq e=>?_⟩
      subst e
      rcases List.mem_cons.1 hp with rfl | hp
      · exact n1 (by simp [hq])
      · rcases List.mem_append.1 hp with hp | hp
        · exact d5 p hp p (by simp [hq]) rfl
        · exact d4 p hq p hp rfl)
    (fun x hx => .inl ((hmem x).1 hx))
  have hil:i<Δ.length:=(List.getElem?_eq_some_iff.1 hi).1
  have ek:xs.getD k d=xs[k]:=by simp [List.getD,hk]
  refine ⟨b,o,T,_,f1,f2,fk,e1,by rw [ek]; exact hx,?_⟩
  have H2:=H1.part i (r:=reord (Wk.mine [.slice ad n cap] xs (b::(f1++(fk++f2)))) ((b::(f1++f2))++fk) hmem) (by rw [List.getElem?_set_self hil]) [hol ad n cap xs k b (o+k*sz α) T ((cur.toList.drop (o+k*sz α)).take (sz α)) f1 f2,Wk.mine ((cur.toList.drop (o+k*sz α)).take (sz α)) (xs.getD k d) fk] ?_ ?_
  · rw [List.set_set] at H2
    exact (H2.perm (iJ hil)).sub ((List.Sublist.refl _).append (.cons _ (.refl _)))
  · refine aq ⟨cur,hb,hsz,rfl,fun x hx=>hlt x ((hmem x).1 (by simp only [List.mem_append]; exact .inl hx)),fun w' cur' x' fk' q1 q2 q3 q4 q5 q6=>hback w' cur' x' fk' q1 q2 (fun j hj=>q3 j (by rw [hk1] at hj; omega)) q4 q5 q6⟩ (aq ?_ σ)
    rw [ek]; exact hx
  · simp [blocks,hol,Wk.mine,reord]
variable {ad:Option Addr}{n cap k b off:Nat}{xs:List α}{T:TypeId}{ck:List Value}{f1 f2:List Nat}
theorem Sep.holAt (h:Sep M w0 Δ F w) (i:Nat) (hi:Δ[i]? = some (hol ad n cap xs k b off T ck f1 f2)):At w b off ck:=by
  obtain ⟨cur,h1,h2,h3,_⟩:=h.r i hi
  rw [← h3]
  exact oN h1 _
theorem Sep.hset (h:Sep M w0 Δ F w) (i:Nat) (hi:Δ[i]? = some (hol ad n cap xs k b off T ck f1 f2)) (j:Nat) (hj:j<ck.length) (v:Value) :
    ∃ cur:Array Value,w.heap[b]? = some (.cells cur T (0,0))∧off+j<cur.size∧Sep M w0 (Δ.set i (hol ad n cap xs k b off T (ck.set j v) f1 f2)) F (Wk.put w b (.cells (cur.setIfInBounds (off+j) v) T (0,0))):=by
  obtain ⟨cur,h1,h2,h3,h4,h5⟩:(hol ad n cap xs k b off T ck f1 f2).φ w:=h.r i hi
  have hnd:=h.nodup1 hi
  change (b::(f1++f2)).Nodup at hnd
  obtain ⟨n1,_⟩:=List.nodup_cons.1 hnd
  have hjs:j<sz α:=by
    have:=congrArg List.length h3
    rw [List.length_take,List.length_drop] at this; omega
  have hE:Ext (· = b) w (Wk.put w b (.cells (cur.setIfInBounds (off+j) v) T (0,0))):=Ext.refl.put (.inl rfl)
  refine ⟨cur,h1,ω,h.set hi (q:=hol ad n cap xs k b off T (ck.set j v) f1 f2) (hE.mono fun b' _ e=>by subst e; simp [hol]) ?_ hnd (fun b hb => .inl hb)⟩
  refine ⟨cur.setIfInBounds (off+j) v,jE h1,by simpa using h2,?_,fun x hx=>by have:=h4 x hx; have:=hE.size; omega,fun w' cur' x' fk' q1 q2 q3 q4 q5 q6=>?_⟩
  · rw [Array.toList_setIfInBounds,List.drop_set,if_neg ω,List.take_set,h3,Nat.add_sub_cancel_left]
  · refine h5 w' cur' x' fk' q1 (by simpa using q2) (fun l hl=>?_) (fun b' hb'=>?_) (fun b' hb'=>?_) q6
    · rw [q3 l hl,Array.getElem?_setIfInBounds_ne ω]
    · rw [q4 b' hb']; exact hE.block b' (h4 b' (by simp [hb'])) fun e=>n1 (by subst e; simp [hb'])
    · rw [q5 b' hb']; exact hE.block b' (h4 b' (by simp [hb'])) fun e=>n1 (by subst e; simp [hb'])
theorem Sep.fill (h:Sep M w0 Δ F w) (i j:Nat) {fk} {x:α}(hi:Δ[i]? = some (hol ad n cap xs k b off T ck f1 f2)) (hj:Δ[j]? = some (Wk.mine ck x fk)) (hij:Nat.beq j i=false) :
    ∃ fp',Sep M w0 ((Δ.set j gone).set i (Wk.mine [.slice ad n cap] (xs.set k x) fp')) F w:=by
  obtain ⟨cur,h1,h2,h3,h4,h5⟩:(hol ad n cap xs k b off T ck f1 f2).φ w:=h.r i hi
  have hx:=h.mine j hj
  have hnd:=h.nodup1 hi
  change (b::(f1++f2)).Nodup at hnd
  have hnk:=h.nodup1 hj
  change fk.Nodup at hnk
  have hap:∀ x∈fk,x ∉ b::(f1++f2):=fun x hx hm=>h.apart (i:=i) (j:=j) hi hj hij x hx hm
  obtain ⟨n1,n2⟩:=List.nodup_cons.1 hnd
  obtain ⟨d1,d2,d3⟩:=List.nodup_append.1 n2
  have hbk:b ∉ fk:=fun hm=>hap b hm σ
  refine ⟨b::(f1++(fk++f2)),h.set2 hi hj hij (q:=Wk.mine [.slice ad n cap] (xs.set k x) (b::(f1++(fk++f2)))) Ext.refl ?_ ?_ ?_⟩
  · exact h5 w cur x fk h1 rfl (fun _ _=>rfl) (fun _ _=>rfl) (fun _ _=>rfl) (by rw [h3]; exact hx)
  · change (b::(f1++(fk++f2))).Nodup
    refine List.nodup_cons.2 ⟨fun hm=>?_,List.nodup_append.2 ⟨d1,List.nodup_append.2 ⟨hnk,d2,fun p hp q hq e=>?_⟩,fun p hp q hq e=>?_⟩⟩
    · simp only [List.mem_append,not_or] at hm n1
      rcases hm with hm | hm | hm
      · exact n1.1 hm
      · exact hbk hm
      · exact n1.2 hm
    · subst e; exact hap p hp (by simp [hq])
    · subst e
      rcases List.mem_append.1 hq with hq | hq
      · exact hap p hq (by simp [hp])
      · exact d3 p hp p hq rfl
  · intro x hx
    change x∈b::(f1++(fk++f2)) at hx
    simp only [List.mem_cons,List.mem_append] at hx
    rcases hx with h | h | h | h
    · exact .inl (by simp [hol,h])
    · exact .inl (by simp [hol,h])
    · exact .inr (.inl h)
    · exact .inl (by simp [hol,h])
theorem Sep.focusL {β:Type}[Rp β] (h:Sep M w0 Δ F w) (i:Nat) {ad n cap} {xs:List (List β)}{fp} (hi:Δ[i]? = some (Wk.mine [.slice ad n cap] xs fp)) (k:Nat) (hk:k<xs.length) :
    ∃ b o T f1 f2 a c fk,ad=some ⟨b,o,none⟩∧Sep M w0 (Δ.set i (hol ad n cap xs k b (o+k*1) T [.slice a (xs.getD k []).length c] f1 f2)++[Wk.mine [.slice a (xs.getD k []).length c] (xs.getD k []) fk]) F w:=by
  obtain ⟨b,o,T,ck,f1,f2,fk,e,hx,H⟩:=h.focus (d:=([]:List β)) i hi k hk
  obtain ⟨a,c,rfl⟩:=ax hx
  exact ⟨b,o,T,f1,f2,a,c,fk,e,H⟩
end
section
variable {P:Program}{n:Nat}{ops:Array Oper}{Q:Post}{L:Env}{w w0:World}{M:Nat→Prop}{Δ F:List Rsc}{d:Tmp}{ty:TypeId}{p:String}{af:Array Edge}{g:Option (Nat × Bool)}{α:Type}[Rp α]
theorem xk {rest:List Oper}{t:TypeId}{x y:Operand}{ad:Option Addr}{m cap k b off:Nat}{xs:List α}{T:TypeId}{ck:List Value}{f1 f2:List Nat}{v:Value}(hw:Wn ops n L ⟨none,.store t x y,ty,p,af,g⟩) (hs:∀ w,(sizeOf t).run P w = .ok 1 w)
    (H:Sep M w0 Δ F w) (i j:Nat) (hi:Δ[i]? = some (hol ad m cap xs k b off T ck f1 f2)) (hj:Nat.blt j ck.length=true) (hx:evL L x=some (.pointer (some ⟨b,off+j,none⟩))) (hy:evL L y=some v) (h1:v.oneCell'=true)
    (kk:∀ w',Sep M w0 (Δ.set i (hol ad m cap xs k b off T (ck.set j v) f1 f2)) F w'→RL P n ops Q rest L w'):RL P n ops Q (⟨none,.store t x y,ty,p,af,g⟩::rest) L w:=by
  obtain ⟨cur,hb,hlt,H'⟩:=H.hset i hi j (Nat.le_of_ble_eq_true hj) v
  exact xu hw rfl (iK hs hx hy h1 hb hlt) (kk _ H')
end
end Go.Wk
namespace Go.Wk
section
variable {P:Program}{n:Nat}{c:Code}{Q:Post}{L:Env}{w w0:World}{M:Nat→Prop}{Δ F:List Rsc}
theorem iA {α:Type}[Rp α] {γ:Type}{v0:Value}{fp0:List Nat}{b T} {cs:List Value}(f:γ→List α) (g0:γ) (H:Sep M w0 Δ F w) (i j q:Nat) (hi:Δ[i]? = some (mine [v0] (f g0) fp0)) (hj:Δ[j]? = some (box b (.cells cs.toArray T))) (hq:cs[q]? = some v0) (hij:Nat.beq j i=false)
  (E2:Env) (h2:sub L E2) (E:γ→Env) (I:γ→Prop) (μ:γ→Nat) (hs:sub L (E g0)) (h0:I g0)
  (round:∀ g v fp w,Sep M w0 ((Δ.set i (mine [v] (f g) fp)).set j (box b (.cells (cs.set q v).toArray T))) F w→I g→W P n c (again (fun x:γ × Value × List Nat=>E x.1++E2) (fun x w'=>Sep M w0 ((Δ.set i (mine [x.2.1] (f x.1) x.2.2)).set j (box b (.cells (cs.set q x.2.1).toArray T))) F w'∧I x.1) (fun x=>μ x.1) (g,v,fp) Q) (E g++E2) w):W P n (.loop c) Q L w:=by
 have hne:i≠j:=fun e=>by subst e; simp at hij
 have e0:(Δ.set i (mine [v0] (f g0) fp0)).set j (box b (.cells (cs.set q v0).toArray T))=Δ:=by
  have ec:cs.set q v0=cs:=by
   apply List.ext_getElem?
   intro l
   rw [List.getElem?_set]
   split
   ·rename_i e; subst e
    obtain ⟨hl,_⟩:=List.getElem?_eq_some_iff.1 hq
    rw [if_pos hl,hq]
   ·rfl
  rw [my hi,ec,my hj]
 exact cp (fun x:γ × Value × List Nat=>E x.1++E2) (fun x w'=>Sep M w0 ((Δ.set i (mine [x.2.1] (f x.1) x.2.2)).set j (box b (.cells (cs.set q x.2.1).toArray T))) F w'∧I x.1) (fun x=>μ x.1) (g0,v0,fp0) (ja hs h2) ⟨by rw [e0]; exact H,h0⟩ fun x w h=>round x.1 x.2.1 x.2.2 w h.1 h.2
theorem Sep.nilW {α:Type}[Rp α] (h:Sep M w0 Δ F w):Sep M w0 (Δ++[Wk.mine [.slice none 0 0] ([]:List α) []]) F w:=
  h.add Ext.refl (r:=Wk.mine [.slice none 0 0] ([]:List α) []) (.inr (.inl ⟨rfl,rfl,rfl⟩)) (by simp [Wk.mine]) (by simp [Wk.mine])
end
end Go.Wk
namespace Go.Wk
open Rp (sz own)
theorem Block.focus {M:Nat→Prop}{w0 w:World}{Δ F:List Rsc}(h:Sep M w0 Δ F w) (i:Nat) {ad n cap} {xs:List Block}{fp} (hi:Δ[i]? = some (mine [.slice ad n cap] xs fp)) (k:Nat) (hk:k<xs.length):∃ b o Ty f1 f2 A1 C1 g1,ad=some ⟨b,o,none⟩∧(xs.getD k default).Ok∧Sep M w0 (Δ.set i (hol ad n cap xs k b (o+k*sz Block) Ty [.int .i64 (xs.getD k default).Stamp,.slice A1 (xs.getD k default).Bytes.length C1] f1 f2)++[gone,mine [.slice A1 (xs.getD k default).Bytes.length C1] (xs.getD k default).Bytes g1]) F w:=by
  obtain ⟨b,o,Ty,ck,f1,f2,fk,e,hx,H⟩:=h.focus (d:=default) i hi k hk
  obtain ⟨A1,C1,g1,rfl,ef,ok,o1⟩:=fM hx
  have H2:=H.partLast [mine [.slice A1 (xs.getD k default).Bytes.length C1] (xs.getD k default).Bytes g1] (aq o1 σ) (by simp [blocks,mine,ef])
  exact ⟨b,o,Ty,f1,f2,A1,C1,g1,e,ok,H2⟩
theorem Block.fill {M:Nat→Prop}{w0 w:World}{Δ F:List Rsc}(h:Sep M w0 Δ F w) (i j1:Nat) {ad n cap k b off Ty f1 f2} {xs:List Block}{s0:Int}{A1 C1 m1} {y1:List UInt8}{g1} (hi:Δ[i]? = some (hol ad n cap xs k b off Ty [.int .i64 s0,.slice A1 m1 C1] f1 f2)) (h1:Δ[j1]? = some (mine [.slice A1 m1 C1] y1 g1)) (d1:Nat.beq j1 i=false)  (ok:(⟨s0,y1⟩:Block).Ok):∃ fp',Sep M w0 ((Δ.set j1 gone).set i (mine [.slice ad n cap] (xs.set k (⟨s0,y1⟩:Block)) fp')) F w:=by
  have o1:=h.mine j1 h1
  obtain rfl:=gg o1
  have n1:j1≠i:=fun e=>by subst e; simp at d1
  have H:=h.conv j1 (mine [.int .i64 s0,.slice A1 y1.length C1] (⟨s0,y1⟩:Block) (g1)) h1 (Block.own_mk ok o1) (fun b hb=>hb) (show (mine [.slice A1 y1.length C1] y1 g1).fp.Nodup from h.nodup1 h1)
  obtain ⟨fp',H2⟩:=H.fill i j1 (by rw [List.getElem?_set_ne n1]; exact hi) (by rw [List.getElem?_set_self (List.getElem?_eq_some_iff.1 h1).1]) d1
  rw [List.set_set] at H2
  exact ⟨fp',H2⟩
theorem Drive.focus {M:Nat→Prop}{w0 w:World}{Δ F:List Rsc}(h:Sep M w0 Δ F w) (i:Nat) {ad n cap} {xs:List Drive}{fp} (hi:Δ[i]? = some (mine [.slice ad n cap] xs fp)) (k:Nat) (hk:k<xs.length):∃ b o Ty f1 f2 A1 C1 g1,ad=some ⟨b,o,none⟩∧(xs.getD k default).Ok∧Sep M w0 (Δ.set i (hol ad n cap xs k b (o+k*sz Drive) Ty [.bool (xs.getD k default).Wiped,.slice A1 (xs.getD k default).Blocks.length C1] f1 f2)++[gone,mine [.slice A1 (xs.getD k default).Blocks.length C1] (xs.getD k default).Blocks g1]) F w:=by
  obtain ⟨b,o,Ty,ck,f1,f2,fk,e,hx,H⟩:=h.focus (d:=default) i hi k hk
  obtain ⟨A1,C1,g1,rfl,ef,ok,o1⟩:=eI hx
  have H2:=H.partLast [mine [.slice A1 (xs.getD k default).Blocks.length C1] (xs.getD k default).Blocks g1] (aq o1 σ) (by simp [blocks,mine,ef])
  exact ⟨b,o,Ty,f1,f2,A1,C1,g1,e,ok,H2⟩
theorem Drive.fill {M:Nat→Prop}{w0 w:World}{Δ F:List Rsc}(h:Sep M w0 Δ F w) (i j1:Nat) {ad n cap k b off Ty f1 f2} {xs:List Drive}{s0:Bool}{A1 C1 m1} {y1:List Block}{g1} (hi:Δ[i]? = some (hol ad n cap xs k b off Ty [.bool s0,.slice A1 m1 C1] f1 f2)) (h1:Δ[j1]? = some (mine [.slice A1 m1 C1] y1 g1)) (d1:Nat.beq j1 i=false)  (ok:(⟨s0,y1⟩:Drive).Ok):∃ fp',Sep M w0 ((Δ.set j1 gone).set i (mine [.slice ad n cap] (xs.set k (⟨s0,y1⟩:Drive)) fp')) F w:=by
  have o1:=h.mine j1 h1
  obtain rfl:=gg o1
  have n1:j1≠i:=fun e=>by subst e; simp at d1
  have H:=h.conv j1 (mine [.bool s0,.slice A1 y1.length C1] (⟨s0,y1⟩:Drive) (g1)) h1 (Drive.own_mk ok o1) (fun b hb=>hb) (show (mine [.slice A1 y1.length C1] y1 g1).fp.Nodup from h.nodup1 h1)
  obtain ⟨fp',H2⟩:=H.fill i j1 (by rw [List.getElem?_set_ne n1]; exact hi) (by rw [List.getElem?_set_self (List.getElem?_eq_some_iff.1 h1).1]) d1
  rw [List.set_set] at H2
  exact ⟨fp',H2⟩
end Go.Wk
namespace Go.Wk
theorem eG {α:Type}{l:List α}{d:α}{i:Nat}(h:i<l.length):l.getD i d=l[i]:=by simp [List.getD,h]
end Go.Wk
namespace Go.Wk
open Rp (sz own)
def OwnW (w:World) (b:Nat) (T:TypeId) (z:Wld) (fp:List Nat):Prop:=
  ∃ A9 C9 A10 C10 A11 C11 f9 f10 f11,w.heap[b]? = some (.cells [.int .i64 z.Shape.Groups,.int .i64 z.Shape.Column,.int .i64 z.Shape.Data,.int .i64 z.Shape.Spare,.int .i64 z.Shape.Rows,.int .i64 z.Shape.Cap,.int .i64 z.Shape.Batch,.int .i64 z.Shape.Queue,.int .i64 z.Shape.Stage,.slice A9 z.Groups.length C9,.slice A10 z.On.length C10,.slice A11 z.Tapes.length C11,.int .i64 z.Writes,.int .i64 z.Stop,.bool z.Down].toArray T)∧own true w [.slice A9 z.Groups.length C9] z.Groups f9∧own true w [.slice A10 z.On.length C10] z.On f10∧own true w [.slice A11 z.Tapes.length C11] z.Tapes f11∧z.Ok∧fp=b::(f9++(f10++f11))
theorem OwnW.st {w w':World}{b T z fp} (h:OwnW w b T z fp) (k:∀ x∈fp,w'.heap[x]? = w.heap[x]?):OwnW w' b T z fp:=by
  obtain ⟨A9,C9,A10,C10,A11,C11,f9,f10,f11,h1,h2,h3,h4,h5,h6⟩:=h
  subst h6
  exact ⟨A9,C9,A10,C10,A11,C11,f9,f10,f11,(k b σ).trans h1,Rp.st h2 fun x hx=>k x (by simp [hx]),Rp.st h3 fun x hx=>k x (by simp [hx]),Rp.st h4 fun x hx=>k x (by simp [hx]),h5,rfl⟩
theorem OwnW.lt {w:World}{b T z fp} (h:OwnW w b T z fp):∀ x∈fp,x<w.heap.size:=by
  obtain ⟨A9,C9,A10,C10,A11,C11,f9,f10,f11,h1,h2,h3,h4,h5,h6⟩:=h
  subst h6
  intro x hx
  simp only [List.mem_cons,List.mem_append] at hx
  rcases hx with rfl | hx | hx | hx
  · exact (Array.getElem?_eq_some_iff.1 h1).1
  · exact Rp.lt h2 x hx
  · exact Rp.lt h3 x hx
  · exact Rp.lt h4 x hx
def wldR (b:Nat) (T:TypeId) (z:Wld) (fp:List Nat):Rsc:=⟨fp,fun w=>OwnW w b T z fp,fun h k=>h.st k,fun h=>h.lt⟩
def MutW (w w':World) (fp:List Nat) (b:Nat) (T:TypeId) (z:Wld):Prop:=
  Ext (· ∈ fp) w w'∧∃ fp',OwnW w' b T z fp'∧fp'.Nodup∧∀ x∈fp',x∈fp∨w.heap.size≤x
section
variable {M:Nat→Prop}{w0 w w':World}{Δ F:List Rsc}{b:Nat}{T:TypeId}{z z':Wld}{fp:List Nat}
theorem Sep.beginW (h:OwnW w b T z fp) (hn:fp.Nodup):Sep (· ∈ fp) w [wldR b T z fp] [] w:=
  ⟨Ext.refl,by simpa [wldR] using h,by simpa [blocks,wldR] using hn,fun b hb => .inl (by simpa [blocks,wldR] using hb),σ,σ⟩
theorem Sep.seeF {α:Type}[Rp α] (h:Sep M w0 [wldR b T z fp] F w) {cs:List Value}{x:α}{f} (hx:own false w cs x f) (hd:∀ b∈f,b ∉ fp):Sep M w0 [wldR b T z fp] (F++[Wk.seen false cs x f]) w:=
  h.look (r:=Wk.seen false cs x f) hx fun b hb hm=>hd b hb (by simpa [blocks,wldR] using hm)
theorem Sep.wldAt (h:Sep M w0 Δ F w) (i:Nat) (hi:Δ[i]? = some (wldR b T z fp)):OwnW w b T z fp:=h.r i hi
theorem Sep.doneW {Δ':List Rsc}{fp0:List Nat}(h:Sep (· ∈ fp0) w0 (wldR b T z fp::Δ') F w):MutW w0 w fp0 b T z:=
  ⟨h.ext,fp,h.r 0 rfl,h.nodup1 (i:=0) rfl,fun x hx=>h.new x (by simp [blocks,wldR,hx])⟩
theorem Sep.mutW (h:Sep M w0 Δ F w) (i:Nat) (hi:Δ[i]? = some (wldR b T z fp)) (m:MutW w w' fp b T z'):∃ fp',Sep M w0 (Δ.set i (wldR b T z' fp')) F w':=by
  obtain ⟨e,fp',h1,h2,h3⟩:=m
  exact ⟨fp',h.set hi (q:=wldR b T z' fp') e h1 h2 h3⟩
theorem Sep.openW (h:Sep M w0 Δ F w) (i:Nat) (hi:Δ[i]? = some (wldR b T z fp)) :
    ∃ A9 C9 A10 C10 A11 C11 f9 f10 f11,z.Ok∧Sep M w0 (Δ.set i (Wk.box b (.cells [.int .i64 z.Shape.Groups,.int .i64 z.Shape.Column,.int .i64 z.Shape.Data,.int .i64 z.Shape.Spare,.int .i64 z.Shape.Rows,.int .i64 z.Shape.Cap,.int .i64 z.Shape.Batch,.int .i64 z.Shape.Queue,.int .i64 z.Shape.Stage,.slice A9 z.Groups.length C9,.slice A10 z.On.length C10,.slice A11 z.Tapes.length C11,.int .i64 z.Writes,.int .i64 z.Stop,.bool z.Down].toArray T))++[gone,Wk.mine [.slice A9 z.Groups.length C9] z.Groups f9,Wk.mine [.slice A10 z.On.length C10] z.On f10,Wk.mine [.slice A11 z.Tapes.length C11] z.Tapes f11]) F w:=by
  obtain ⟨A9,C9,A10,C10,A11,C11,f9,f10,f11,h1,h2,h3,h4,h5,h6⟩:OwnW w b T z fp:=h.r i hi
  have hil:i<Δ.length:=(List.getElem?_eq_some_iff.1 hi).1
  have p1:(Wk.box b (.cells [.int .i64 z.Shape.Groups,.int .i64 z.Shape.Column,.int .i64 z.Shape.Data,.int .i64 z.Shape.Spare,.int .i64 z.Shape.Rows,.int .i64 z.Shape.Cap,.int .i64 z.Shape.Batch,.int .i64 z.Shape.Queue,.int .i64 z.Shape.Stage,.slice A9 z.Groups.length C9,.slice A10 z.On.length C10,.slice A11 z.Tapes.length C11,.int .i64 z.Writes,.int .i64 z.Stop,.bool z.Down].toArray T)).φ w:=h1
  have H2:=h.part i hi [Wk.box b (.cells [.int .i64 z.Shape.Groups,.int .i64 z.Shape.Column,.int .i64 z.Shape.Data,.int .i64 z.Shape.Spare,.int .i64 z.Shape.Rows,.int .i64 z.Shape.Cap,.int .i64 z.Shape.Batch,.int .i64 z.Shape.Queue,.int .i64 z.Shape.Stage,.slice A9 z.Groups.length C9,.slice A10 z.On.length C10,.slice A11 z.Tapes.length C11,.int .i64 z.Writes,.int .i64 z.Stop,.bool z.Down].toArray T),Wk.mine [.slice A9 z.Groups.length C9] z.Groups f9,Wk.mine [.slice A10 z.On.length C10] z.On f10,Wk.mine [.slice A11 z.Tapes.length C11] z.Tapes f11] (aq p1 (aq h2 (aq h3 (aq h4 σ)))) (by simp [blocks,Wk.mine,Wk.box,wldR,h6])
  exact ⟨A9,C9,A10,C10,A11,C11,f9,f10,f11,h5,H2.perm (iJ hil)⟩
theorem Sep.closeW (h:Sep M w0 Δ F w) (i j9 j10 j11:Nat) (z:Wld) {A9 C9 A10 C10 A11 C11 f9 f10 f11 n9 n10 n11} (hi:Δ[i]? = some (Wk.box b (.cells [.int .i64 z.Shape.Groups,.int .i64 z.Shape.Column,.int .i64 z.Shape.Data,.int .i64 z.Shape.Spare,.int .i64 z.Shape.Rows,.int .i64 z.Shape.Cap,.int .i64 z.Shape.Batch,.int .i64 z.Shape.Queue,.int .i64 z.Shape.Stage,.slice A9 n9 C9,.slice A10 n10 C10,.slice A11 n11 C11,.int .i64 z.Writes,.int .i64 z.Stop,.bool z.Down].toArray T))) (h9:Δ[j9]? = some (Wk.mine [.slice A9 n9 C9] z.Groups f9)) (h10:Δ[j10]? = some (Wk.mine [.slice A10 n10 C10] z.On f10)) (h11:Δ[j11]? = some (Wk.mine [.slice A11 n11 C11] z.Tapes f11))
    (d1:Nat.beq j9 i=false) (d2:Nat.beq j10 i=false) (d3:Nat.beq j11 i=false) (d4:Nat.beq j10 j9=false) (d5:Nat.beq j11 j9=false) (d6:Nat.beq j11 j10=false) (ok:z.Ok) :
    ∃ fp,Sep M w0 ((((Δ.set j11 gone).set j10 gone).set j9 gone).set i (wldR b T z fp)) F w:=by
  obtain rfl:=gg (h.mine j9 h9)
  obtain rfl:=gg (h.mine j10 h10)
  obtain rfl:=gg (h.mine j11 h11)
  have n1:j9≠i:=fun e=>by subst e; simp at d1
  have n2:j10≠i:=fun e=>by subst e; simp at d2
  have n3:j11≠i:=fun e=>by subst e; simp at d3
  have n4:j10≠j9:=fun e=>by subst e; simp at d4
  have n5:j11≠j9:=fun e=>by subst e; simp at d5
  have n6:j11≠j10:=fun e=>by subst e; simp at d6
  have g:∀ {L:List Rsc}{k:Nat}{a r:Rsc},L[k]? = some r→(L.set k a)[k]? = some a:=fun h=>List.getElem?_set_self (List.getElem?_eq_some_iff.1 h).1
  have H1:=h.join2 j10 j11 h10 h11 d6
  have a10:((Δ.set j11 gone).set j10 (cat (Wk.mine [.slice A10 z.On.length C10] z.On f10) (Wk.mine [.slice A11 z.Tapes.length C11] z.Tapes f11)))[j10]? = some (cat (Wk.mine [.slice A10 z.On.length C10] z.On f10) (Wk.mine [.slice A11 z.Tapes.length C11] z.Tapes f11)):=g (r:=Wk.mine [.slice A10 z.On.length C10] z.On f10) (by rw [List.getElem?_set_ne n6]; exact h10)
  have a9:((Δ.set j11 gone).set j10 (cat (Wk.mine [.slice A10 z.On.length C10] z.On f10) (Wk.mine [.slice A11 z.Tapes.length C11] z.Tapes f11)))[j9]? = some (Wk.mine [.slice A9 z.Groups.length C9] z.Groups f9):=by rw [List.getElem?_set_ne n4,List.getElem?_set_ne n5]; exact h9
  have H2:=H1.join2 j9 j10 a9 a10 d4
  rw [List.set_set] at H2
  have ai:((((Δ.set j11 gone).set j10 gone).set j9 (cat (Wk.mine [.slice A9 z.Groups.length C9] z.Groups f9) (cat (Wk.mine [.slice A10 z.On.length C10] z.On f10) (Wk.mine [.slice A11 z.Tapes.length C11] z.Tapes f11)))))[i]? = some (Wk.box b (.cells [.int .i64 z.Shape.Groups,.int .i64 z.Shape.Column,.int .i64 z.Shape.Data,.int .i64 z.Shape.Spare,.int .i64 z.Shape.Rows,.int .i64 z.Shape.Cap,.int .i64 z.Shape.Batch,.int .i64 z.Shape.Queue,.int .i64 z.Shape.Stage,.slice A9 z.Groups.length C9,.slice A10 z.On.length C10,.slice A11 z.Tapes.length C11,.int .i64 z.Writes,.int .i64 z.Stop,.bool z.Down].toArray T)):=by rw [List.getElem?_set_ne n1,List.getElem?_set_ne n2,List.getElem?_set_ne n3]; exact hi
  have b9:((((Δ.set j11 gone).set j10 gone).set j9 (cat (Wk.mine [.slice A9 z.Groups.length C9] z.Groups f9) (cat (Wk.mine [.slice A10 z.On.length C10] z.On f10) (Wk.mine [.slice A11 z.Tapes.length C11] z.Tapes f11)))))[j9]? = some (cat (Wk.mine [.slice A9 z.Groups.length C9] z.Groups f9) (cat (Wk.mine [.slice A10 z.On.length C10] z.On f10) (Wk.mine [.slice A11 z.Tapes.length C11] z.Tapes f11))):=g (r:=Wk.mine [.slice A9 z.Groups.length C9] z.Groups f9) (by rw [List.getElem?_set_ne n4,List.getElem?_set_ne n5]; exact h9)
  have H3:=H2.join2 i j9 ai b9 d1
  rw [List.set_set] at H3
  obtain ⟨q1,q2,q3,q4⟩:(cat (Wk.box b (.cells [.int .i64 z.Shape.Groups,.int .i64 z.Shape.Column,.int .i64 z.Shape.Data,.int .i64 z.Shape.Spare,.int .i64 z.Shape.Rows,.int .i64 z.Shape.Cap,.int .i64 z.Shape.Batch,.int .i64 z.Shape.Queue,.int .i64 z.Shape.Stage,.slice A9 z.Groups.length C9,.slice A10 z.On.length C10,.slice A11 z.Tapes.length C11,.int .i64 z.Writes,.int .i64 z.Stop,.bool z.Down].toArray T)) (cat (Wk.mine [.slice A9 z.Groups.length C9] z.Groups f9) (cat (Wk.mine [.slice A10 z.On.length C10] z.On f10) (Wk.mine [.slice A11 z.Tapes.length C11] z.Tapes f11)))).φ w:=H3.r i (g (r:=Wk.box b (.cells [.int .i64 z.Shape.Groups,.int .i64 z.Shape.Column,.int .i64 z.Shape.Data,.int .i64 z.Shape.Spare,.int .i64 z.Shape.Rows,.int .i64 z.Shape.Cap,.int .i64 z.Shape.Batch,.int .i64 z.Shape.Queue,.int .i64 z.Shape.Stage,.slice A9 z.Groups.length C9,.slice A10 z.On.length C10,.slice A11 z.Tapes.length C11,.int .i64 z.Writes,.int .i64 z.Stop,.bool z.Down].toArray T)) (by rw [List.getElem?_set_ne n1,List.getElem?_set_ne n2,List.getElem?_set_ne n3]; exact hi))
  have hg:=g (a:=cat (Wk.box b (.cells [.int .i64 z.Shape.Groups,.int .i64 z.Shape.Column,.int .i64 z.Shape.Data,.int .i64 z.Shape.Spare,.int .i64 z.Shape.Rows,.int .i64 z.Shape.Cap,.int .i64 z.Shape.Batch,.int .i64 z.Shape.Queue,.int .i64 z.Shape.Stage,.slice A9 z.Groups.length C9,.slice A10 z.On.length C10,.slice A11 z.Tapes.length C11,.int .i64 z.Writes,.int .i64 z.Stop,.bool z.Down].toArray T)) (cat (Wk.mine [.slice A9 z.Groups.length C9] z.Groups f9) (cat (Wk.mine [.slice A10 z.On.length C10] z.On f10) (Wk.mine [.slice A11 z.Tapes.length C11] z.Tapes f11)))) (r:=Wk.box b (.cells [.int .i64 z.Shape.Groups,.int .i64 z.Shape.Column,.int .i64 z.Shape.Data,.int .i64 z.Shape.Spare,.int .i64 z.Shape.Rows,.int .i64 z.Shape.Cap,.int .i64 z.Shape.Batch,.int .i64 z.Shape.Queue,.int .i64 z.Shape.Stage,.slice A9 z.Groups.length C9,.slice A10 z.On.length C10,.slice A11 z.Tapes.length C11,.int .i64 z.Writes,.int .i64 z.Stop,.bool z.Down].toArray T)) (L:=((Δ.set j11 gone).set j10 gone).set j9 gone) (k:=i) (by rw [List.getElem?_set_ne n1,List.getElem?_set_ne n2,List.getElem?_set_ne n3]; exact hi)
  have hn:=H3.nodup1 hg
  have H4:=H3.conv i (wldR b T z (b::(f9++(f10++f11)))) hg ⟨A9,C9,A10,C10,A11,C11,f9,f10,f11,q1,q2,q3,q4,ok,rfl⟩ (fun x hx=>hx) hn
  rw [List.set_set] at H4
  exact ⟨_,H4⟩
end
section
variable {M:Nat→Prop}{w0 w w1 w2:World}{Δ F:List Rsc}
theorem Sep.inB (_:Sep M w0 Δ F w) (i:Nat) {r:Rsc}(hi:Δ[i]? = some r) {b:Nat}(hb:b∈r.fp):b∈blocks Δ:=bx.2 ⟨r,List.mem_of_getElem? hi,hb⟩
end
end Go.Wk
namespace Go.Wk
open Rp (sz own)
def cd (z:Wld):Bool:=decide (z.Stop ≠ -1) && decide (z.Stop≤z.Writes)
def uv (z:Wld):Wld:=⟨z.Shape,z.Groups,[],z.Tapes,z.Writes,z.Stop,true⟩
def gE (z:Wld):Wld:=⟨z.Shape,z.Groups,z.On,z.Tapes,z.Writes+1,z.Stop,z.Down⟩
def qg (z:Wld) (y:Wld):Wld:=if cd z=true then uv z else gE y
theorem jZ {z y:Wld}(h:cd z=true):qg z y=uv z:=if_pos h
theorem ik {z y:Wld}(h:cd z=false):qg z y=gE y:=if_neg (by simp [h])
def noWld:Wld:=⟨⟨0,0,0,0,0,0,0,0,0⟩,[],[],[],0,0,false⟩
end Go.Wk
namespace Go.Wk
open Rp (sz own)
theorem eL {α:Type}{xs:List α}{k:Nat}{d:α}(h:k<xs.length):xs.take k++[xs.getD k d]=xs.take (k+1):=by
  rw [eG h]; exact List.take_append_getElem h
theorem iI {w:Wld}(h:di w=0):0≤w.Writes∧w.Writes≤1000000000 ∧ -1≤w.Stop∧w.Stop≤1000000000:=by
  unfold di at h
  split at h
  · rename_i h1; exact absurd h h1
  · split at h
    · split at h
      · rename_i h1; exact absurd h h1
      · split at h
        · rename_i h1
          simp only [Bool.and_eq_true,bD] at h1
          omega
        · omega
    · omega
theorem Sep.asSt {α β:Type}[Rp α] [Rp β] {M:Nat→Prop}{w0 w:World}{Δ F:List Rsc}(h:Sep M w0 Δ F w) (i:Nat) {cs cs':List Value}{x:α}(y:β) {fp:List Nat}(hi:Δ[i]? = some (Wk.mine cs x fp)) (hq:own true w cs' y fp):Sep M w0 (Δ.set i (Wk.mine cs' y fp)) F w:=
  have hn:=h.nodup1 hi
  h.conv i (Wk.mine cs' y fp) hi hq (fun b hb=>hb) hn
section
variable {P:Program}{n:Nat}{ops:Array Oper}{Q:Post}{L:Env}{S:World→Prop}{w w0:World}{M:Nat→Prop}{Δ F:List Rsc}{ty:TypeId}{p:String}{af:Array Edge}{g:Option (Nat × Bool)}{i:Nat}{rest:List (Nat × Bool)}
theorem bU {t:TypeId}{x y:Operand}{b off sz:Nat}{cs:List Value}{T} {vs:List Value}(ho:ops.toList[i]? = some ⟨none,.store t x y,ty,p,af,g⟩) (hw:Wn ops n L ⟨none,.store t x y,ty,p,af,g⟩) (hs:∀ w,(sizeOf t).run P w = .ok sz w) (hx:evL L x=some (.pointer (some ⟨b,off,none⟩))) (hy:evL L y=some (.agg vs.toArray))
    (hl:vs.length=sz) (h1:pa vs=true) (H:Sep M w0 Δ F w) (j:Nat) (hi:Δ[j]? = some (Wk.box b (.cells cs.toArray T))) (hf:Nat.ble (off+sz) cs.length=true) (hS:∀ w',S w→Ext (· = b) w w'→rest≠[]→S w')
    (k:∀ w',Ext (· = b) w w'→Sep M w0 (Δ.set j (Wk.box b (.cells (aC cs off vs).toArray T))) F w'→DL P n ops Q S rest L w') :
    DL P n ops Q S ((i,false)::rest) L w:=by
  have hf':=Nat.le_of_ble_eq_true hf
  have h:=k _ (Ext.refl.put (.inl rfl)) (H.put j _ hi)
  rw [← pE (by rw [hl]; exact hf')] at h
  exact wN ho hw rfl (ll hs hx hy hl (lj h1) (H.box j hi) (by simpa using hf')) (fun hSw hr=>hS _ hSw (Ext.refl.put (.inl rfl)) hr) h
end
end Go.Wk
namespace Go.Wk
open Rp (sz own)
section
variable {M:Nat→Prop}{w0 w w1 w2:World}{Δ F:List Rsc}{b:Nat}{T:TypeId}{z:Wld}{fp fp1:List Nat}
theorem Sep.boxFar (h:Sep M w0 Δ F w) (i j:Nat) {c:Nat}{o:Obj}(hi:Δ[i]? = some (wldR b T z fp)) (hj:Δ[j]? = some (Wk.box c o)) (hij:Nat.beq j i=false) (s1:∀ x∈fp1,x∈fp∨w.heap.size≤x) (e1:Ext (· ∈ fp) w w1) :
    w1.heap[c]? = some o∧c ∉ fp1:=by
  have hb:w.heap[c]? = some o:=h.r j hj
  have hn:c ∉ fp:=h.apart (i:=i) (j:=j) hi hj hij c (by simp [Wk.box])
  exact ⟨e1.heapM hn hb,fun hm=>(s1 c hm).elim hn fun hg=>by have:=(Array.getElem?_eq_some_iff.1 hb).1; omega⟩
theorem Sep.seeFar {α:Type}[Rp α] (h:Sep M w0 Δ F w) (i j:Nat) {s:Bool}{cs:List Value}{x:α}{f:List Nat}(hi:Δ[i]? = some (wldR b T z fp)) (hj:F[j]? = some (Wk.seen s cs x f)) (s1:∀ x∈fp1,x∈fp∨w.heap.size≤x) (e1:Ext (· ∈ fp) w w1) :
    own false w1 cs x f∧∀ b∈f,b ∉ fp1:=by
  have hx:own s w cs x f:=h.fs _ (List.mem_of_getElem? hj)
  have hn:∀ b∈f,b ∉ fp:=fun b hb hm=>h.ap _ (List.mem_of_getElem? hj) b hb (h.inB i hi hm)
  have hl:=Rp.lt hx
  exact ⟨am (Rp.st hx fun b hb=>e1.block b (hl b hb) (hn b hb)),fun b hb hm=>(s1 b hm).elim (hn b hb) fun hg=>by have:=hl b hb; omega⟩
theorem Sep.boxF (h:Sep M w0 [wldR b T z fp] F w) {c:Nat}{o:Obj}(hb:w.heap[c]? = some o) (hd:c ∉ fp):Sep M w0 [wldR b T z fp] (F++[Wk.box c o]) w:=
  h.look (r:=Wk.box c o) hb fun x hx hm=>by
    rw [show x=c by simpa [Wk.box] using hx] at hm
    exact hd (by simpa [blocks,wldR] using hm)
def Sep.S2 {M:Nat→Prop}{w0 w:World}{Δ F:List Rsc}(_:Sep M w0 Δ F w) (i j:Nat):World→Prop:=Ext (fun b=>b∈(Δ.getD i gone).fp∨b∈(Δ.getD j gone).fp) w
theorem go {r d:Rsc}{i:Nat}(h:Δ[i]? = some r):Δ.getD i d=r:=by simp [List.getD,h]
theorem Sep.s2Call (h:Sep M w0 Δ F w) {i j:Nat}(hS:h.S2 i j w1) (e:Ext No w1 w2):h.S2 i j w2:=Ext.trans hS e.no
theorem Sep.s2In (h:Sep M w0 Δ F w) {i j:Nat}(hS:h.S2 i j w1) (k:Nat) {r:Rsc}(hk:Δ[k]? = some r) (hij:k=i∨k=j) {N:Nat→Prop}(e:Ext N w1 w2) (hN:∀ b,N b→b∈r.fp):h.S2 i j w2:=
  Ext.step hS e fun b hb => .inl (by
    rcases hij with rfl | rfl
    · exact .inl (by rw [go hk]; exact hN b hb)
    · exact .inr (by rw [go hk]; exact hN b hb))
theorem Sep.s2FBox (h:Sep M w0 Δ F w) {i j:Nat}(hx:h.S2 i j w1) (k:Nat) {c:Nat}{o:Obj}(hk:F[k]? = some (Wk.box c o)) {ri rj:Rsc}(hi:Δ[i]? = some ri) (hj:Δ[j]? = some rj):w1.heap[c]? = some o:=
  Ext.heapM hx (fun hm=>h.ap _ (List.mem_of_getElem? hk) c (by simp [Wk.box]) (by
    rcases hm with hm | hm
    · rw [go hi] at hm; exact h.inB i hi hm
    · rw [go hj] at hm; exact h.inB j hj hm)) (h.fs _ (List.mem_of_getElem? hk))
theorem Sep.s2Box (h:Sep M w0 Δ F w) {i j:Nat}(hx:h.S2 i j w1) (k:Nat) {c:Nat}{o:Obj}(hk:Δ[k]? = some (Wk.box c o)) {ri rj:Rsc}(hi:Δ[i]? = some ri) (hj:Δ[j]? = some rj) (d1:Nat.beq k i=false) (d2:Nat.beq k j=false):w1.heap[c]? = some o:=
  Ext.heapM hx (fun hm=>by
    rcases hm with hm | hm
    · rw [go hi] at hm; exact h.apart (i:=i) (j:=k) hi hk d1 c (by simp [Wk.box]) hm
    · rw [go hj] at hm; exact h.apart (i:=j) (j:=k) hj hk d2 c (by simp [Wk.box]) hm) (h.r k hk)
end
section
variable {P:Program}{n:Nat}{ops:Array Oper}{Q:Post}{L:Env}{S:World→Prop}{w w0:World}{M:Nat→Prop}{Δ F:List Rsc}{ty:TypeId}{p:String}{af:Array Edge}{g:Option (Nat × Bool)}{α:Type}[Rp α] {i:Nat}{rest:List (Nat × Bool)}
theorem kS {t:TypeId}{x y:Operand}{ad:Option Addr}{m cap k b off:Nat}{xs:List α}{T:TypeId}{ck:List Value}{f1 f2:List Nat}{v:Value}(ho:ops.toList[i]? = some ⟨none,.store t x y,ty,p,af,g⟩) (hw:Wn ops n L ⟨none,.store t x y,ty,p,af,g⟩) (hs:∀ w,(sizeOf t).run P w = .ok 1 w)
    (H:Sep M w0 Δ F w) (j q:Nat) (hi:Δ[j]? = some (hol ad m cap xs k b off T ck f1 f2)) (hj:Nat.blt q ck.length=true) (hx:evL L x=some (.pointer (some ⟨b,off+q,none⟩))) (hy:evL L y=some v) (h1:v.oneCell'=true) (hS:∀ w',S w→Ext (· = b) w w'→rest≠[]→S w')
    (kk:∀ w',Sep M w0 (Δ.set j (hol ad m cap xs k b off T (ck.set q v) f1 f2)) F w'→DL P n ops Q S rest L w'):DL P n ops Q S ((i,false)::rest) L w:=by
  obtain ⟨cur,hb,hlt,H'⟩:=H.hset j hi q (Nat.le_of_ble_eq_true hj) v
  exact wN ho hw rfl (iK hs hx hy h1 hb hlt) (fun hSw hr=>hS _ hSw (Ext.refl.put (.inl rfl)) hr) (kk _ H')
end
theorem vu {z:Wld}(h:z.Ok):(uv z).Ok:=h
theorem mV {z:Wld}(h:z.Ok) (h2:z.Writes≤2000000000):(gE z).Ok:=by
  refine ⟨h.1,?_,h.2.2⟩
  have h3:=h.2.1
  show I64ok (z.Writes+1)
  unfold I64ok at h3 ⊢; omega
theorem nP {z:Wld}(h:¬ z.Stop = -1) (h2:z.Writes ≥ z.Stop):cd z=true:=by
  unfold cd; simp only [Bool.and_eq_true,decide_eq_true_eq]; exact ⟨h,h2⟩
theorem kn {z:Wld}(h:z.Stop = -1∨¬ z.Writes ≥ z.Stop):cd z=false:=by
  unfold cd; simp only [Bool.and_eq_false_iff,decide_eq_false_iff_not]
  rcases h with h | h
  · exact .inl (by simp [h])
  · exact .inr ω
end Go.Wk
namespace Go.Wk
open Rp (sz own)
theorem sm {z:Wld}(h:di z=0):z.Shape.fault=0:=by
  unfold di at h
  split at h
  · rename_i h1; exact absurd h h1
  · rename_i h1; omega
theorem wR:noWld.Ok:=by unfold Wld.Ok Shape.Ok I64ok noWld; dsimp only; omega
theorem fI {w w':World}{c:Int}(h:I64ok c):Res w w' [.int .i64 c,.int .i64 0,.int .i64 0,.int .i64 0,.int .i64 0,.int .i64 0,.int .i64 0,.int .i64 0,.int .i64 0,.int .i64 0,.slice none 0 0,.slice none 0 0,.slice none 0 0,.int .i64 0,.int .i64 0,.bool false] (⟨c,noWld⟩:WldResult):=
  ⟨_,WldResult.own_mk (x:=⟨c,noWld⟩) ⟨h,wR⟩ (.inr (.inl ⟨rfl,rfl,rfl⟩)) (.inr (.inl ⟨rfl,rfl,rfl⟩)) (.inr (.inl ⟨rfl,rfl,rfl⟩)),List.nodup_nil,σ⟩
section
variable {P:Program}{n:Nat}{ops:Array Oper}{Q:Post}{L:Env}{S:World→Prop}{w w0:World}{M:Nat→Prop}{Δ F:List Rsc}{d:Nat}{ty:TypeId}{p:String}{af:Array Edge}{g:Option (Nat × Bool)}{i:Nat}{rest:List (Nat × Bool)}
theorem jo {t:TypeId}{z:Value}(ho:ops.toList[i]? = some ⟨some d,.alloc t,ty,p,af,g⟩) (hw:Wn ops n L ⟨some d,.alloc t,ty,p,af,g⟩) (hn:Nat.blt d n=true) (hz:∀ w,(zeroValue t).run P w = .ok z w) (H:Sep M w0 Δ F w) (hS:∀ w',S w→Ext No w w'→S w')
    (k:∀ b w',Ext No w w'→w.heap.size≤b→Sep M w0 (Δ++[box b (.cells z.cells t)]) F w'→DL P n ops Q S rest ((d,.pointer (some ⟨b,0,none⟩))::L) w'):DL P n ops Q S ((i,false)::rest) L w:=
  vn (v:=fun b => .pointer (some ⟨b,0,none⟩)) ho hw rfl hn (rV hz) H hS k
end
end Go.Wk
namespace Go.Wk
open Go.Proofs Rp Go.Proofs.Tryz
set_option maxRecDepth 10000
theorem cX {w:World}{xs:List Int}{xsA:Option Addr}{xsC:Nat}(xsS:Sees w [.slice xsA xs.length xsC] xs) (hl:xs.length≤100000000):Ret Tryz.prog 104 #[.slice xsA xs.length xsC] w fun v w'=>Ext No w w'∧(Res w w' [v] xs):=by
 have xsL:=sL xsS;obtain ⟨xsF,xsO⟩:=xsS;refine aV func104 Z ntmps104 Z (fun Q hQ hN=>?_);have H0:=Sep.start (an xsO aP);refine ah (sA Z Z (aa (ag (ah (sM Z Z (sV Z (oU bn Z Z) (aa (cI Z (fun c1=>?_) (fun c1=>?_)))))))))
 ·refine ah (rA hQ results104 Z ?_);have e:xs=[]:=pS xsO c1;exact ⟨H0.ext,e ▸ ⟨[],.inr (.inl ⟨Z,Z,Z⟩),.nil,σ⟩⟩
 ·refine ar (ah (ew (α:=Int) ae Z bn bg H0 (fun b1 w1 e1 g1 H1=>sM Z Z (iX ae Z bn bg Z Z Z H1 0 Z (H1.seen 0 Z) (by (try simp only [List.length_nil]); unfold maxLen; omega) (by (try simp only [List.length_nil]); omega) (fun v1 w2 fp1 H2=>rA hQ results104 Z ?_)))))
  exact ⟨H2.ext,by
   have h:=H2.out 0 Z
   rwa [List.nil_append] at h⟩
theorem bb {w:World}{xs:List UInt8}{xsA:Option Addr}{xsC:Nat}(xsS:Sees w [.slice xsA xs.length xsC] xs) (hl:xs.length≤100000000):Ret Tryz.prog 190 #[.slice xsA xs.length xsC] w fun v w'=>Ext No w w'∧(Res w w' [v] xs):=by
 have xsL:=sL xsS;obtain ⟨xsF,xsO⟩:=xsS;refine aV func190 Z ntmps190 Z (fun Q hQ hN=>?_);have H0:=Sep.start (an xsO aP);refine ah (sA Z Z (aa (ag (ah (sM Z Z (sV Z (oU bc Z Z) (aa (cI Z (fun c1=>?_) (fun c1=>?_)))))))))
 ·refine ah (rA hQ results190 Z ?_);have e:xs=[]:=pS xsO c1;exact ⟨H0.ext,e ▸ ⟨[],.inr (.inl ⟨Z,Z,Z⟩),.nil,σ⟩⟩
 ·refine ar (ah (ew (α:=UInt8) ae Z bc bW H0 (fun b1 w1 e1 g1 H1=>sM Z Z (iX ae Z bc bW Z Z Z H1 0 Z (H1.seen 0 Z) (by (try simp only [List.length_nil]); unfold maxLen; omega) (by (try simp only [List.length_nil]); omega) (fun v1 w2 fp1 H2=>rA hQ results190 Z ?_)))))
  exact ⟨H2.ext,by
   have h:=H2.out 0 Z
   rwa [List.nil_append] at h⟩
theorem lY {w:World}{r:Rec}{rA6 rA7 rA8:Option Addr}{rC6 rC7 rC8:Nat}(rK:r.Ok) (rS6:Sees w [.slice rA6 r.Rows.length rC6] r.Rows) (rS7:Sees w [.slice rA7 r.Data.length rC7] r.Data) (rS8:Sees w [.slice rA8 r.Delta.length rC8] r.Delta) (hb:oa r≤1048576):Ret Tryz.prog 150 #[r.val rA6 rC6 rA7 rC7 rA8 rC8] w fun v w'=>Ext No w w'∧(∃ A6 C6 A7 C7 A8 C8,v=r.val A6 C6 A7 C7 A8 C8∧Res w w' [.int .i64 r.Kind,.int .i64 r.Seq,.string r.Name,.int .i64 r.Length,.int .i64 r.Group,.int .i64 r.Row,.slice A6 r.Rows.length C6,.slice A7 r.Data.length C7,.slice A8 r.Delta.length C8] r):=by
 have rK2:=rK;unfold Rec.Ok at rK2
 try unfold I64ok at rK2
 try unfold maxLen at rK2
 have rN2:r.Name.size≤maxLen:=by unfold maxLen; omega
 have rL6:=sL rS6;obtain ⟨rF6,rO6⟩:=rS6;have rL7:=sL rS7;obtain ⟨rF7,rO7⟩:=rS7;have rL8:=sL rS8;obtain ⟨rF8,rO8⟩:=rS8;unfold oa at hb;refine aV func150 Z ntmps150 Z (fun Q hQ hN=>?_);have H0:=Sep.start (an rO6 (an rO7 (an rO8 aP)));refine ah (bE ae Z Z H0 (fun b1 w1 e1 g1 H1=>bQ ae Z zeroValue47 H1 (fun b2 w2 e2 g2 H2=>aa (ag (bv (S:=Ext (· ∈ [b1]) _) (oQ [1,7,13,2178,2,2064,4,2040,8,2018,10,14,19,16,20,23,24,27,28,14,19,10,16,20,23,24,27,28,14,8,19,10,16,20,23,24,27,28,2064,8,2040,4,2018,10,14,19,16,20,23,24,27,28,14,19,10,16,20,23,24,27,28,14,4,19,10,16,20,23,24,27,28,14,2020,4,8,19,10,16,20,23,24,27,28,8,4,19,10,16,20,23,24,27,28,2090,8,2064,2,2040,4,2018,10,14,19,16,20,23,24,27,28,14,19,10,16,20,23,24,27,28,14,4,19,10,16,20,23,24,27,28,14,2,4,19,10,16,20,23,24,27,28,14,2044,2,2020,4,8,19,10,16,20,23,24,27,28,8,4,19,10,16,20,23,24,27,28,8,2,4,19,10,16,20,23,24,27,28]) κ κ κ Z (fun _=>Ext.refl.drawn _) (fun q1=>?_))))));have H3:=H2.drawn q1;refine dV Z Z (fun zw hx=>ab az Z bH Z Z) (dV Z Z (fun zw hx=>ab az Z bf Z Z) (dV Z Z (fun zw hx=>ab az Z bf Z Z) (dF Z ?_ ?_)))
 ·refine bh Z ae Z Z (ac bn Z Z (ak (H3.box 0 Z) Z)) (dF Z ?_ ?_)
  ·refine dC func104 dO Z (cX (H3.sees 0 Z) ω) (fun v1 w3 r1=>?_);obtain ⟨e3,r1⟩:=r1;obtain ⟨fp1,H4⟩:=H3.res e3 r1;obtain ⟨a1,k1,q2⟩:=ax (H4.mine 2 Z);cases q2;refine dF Z ?_ ?_
   ·refine bh Z ae Z Z (ac bc Z Z (ak (H4.box 0 Z) Z)) (dF Z ?_ ?_)
    ·refine dC func190 bt Z (bb (H4.sees 1 Z) ω) (fun v2 w4 r2=>?_);obtain ⟨e4,r2⟩:=r2;obtain ⟨fp2,H5⟩:=H4.res e4 r2;obtain ⟨a2,k2,q3⟩:=ax (H5.mine 3 Z);cases q3;refine bh Z ae Z Z (ac bc Z Z (ak (H5.box 0 Z) Z)) (dV Z Z (fun zw hx=>ab az Z bH Z Z) (dC func190 bt Z (bb (H5.sees 2 Z) ω) (fun v3 w5 r3=>?_)));obtain ⟨e5,r3⟩:=r3;obtain ⟨fp3,H6⟩:=H5.res e5 r3;obtain ⟨a3,k3,q4⟩:=ax (H6.mine 4 Z);cases q4;refine bR Z ae bH Z Z Z H6 0 Z Z (fun _ h e _=>h.trans (e.mono fun _ _ q=>by simp [q])) (fun w6 e6 H7=>?_);dsimp only[lNA,lCA,lSZ,lSS,aC] at H7;refine dV Z Z (fun zw hx=>ab az Z bf Z Z) (bR Z ae bf Z Z Z H7 0 Z Z (fun _ h e _=>h.trans (e.mono fun _ _ q=>by simp [q])) (fun w7 e7 H8=>?_));dsimp only[lNA,lCA,lSZ,lSS,aC] at H8;refine dV Z Z (fun zw hx=>ab az Z bf Z Z) (bR Z ae bf Z Z Z H8 0 Z Z (fun _ h e _=>h.trans (e.mono fun _ _ q=>by simp [q])) (fun w8 e8 H9=>?_));dsimp only[lNA,lCA,lSZ,lSS,aC] at H9;refine aS (ah (sV Z (aj az Z aW Z Z (At.whole (H9.box 0 Z))) (aO ae aW Z Z Z Z H9 1 Z Z (fun w9 e9 H10=>?_))));dsimp only[lNA,lCA,lSZ,lSS,aC] at H10;refine aa (bl (hQ _ _ (cq results150 Z (au az Z aW Z (At.whole (H10.box 1 Z))) ?_)));exact ⟨H10.ext,_,_,_,_,_,_,Z,Rec.out (H10.sub (.cons _ (.cons _ (.cons_cons _ (.cons_cons _ (.cons_cons _ List.Sublist.slnil)))))) η⟩
    ·refine bh Z ae Z Z (ac bc Z Z (ak (H4.box 0 Z) Z)) (dV Z Z (fun zw hx=>ab az Z bH Z Z) (dC func190 bt Z (bb (H4.sees 1 Z) ω) (fun v4 w10 r4=>?_)));obtain ⟨e10,r4⟩:=r4;obtain ⟨fp4,H11⟩:=H4.res e10 r4;obtain ⟨a4,k4,q5⟩:=ax (H11.mine 3 Z);cases q5;refine dC func190 bt Z (bb (H11.sees 2 Z) ω) (fun v5 w11 r5=>?_);obtain ⟨e11,r5⟩:=r5;obtain ⟨fp5,H12⟩:=H11.res e11 r5;obtain ⟨a5,k5,q6⟩:=ax (H12.mine 4 Z);cases q6;refine bR Z ae bH Z Z Z H12 0 Z Z (fun _ h e _=>h.trans (e.mono fun _ _ q=>by simp [q])) (fun w12 e12 H13=>?_);dsimp only[lNA,lCA,lSZ,lSS,aC] at H13;refine dV Z Z (fun zw hx=>ab az Z bf Z Z) (bR Z ae bf Z Z Z H13 0 Z Z (fun _ h e _=>h.trans (e.mono fun _ _ q=>by simp [q])) (fun w13 e13 H14=>?_));dsimp only[lNA,lCA,lSZ,lSS,aC] at H14;refine dV Z Z (fun zw hx=>ab az Z bf Z Z) (bR Z ae bf Z Z Z H14 0 Z Z (fun _ h e _=>h.trans (e.mono fun _ _ q=>by simp [q])) (fun w14 e14 H15=>?_));dsimp only[lNA,lCA,lSZ,lSS,aC] at H15;refine aS (ah (sV Z (aj az Z aW Z Z (At.whole (H15.box 0 Z))) (aO ae aW Z Z Z Z H15 1 Z Z (fun w15 e15 H16=>?_))));dsimp only[lNA,lCA,lSZ,lSS,aC] at H16;refine aa (bl (hQ _ _ (cq results150 Z (au az Z aW Z (At.whole (H16.box 1 Z))) ?_)));exact ⟨H16.ext,_,_,_,_,_,_,Z,Rec.out (H16.sub (.cons _ (.cons _ (.cons_cons _ (.cons_cons _ (.cons_cons _ List.Sublist.slnil)))))) η⟩
   ·refine bh Z ae Z Z (ac bc Z Z (ak (H4.box 0 Z) Z)) (bh Z ae Z Z (ac bc Z Z (ak (H4.box 0 Z) Z)) (dV Z Z (fun zw hx=>ab az Z bH Z Z) (dC func190 bt Z (bb (H4.sees 1 Z) ω) (fun v6 w16 r6=>?_))));obtain ⟨e16,r6⟩:=r6;obtain ⟨fp6,H17⟩:=H4.res e16 r6;obtain ⟨a6,k6,q7⟩:=ax (H17.mine 3 Z);cases q7;refine dC func190 bt Z (bb (H17.sees 2 Z) ω) (fun v7 w17 r7=>?_);obtain ⟨e17,r7⟩:=r7;obtain ⟨fp7,H18⟩:=H17.res e17 r7;obtain ⟨a7,k7,q8⟩:=ax (H18.mine 4 Z);cases q8;refine bR Z ae bH Z Z Z H18 0 Z Z (fun _ h e _=>h.trans (e.mono fun _ _ q=>by simp [q])) (fun w18 e18 H19=>?_);dsimp only[lNA,lCA,lSZ,lSS,aC] at H19;refine dV Z Z (fun zw hx=>ab az Z bf Z Z) (bR Z ae bf Z Z Z H19 0 Z Z (fun _ h e _=>h.trans (e.mono fun _ _ q=>by simp [q])) (fun w19 e19 H20=>?_));dsimp only[lNA,lCA,lSZ,lSS,aC] at H20;refine dV Z Z (fun zw hx=>ab az Z bf Z Z) (bR Z ae bf Z Z Z H20 0 Z Z (fun _ h e _=>h.trans (e.mono fun _ _ q=>by simp [q])) (fun w20 e20 H21=>?_));dsimp only[lNA,lCA,lSZ,lSS,aC] at H21;refine aS (ah (sV Z (aj az Z aW Z Z (At.whole (H21.box 0 Z))) (aO ae aW Z Z Z Z H21 1 Z Z (fun w21 e21 H22=>?_))));dsimp only[lNA,lCA,lSZ,lSS,aC] at H22;refine aa (bl (hQ _ _ (cq results150 Z (au az Z aW Z (At.whole (H22.box 1 Z))) ?_)));exact ⟨H22.ext,_,_,_,_,_,_,Z,Rec.out (H22.sub (.cons _ (.cons _ (.cons_cons _ (.cons_cons _ (.cons_cons _ List.Sublist.slnil)))))) η⟩
  refine dF Z ?_ ?_
  ·refine bh Z ae Z Z (ac bc Z Z (ak (H3.box 0 Z) Z)) (dF Z ?_ ?_)
   ·refine dC func104 dO Z (cX (H3.sees 0 Z) ω) (fun v8 w22 r8=>?_);obtain ⟨e22,r8⟩:=r8;obtain ⟨fp8,H23⟩:=H3.res e22 r8;obtain ⟨a8,k8,q9⟩:=ax (H23.mine 2 Z);cases q9;refine dF Z ?_ ?_
    ·refine dC func190 bt Z (bb (H23.sees 1 Z) ω) (fun v9 w23 r9=>?_);obtain ⟨e23,r9⟩:=r9;obtain ⟨fp9,H24⟩:=H23.res e23 r9;obtain ⟨a9,k9,q10⟩:=ax (H24.mine 3 Z);cases q10;refine bh Z ae Z Z (ac bc Z Z (ak (H24.box 0 Z) Z)) (dV Z Z (fun zw hx=>ab az Z bH Z Z) (dC func190 bt Z (bb (H24.sees 2 Z) ω) (fun v10 w24 r10=>?_)));obtain ⟨e24,r10⟩:=r10;obtain ⟨fp10,H25⟩:=H24.res e24 r10;obtain ⟨a10,k10,q11⟩:=ax (H25.mine 4 Z);cases q11;refine bR Z ae bH Z Z Z H25 0 Z Z (fun _ h e _=>h.trans (e.mono fun _ _ q=>by simp [q])) (fun w25 e25 H26=>?_);dsimp only[lNA,lCA,lSZ,lSS,aC] at H26;refine dV Z Z (fun zw hx=>ab az Z bf Z Z) (bR Z ae bf Z Z Z H26 0 Z Z (fun _ h e _=>h.trans (e.mono fun _ _ q=>by simp [q])) (fun w26 e26 H27=>?_));dsimp only[lNA,lCA,lSZ,lSS,aC] at H27;refine dV Z Z (fun zw hx=>ab az Z bf Z Z) (bR Z ae bf Z Z Z H27 0 Z Z (fun _ h e _=>h.trans (e.mono fun _ _ q=>by simp [q])) (fun w27 e27 H28=>?_));dsimp only[lNA,lCA,lSZ,lSS,aC] at H28;refine aS (ah (sV Z (aj az Z aW Z Z (At.whole (H28.box 0 Z))) (aO ae aW Z Z Z Z H28 1 Z Z (fun w28 e28 H29=>?_))));dsimp only[lNA,lCA,lSZ,lSS,aC] at H29;refine aa (bl (hQ _ _ (cq results150 Z (au az Z aW Z (At.whole (H29.box 1 Z))) ?_)));exact ⟨H29.ext,_,_,_,_,_,_,Z,Rec.out (H29.sub (.cons _ (.cons _ (.cons_cons _ (.cons_cons _ (.cons_cons _ List.Sublist.slnil)))))) η⟩
    ·refine bh Z ae Z Z (ac bc Z Z (ak (H23.box 0 Z) Z)) (dV Z Z (fun zw hx=>ab az Z bH Z Z) (dC func190 bt Z (bb (H23.sees 1 Z) ω) (fun v11 w29 r11=>?_)));obtain ⟨e29,r11⟩:=r11;obtain ⟨fp11,H30⟩:=H23.res e29 r11;obtain ⟨a11,k11,q12⟩:=ax (H30.mine 3 Z);cases q12;refine dC func190 bt Z (bb (H30.sees 2 Z) ω) (fun v12 w30 r12=>?_);obtain ⟨e30,r12⟩:=r12;obtain ⟨fp12,H31⟩:=H30.res e30 r12;obtain ⟨a12,k12,q13⟩:=ax (H31.mine 4 Z);cases q13;refine bR Z ae bH Z Z Z H31 0 Z Z (fun _ h e _=>h.trans (e.mono fun _ _ q=>by simp [q])) (fun w31 e31 H32=>?_);dsimp only[lNA,lCA,lSZ,lSS,aC] at H32;refine dV Z Z (fun zw hx=>ab az Z bf Z Z) (bR Z ae bf Z Z Z H32 0 Z Z (fun _ h e _=>h.trans (e.mono fun _ _ q=>by simp [q])) (fun w32 e32 H33=>?_));dsimp only[lNA,lCA,lSZ,lSS,aC] at H33;refine dV Z Z (fun zw hx=>ab az Z bf Z Z) (bR Z ae bf Z Z Z H33 0 Z Z (fun _ h e _=>h.trans (e.mono fun _ _ q=>by simp [q])) (fun w33 e33 H34=>?_));dsimp only[lNA,lCA,lSZ,lSS,aC] at H34;refine aS (ah (sV Z (aj az Z aW Z Z (At.whole (H34.box 0 Z))) (aO ae aW Z Z Z Z H34 1 Z Z (fun w34 e34 H35=>?_))));dsimp only[lNA,lCA,lSZ,lSS,aC] at H35;refine aa (bl (hQ _ _ (cq results150 Z (au az Z aW Z (At.whole (H35.box 1 Z))) ?_)));exact ⟨H35.ext,_,_,_,_,_,_,Z,Rec.out (H35.sub (.cons _ (.cons _ (.cons_cons _ (.cons_cons _ (.cons_cons _ List.Sublist.slnil)))))) η⟩
   ·refine bh Z ae Z Z (ac bc Z Z (ak (H3.box 0 Z) Z)) (dC func104 dO Z (cX (H3.sees 0 Z) ω) (fun v13 w35 r13=>?_));obtain ⟨e35,r13⟩:=r13;obtain ⟨fp13,H36⟩:=H3.res e35 r13;obtain ⟨a13,k13,q14⟩:=ax (H36.mine 2 Z);cases q14;refine dV Z Z (fun zw hx=>ab az Z bH Z Z) (dC func190 bt Z (bb (H36.sees 1 Z) ω) (fun v14 w36 r14=>?_));obtain ⟨e36,r14⟩:=r14;obtain ⟨fp14,H37⟩:=H36.res e36 r14;obtain ⟨a14,k14,q15⟩:=ax (H37.mine 3 Z);cases q15;refine dC func190 bt Z (bb (H37.sees 2 Z) ω) (fun v15 w37 r15=>?_);obtain ⟨e37,r15⟩:=r15;obtain ⟨fp15,H38⟩:=H37.res e37 r15;obtain ⟨a15,k15,q16⟩:=ax (H38.mine 4 Z);cases q16;refine bR Z ae bH Z Z Z H38 0 Z Z (fun _ h e _=>h.trans (e.mono fun _ _ q=>by simp [q])) (fun w38 e38 H39=>?_);dsimp only[lNA,lCA,lSZ,lSS,aC] at H39;refine dV Z Z (fun zw hx=>ab az Z bf Z Z) (bR Z ae bf Z Z Z H39 0 Z Z (fun _ h e _=>h.trans (e.mono fun _ _ q=>by simp [q])) (fun w39 e39 H40=>?_));dsimp only[lNA,lCA,lSZ,lSS,aC] at H40;refine dV Z Z (fun zw hx=>ab az Z bf Z Z) (bR Z ae bf Z Z Z H40 0 Z Z (fun _ h e _=>h.trans (e.mono fun _ _ q=>by simp [q])) (fun w40 e40 H41=>?_));dsimp only[lNA,lCA,lSZ,lSS,aC] at H41;refine aS (ah (sV Z (aj az Z aW Z Z (At.whole (H41.box 0 Z))) (aO ae aW Z Z Z Z H41 1 Z Z (fun w41 e41 H42=>?_))));dsimp only[lNA,lCA,lSZ,lSS,aC] at H42;refine aa (bl (hQ _ _ (cq results150 Z (au az Z aW Z (At.whole (H42.box 1 Z))) ?_)));exact ⟨H42.ext,_,_,_,_,_,_,Z,Rec.out (H42.sub (.cons _ (.cons _ (.cons_cons _ (.cons_cons _ (.cons_cons _ List.Sublist.slnil)))))) η⟩
  ·refine bh Z ae Z Z (ac bc Z Z (ak (H3.box 0 Z) Z)) (dF Z ?_ ?_)
   ·refine dC func104 dO Z (cX (H3.sees 0 Z) ω) (fun v16 w42 r16=>?_);obtain ⟨e42,r16⟩:=r16;obtain ⟨fp16,H43⟩:=H3.res e42 r16;obtain ⟨a16,k16,q17⟩:=ax (H43.mine 2 Z);cases q17;refine bh Z ae Z Z (ac bc Z Z (ak (H43.box 0 Z) Z)) (dV Z Z (fun zw hx=>ab az Z bH Z Z) (dC func190 bt Z (bb (H43.sees 1 Z) ω) (fun v17 w43 r17=>?_)));obtain ⟨e43,r17⟩:=r17;obtain ⟨fp17,H44⟩:=H43.res e43 r17;obtain ⟨a17,k17,q18⟩:=ax (H44.mine 3 Z);cases q18;refine dC func190 bt Z (bb (H44.sees 2 Z) ω) (fun v18 w44 r18=>?_);obtain ⟨e44,r18⟩:=r18;obtain ⟨fp18,H45⟩:=H44.res e44 r18;obtain ⟨a18,k18,q19⟩:=ax (H45.mine 4 Z);cases q19;refine bR Z ae bH Z Z Z H45 0 Z Z (fun _ h e _=>h.trans (e.mono fun _ _ q=>by simp [q])) (fun w45 e45 H46=>?_);dsimp only[lNA,lCA,lSZ,lSS,aC] at H46;refine dV Z Z (fun zw hx=>ab az Z bf Z Z) (bR Z ae bf Z Z Z H46 0 Z Z (fun _ h e _=>h.trans (e.mono fun _ _ q=>by simp [q])) (fun w46 e46 H47=>?_));dsimp only[lNA,lCA,lSZ,lSS,aC] at H47;refine dV Z Z (fun zw hx=>ab az Z bf Z Z) (bR Z ae bf Z Z Z H47 0 Z Z (fun _ h e _=>h.trans (e.mono fun _ _ q=>by simp [q])) (fun w47 e47 H48=>?_));dsimp only[lNA,lCA,lSZ,lSS,aC] at H48;refine aS (ah (sV Z (aj az Z aW Z Z (At.whole (H48.box 0 Z))) (aO ae aW Z Z Z Z H48 1 Z Z (fun w48 e48 H49=>?_))));dsimp only[lNA,lCA,lSZ,lSS,aC] at H49;refine aa (bl (hQ _ _ (cq results150 Z (au az Z aW Z (At.whole (H49.box 1 Z))) ?_)));exact ⟨H49.ext,_,_,_,_,_,_,Z,Rec.out (H49.sub (.cons _ (.cons _ (.cons_cons _ (.cons_cons _ (.cons_cons _ List.Sublist.slnil)))))) η⟩
   ·refine bh Z ae Z Z (ac bc Z Z (ak (H3.box 0 Z) Z)) (dC func104 dO Z (cX (H3.sees 0 Z) ω) (fun v19 w49 r19=>?_));obtain ⟨e49,r19⟩:=r19;obtain ⟨fp19,H50⟩:=H3.res e49 r19;obtain ⟨a19,k19,q20⟩:=ax (H50.mine 2 Z);cases q20;refine dV Z Z (fun zw hx=>ab az Z bH Z Z) (dC func190 bt Z (bb (H50.sees 1 Z) ω) (fun v20 w50 r20=>?_));obtain ⟨e50,r20⟩:=r20;obtain ⟨fp20,H51⟩:=H50.res e50 r20;obtain ⟨a20,k20,q21⟩:=ax (H51.mine 3 Z);cases q21;refine dC func190 bt Z (bb (H51.sees 2 Z) ω) (fun v21 w51 r21=>?_);obtain ⟨e51,r21⟩:=r21;obtain ⟨fp21,H52⟩:=H51.res e51 r21;obtain ⟨a21,k21,q22⟩:=ax (H52.mine 4 Z);cases q22;refine bR Z ae bH Z Z Z H52 0 Z Z (fun _ h e _=>h.trans (e.mono fun _ _ q=>by simp [q])) (fun w52 e52 H53=>?_);dsimp only[lNA,lCA,lSZ,lSS,aC] at H53;refine dV Z Z (fun zw hx=>ab az Z bf Z Z) (bR Z ae bf Z Z Z H53 0 Z Z (fun _ h e _=>h.trans (e.mono fun _ _ q=>by simp [q])) (fun w53 e53 H54=>?_));dsimp only[lNA,lCA,lSZ,lSS,aC] at H54;refine dV Z Z (fun zw hx=>ab az Z bf Z Z) (bR Z ae bf Z Z Z H54 0 Z Z (fun _ h e _=>h.trans (e.mono fun _ _ q=>by simp [q])) (fun w54 e54 H55=>?_));dsimp only[lNA,lCA,lSZ,lSS,aC] at H55;refine aS (ah (sV Z (aj az Z aW Z Z (At.whole (H55.box 0 Z))) (aO ae aW Z Z Z Z H55 1 Z Z (fun w55 e55 H56=>?_))));dsimp only[lNA,lCA,lSZ,lSS,aC] at H56;refine aa (bl (hQ _ _ (cq results150 Z (au az Z aW Z (At.whole (H56.box 1 Z))) ?_)));exact ⟨H56.ext,_,_,_,_,_,_,Z,Rec.out (H56.sub (.cons _ (.cons _ (.cons_cons _ (.cons_cons _ (.cons_cons _ List.Sublist.slnil)))))) η⟩
 refine dF Z ?_ ?_
 ·refine bh Z ae Z Z (ac bc Z Z (ak (H3.box 0 Z) Z)) (dF Z ?_ ?_)
  ·refine bh Z ae Z Z (ac bn Z Z (ak (H3.box 0 Z) Z)) (dF Z ?_ ?_)
   ·refine dC func104 dO Z (cX (H3.sees 0 Z) ω) (fun v22 w56 r22=>?_);obtain ⟨e56,r22⟩:=r22;obtain ⟨fp22,H57⟩:=H3.res e56 r22;obtain ⟨a22,k22,q23⟩:=ax (H57.mine 2 Z);cases q23;refine dF Z ?_ ?_
    ·refine dC func190 bt Z (bb (H57.sees 1 Z) ω) (fun v23 w57 r23=>?_);obtain ⟨e57,r23⟩:=r23;obtain ⟨fp23,H58⟩:=H57.res e57 r23;obtain ⟨a23,k23,q24⟩:=ax (H58.mine 3 Z);cases q24;refine bh Z ae Z Z (ac bc Z Z (ak (H58.box 0 Z) Z)) (dV Z Z (fun zw hx=>ab az Z bH Z Z) (dC func190 bt Z (bb (H58.sees 2 Z) ω) (fun v24 w58 r24=>?_)));obtain ⟨e58,r24⟩:=r24;obtain ⟨fp24,H59⟩:=H58.res e58 r24;obtain ⟨a24,k24,q25⟩:=ax (H59.mine 4 Z);cases q25;refine bR Z ae bH Z Z Z H59 0 Z Z (fun _ h e _=>h.trans (e.mono fun _ _ q=>by simp [q])) (fun w59 e59 H60=>?_);dsimp only[lNA,lCA,lSZ,lSS,aC] at H60;refine dV Z Z (fun zw hx=>ab az Z bf Z Z) (bR Z ae bf Z Z Z H60 0 Z Z (fun _ h e _=>h.trans (e.mono fun _ _ q=>by simp [q])) (fun w60 e60 H61=>?_));dsimp only[lNA,lCA,lSZ,lSS,aC] at H61;refine dV Z Z (fun zw hx=>ab az Z bf Z Z) (bR Z ae bf Z Z Z H61 0 Z Z (fun _ h e _=>h.trans (e.mono fun _ _ q=>by simp [q])) (fun w61 e61 H62=>?_));dsimp only[lNA,lCA,lSZ,lSS,aC] at H62;refine aS (ah (sV Z (aj az Z aW Z Z (At.whole (H62.box 0 Z))) (aO ae aW Z Z Z Z H62 1 Z Z (fun w62 e62 H63=>?_))));dsimp only[lNA,lCA,lSZ,lSS,aC] at H63;refine aa (bl (hQ _ _ (cq results150 Z (au az Z aW Z (At.whole (H63.box 1 Z))) ?_)));exact ⟨H63.ext,_,_,_,_,_,_,Z,Rec.out (H63.sub (.cons _ (.cons _ (.cons_cons _ (.cons_cons _ (.cons_cons _ List.Sublist.slnil)))))) η⟩
    ·refine bh Z ae Z Z (ac bc Z Z (ak (H57.box 0 Z) Z)) (dV Z Z (fun zw hx=>ab az Z bH Z Z) (dC func190 bt Z (bb (H57.sees 1 Z) ω) (fun v25 w63 r25=>?_)));obtain ⟨e63,r25⟩:=r25;obtain ⟨fp25,H64⟩:=H57.res e63 r25;obtain ⟨a25,k25,q26⟩:=ax (H64.mine 3 Z);cases q26;refine dC func190 bt Z (bb (H64.sees 2 Z) ω) (fun v26 w64 r26=>?_);obtain ⟨e64,r26⟩:=r26;obtain ⟨fp26,H65⟩:=H64.res e64 r26;obtain ⟨a26,k26,q27⟩:=ax (H65.mine 4 Z);cases q27;refine bR Z ae bH Z Z Z H65 0 Z Z (fun _ h e _=>h.trans (e.mono fun _ _ q=>by simp [q])) (fun w65 e65 H66=>?_);dsimp only[lNA,lCA,lSZ,lSS,aC] at H66;refine dV Z Z (fun zw hx=>ab az Z bf Z Z) (bR Z ae bf Z Z Z H66 0 Z Z (fun _ h e _=>h.trans (e.mono fun _ _ q=>by simp [q])) (fun w66 e66 H67=>?_));dsimp only[lNA,lCA,lSZ,lSS,aC] at H67;refine dV Z Z (fun zw hx=>ab az Z bf Z Z) (bR Z ae bf Z Z Z H67 0 Z Z (fun _ h e _=>h.trans (e.mono fun _ _ q=>by simp [q])) (fun w67 e67 H68=>?_));dsimp only[lNA,lCA,lSZ,lSS,aC] at H68;refine aS (ah (sV Z (aj az Z aW Z Z (At.whole (H68.box 0 Z))) (aO ae aW Z Z Z Z H68 1 Z Z (fun w68 e68 H69=>?_))));dsimp only[lNA,lCA,lSZ,lSS,aC] at H69;refine aa (bl (hQ _ _ (cq results150 Z (au az Z aW Z (At.whole (H69.box 1 Z))) ?_)));exact ⟨H69.ext,_,_,_,_,_,_,Z,Rec.out (H69.sub (.cons _ (.cons _ (.cons_cons _ (.cons_cons _ (.cons_cons _ List.Sublist.slnil)))))) η⟩
   ·refine bh Z ae Z Z (ac bc Z Z (ak (H3.box 0 Z) Z)) (dC func104 dO Z (cX (H3.sees 0 Z) ω) (fun v27 w69 r27=>?_));obtain ⟨e69,r27⟩:=r27;obtain ⟨fp27,H70⟩:=H3.res e69 r27;obtain ⟨a27,k27,q28⟩:=ax (H70.mine 2 Z);cases q28;refine dV Z Z (fun zw hx=>ab az Z bH Z Z) (dC func190 bt Z (bb (H70.sees 1 Z) ω) (fun v28 w70 r28=>?_));obtain ⟨e70,r28⟩:=r28;obtain ⟨fp28,H71⟩:=H70.res e70 r28;obtain ⟨a28,k28,q29⟩:=ax (H71.mine 3 Z);cases q29;refine dC func190 bt Z (bb (H71.sees 2 Z) ω) (fun v29 w71 r29=>?_);obtain ⟨e71,r29⟩:=r29;obtain ⟨fp29,H72⟩:=H71.res e71 r29;obtain ⟨a29,k29,q30⟩:=ax (H72.mine 4 Z);cases q30;refine bR Z ae bH Z Z Z H72 0 Z Z (fun _ h e _=>h.trans (e.mono fun _ _ q=>by simp [q])) (fun w72 e72 H73=>?_);dsimp only[lNA,lCA,lSZ,lSS,aC] at H73;refine dV Z Z (fun zw hx=>ab az Z bf Z Z) (bR Z ae bf Z Z Z H73 0 Z Z (fun _ h e _=>h.trans (e.mono fun _ _ q=>by simp [q])) (fun w73 e73 H74=>?_));dsimp only[lNA,lCA,lSZ,lSS,aC] at H74;refine dV Z Z (fun zw hx=>ab az Z bf Z Z) (bR Z ae bf Z Z Z H74 0 Z Z (fun _ h e _=>h.trans (e.mono fun _ _ q=>by simp [q])) (fun w74 e74 H75=>?_));dsimp only[lNA,lCA,lSZ,lSS,aC] at H75;refine aS (ah (sV Z (aj az Z aW Z Z (At.whole (H75.box 0 Z))) (aO ae aW Z Z Z Z H75 1 Z Z (fun w75 e75 H76=>?_))));dsimp only[lNA,lCA,lSZ,lSS,aC] at H76;refine aa (bl (hQ _ _ (cq results150 Z (au az Z aW Z (At.whole (H76.box 1 Z))) ?_)));exact ⟨H76.ext,_,_,_,_,_,_,Z,Rec.out (H76.sub (.cons _ (.cons _ (.cons_cons _ (.cons_cons _ (.cons_cons _ List.Sublist.slnil)))))) η⟩
  ·refine bh Z ae Z Z (ac bc Z Z (ak (H3.box 0 Z) Z)) (bh Z ae Z Z (ac bn Z Z (ak (H3.box 0 Z) Z)) (dC func104 dO Z (cX (H3.sees 0 Z) ω) (fun v30 w76 r30=>?_)));obtain ⟨e76,r30⟩:=r30;obtain ⟨fp30,H77⟩:=H3.res e76 r30;obtain ⟨a30,k30,q31⟩:=ax (H77.mine 2 Z);cases q31;refine dV Z Z (fun zw hx=>ab az Z bH Z Z) (dC func190 bt Z (bb (H77.sees 1 Z) ω) (fun v31 w77 r31=>?_));obtain ⟨e77,r31⟩:=r31;obtain ⟨fp31,H78⟩:=H77.res e77 r31;obtain ⟨a31,k31,q32⟩:=ax (H78.mine 3 Z);cases q32;refine dC func190 bt Z (bb (H78.sees 2 Z) ω) (fun v32 w78 r32=>?_);obtain ⟨e78,r32⟩:=r32;obtain ⟨fp32,H79⟩:=H78.res e78 r32;obtain ⟨a32,k32,q33⟩:=ax (H79.mine 4 Z);cases q33;refine bR Z ae bH Z Z Z H79 0 Z Z (fun _ h e _=>h.trans (e.mono fun _ _ q=>by simp [q])) (fun w79 e79 H80=>?_);dsimp only[lNA,lCA,lSZ,lSS,aC] at H80;refine dV Z Z (fun zw hx=>ab az Z bf Z Z) (bR Z ae bf Z Z Z H80 0 Z Z (fun _ h e _=>h.trans (e.mono fun _ _ q=>by simp [q])) (fun w80 e80 H81=>?_));dsimp only[lNA,lCA,lSZ,lSS,aC] at H81;refine dV Z Z (fun zw hx=>ab az Z bf Z Z) (bR Z ae bf Z Z Z H81 0 Z Z (fun _ h e _=>h.trans (e.mono fun _ _ q=>by simp [q])) (fun w81 e81 H82=>?_));dsimp only[lNA,lCA,lSZ,lSS,aC] at H82;refine aS (ah (sV Z (aj az Z aW Z Z (At.whole (H82.box 0 Z))) (aO ae aW Z Z Z Z H82 1 Z Z (fun w82 e82 H83=>?_))));dsimp only[lNA,lCA,lSZ,lSS,aC] at H83;refine aa (bl (hQ _ _ (cq results150 Z (au az Z aW Z (At.whole (H83.box 1 Z))) ?_)));exact ⟨H83.ext,_,_,_,_,_,_,Z,Rec.out (H83.sub (.cons _ (.cons _ (.cons_cons _ (.cons_cons _ (.cons_cons _ List.Sublist.slnil)))))) η⟩
 ·refine bh Z ae Z Z (ac bc Z Z (ak (H3.box 0 Z) Z)) (dF Z ?_ ?_)
  ·refine bh Z ae Z Z (ac bn Z Z (ak (H3.box 0 Z) Z)) (dF Z ?_ ?_)
   ·refine dC func104 dO Z (cX (H3.sees 0 Z) ω) (fun v33 w83 r33=>?_);obtain ⟨e83,r33⟩:=r33;obtain ⟨fp33,H84⟩:=H3.res e83 r33;obtain ⟨a33,k33,q34⟩:=ax (H84.mine 2 Z);cases q34;refine bh Z ae Z Z (ac bc Z Z (ak (H84.box 0 Z) Z)) (dV Z Z (fun zw hx=>ab az Z bH Z Z) (dC func190 bt Z (bb (H84.sees 1 Z) ω) (fun v34 w84 r34=>?_)));obtain ⟨e84,r34⟩:=r34;obtain ⟨fp34,H85⟩:=H84.res e84 r34;obtain ⟨a34,k34,q35⟩:=ax (H85.mine 3 Z);cases q35;refine dC func190 bt Z (bb (H85.sees 2 Z) ω) (fun v35 w85 r35=>?_);obtain ⟨e85,r35⟩:=r35;obtain ⟨fp35,H86⟩:=H85.res e85 r35;obtain ⟨a35,k35,q36⟩:=ax (H86.mine 4 Z);cases q36;refine bR Z ae bH Z Z Z H86 0 Z Z (fun _ h e _=>h.trans (e.mono fun _ _ q=>by simp [q])) (fun w86 e86 H87=>?_);dsimp only[lNA,lCA,lSZ,lSS,aC] at H87;refine dV Z Z (fun zw hx=>ab az Z bf Z Z) (bR Z ae bf Z Z Z H87 0 Z Z (fun _ h e _=>h.trans (e.mono fun _ _ q=>by simp [q])) (fun w87 e87 H88=>?_));dsimp only[lNA,lCA,lSZ,lSS,aC] at H88;refine dV Z Z (fun zw hx=>ab az Z bf Z Z) (bR Z ae bf Z Z Z H88 0 Z Z (fun _ h e _=>h.trans (e.mono fun _ _ q=>by simp [q])) (fun w88 e88 H89=>?_));dsimp only[lNA,lCA,lSZ,lSS,aC] at H89;refine aS (ah (sV Z (aj az Z aW Z Z (At.whole (H89.box 0 Z))) (aO ae aW Z Z Z Z H89 1 Z Z (fun w89 e89 H90=>?_))));dsimp only[lNA,lCA,lSZ,lSS,aC] at H90;refine aa (bl (hQ _ _ (cq results150 Z (au az Z aW Z (At.whole (H90.box 1 Z))) ?_)));exact ⟨H90.ext,_,_,_,_,_,_,Z,Rec.out (H90.sub (.cons _ (.cons _ (.cons_cons _ (.cons_cons _ (.cons_cons _ List.Sublist.slnil)))))) η⟩
   ·refine bh Z ae Z Z (ac bc Z Z (ak (H3.box 0 Z) Z)) (dC func104 dO Z (cX (H3.sees 0 Z) ω) (fun v36 w90 r36=>?_));obtain ⟨e90,r36⟩:=r36;obtain ⟨fp36,H91⟩:=H3.res e90 r36;obtain ⟨a36,k36,q37⟩:=ax (H91.mine 2 Z);cases q37;refine dV Z Z (fun zw hx=>ab az Z bH Z Z) (dC func190 bt Z (bb (H91.sees 1 Z) ω) (fun v37 w91 r37=>?_));obtain ⟨e91,r37⟩:=r37;obtain ⟨fp37,H92⟩:=H91.res e91 r37;obtain ⟨a37,k37,q38⟩:=ax (H92.mine 3 Z);cases q38;refine dC func190 bt Z (bb (H92.sees 2 Z) ω) (fun v38 w92 r38=>?_);obtain ⟨e92,r38⟩:=r38;obtain ⟨fp38,H93⟩:=H92.res e92 r38;obtain ⟨a38,k38,q39⟩:=ax (H93.mine 4 Z);cases q39;refine bR Z ae bH Z Z Z H93 0 Z Z (fun _ h e _=>h.trans (e.mono fun _ _ q=>by simp [q])) (fun w93 e93 H94=>?_);dsimp only[lNA,lCA,lSZ,lSS,aC] at H94;refine dV Z Z (fun zw hx=>ab az Z bf Z Z) (bR Z ae bf Z Z Z H94 0 Z Z (fun _ h e _=>h.trans (e.mono fun _ _ q=>by simp [q])) (fun w94 e94 H95=>?_));dsimp only[lNA,lCA,lSZ,lSS,aC] at H95;refine dV Z Z (fun zw hx=>ab az Z bf Z Z) (bR Z ae bf Z Z Z H95 0 Z Z (fun _ h e _=>h.trans (e.mono fun _ _ q=>by simp [q])) (fun w95 e95 H96=>?_));dsimp only[lNA,lCA,lSZ,lSS,aC] at H96;refine aS (ah (sV Z (aj az Z aW Z Z (At.whole (H96.box 0 Z))) (aO ae aW Z Z Z Z H96 1 Z Z (fun w96 e96 H97=>?_))));dsimp only[lNA,lCA,lSZ,lSS,aC] at H97;refine aa (bl (hQ _ _ (cq results150 Z (au az Z aW Z (At.whole (H97.box 1 Z))) ?_)));exact ⟨H97.ext,_,_,_,_,_,_,Z,Rec.out (H97.sub (.cons _ (.cons _ (.cons_cons _ (.cons_cons _ (.cons_cons _ List.Sublist.slnil)))))) η⟩
  ·refine bh Z ae Z Z (ac bc Z Z (ak (H3.box 0 Z) Z)) (bh Z ae Z Z (ac bn Z Z (ak (H3.box 0 Z) Z)) (dC func104 dO Z (cX (H3.sees 0 Z) ω) (fun v39 w97 r39=>?_)));obtain ⟨e97,r39⟩:=r39;obtain ⟨fp39,H98⟩:=H3.res e97 r39;obtain ⟨a39,k39,q40⟩:=ax (H98.mine 2 Z);cases q40;refine dV Z Z (fun zw hx=>ab az Z bH Z Z) (dC func190 bt Z (bb (H98.sees 1 Z) ω) (fun v40 w98 r40=>?_));obtain ⟨e98,r40⟩:=r40;obtain ⟨fp40,H99⟩:=H98.res e98 r40;obtain ⟨a40,k40,q41⟩:=ax (H99.mine 3 Z);cases q41;refine dC func190 bt Z (bb (H99.sees 2 Z) ω) (fun v41 w99 r41=>?_);obtain ⟨e99,r41⟩:=r41;obtain ⟨fp41,H100⟩:=H99.res e99 r41;obtain ⟨a41,k41,q42⟩:=ax (H100.mine 4 Z);cases q42;refine bR Z ae bH Z Z Z H100 0 Z Z (fun _ h e _=>h.trans (e.mono fun _ _ q=>by simp [q])) (fun w100 e100 H101=>?_);dsimp only[lNA,lCA,lSZ,lSS,aC] at H101;refine dV Z Z (fun zw hx=>ab az Z bf Z Z) (bR Z ae bf Z Z Z H101 0 Z Z (fun _ h e _=>h.trans (e.mono fun _ _ q=>by simp [q])) (fun w101 e101 H102=>?_));dsimp only[lNA,lCA,lSZ,lSS,aC] at H102;refine dV Z Z (fun zw hx=>ab az Z bf Z Z) (bR Z ae bf Z Z Z H102 0 Z Z (fun _ h e _=>h.trans (e.mono fun _ _ q=>by simp [q])) (fun w102 e102 H103=>?_));dsimp only[lNA,lCA,lSZ,lSS,aC] at H103;refine aS (ah (sV Z (aj az Z aW Z Z (At.whole (H103.box 0 Z))) (aO ae aW Z Z Z Z H103 1 Z Z (fun w103 e103 H104=>?_))));dsimp only[lNA,lCA,lSZ,lSS,aC] at H104;refine aa (bl (hQ _ _ (cq results150 Z (au az Z aW Z (At.whole (H104.box 1 Z))) ?_)));exact ⟨H104.ext,_,_,_,_,_,_,Z,Rec.out (H104.sub (.cons _ (.cons _ (.cons_cons _ (.cons_cons _ (.cons_cons _ List.Sublist.slnil)))))) η⟩
theorem lH {w:World}{r:Rec}{rA6 rA7 rA8:Option Addr}{rC6 rC7 rC8:Nat}(rK:r.Ok) (rS6:Sees w [.slice rA6 r.Rows.length rC6] r.Rows) (rS7:Sees w [.slice rA7 r.Data.length rC7] r.Data) (rS8:Sees w [.slice rA8 r.Delta.length rC8] r.Delta) (hb:oa r≤1048576):Ret Tryz.prog 186 #[r.val rA6 rC6 rA7 rC7 rA8 rC8] w fun v w'=>Ext No w w'∧(∃ A6 C6 A7 C7 A8 C8,v=r.val A6 C6 A7 C7 A8 C8∧Res w w' [.int .i64 r.Kind,.int .i64 r.Seq,.string r.Name,.int .i64 r.Length,.int .i64 r.Group,.int .i64 r.Row,.slice A6 r.Rows.length C6,.slice A7 r.Data.length C7,.slice A8 r.Delta.length C8] r):=by
 have rK2:=rK;unfold Rec.Ok at rK2
 try unfold I64ok at rK2
 try unfold maxLen at rK2
 have rN2:r.Name.size≤maxLen:=by unfold maxLen; omega
 have rL6:=sL rS6;obtain ⟨rF6,rO6⟩:=rS6;have rL7:=sL rS7;obtain ⟨rF7,rO7⟩:=rS7;have rL8:=sL rS8;obtain ⟨rF8,rO8⟩:=rS8;unfold oa at hb;refine aV func186 Z ntmps186 Z (fun Q hQ hN=>?_);have H0:=Sep.start (an rO6 (an rO7 (an rO8 aP)));refine ah (bE ae Z Z H0 (fun b1 w1 e1 g1 H1=>bQ ae Z zeroValue47 H1 (fun b2 w2 e2 g2 H2=>aa (ah (ew (α:=Int) ae Z bn bg H2 (fun b3 w3 e3 g3 H3=>sF az Z bH (sLd bn (H3.box 0 Z) Z (iX ae Z bn bg Z Z Z H3 2 Z (H3.seen 0 Z) (by (try simp only [List.length_nil]); unfold maxLen; omega) (by (try simp only [List.length_nil]); omega) (fun v1 w4 fp1 H4=>sV Z (ab az Z bH Z Z) ?_)))))))));obtain ⟨a1,k1,q1⟩:=ax (H4.mine 2 Z);cases q1;refine bA ae bH Z Z Z H4 0 Z Z (fun w5 e4 H5=>?_);dsimp only[lNA,lCA,lSZ,lSS,aC] at H5;refine aa (ah (ew (α:=UInt8) ae Z bc bW H5 (fun b4 w6 e5 g4 H6=>sF az Z bf (sLd bc (H6.box 0 Z) Z (iX ae Z bc bW Z Z Z H6 3 Z (H6.seen 1 Z) (by (try simp only [List.length_nil]); unfold maxLen; omega) (by (try simp only [List.length_nil]); omega) (fun v2 w7 fp2 H7=>sV Z (ab az Z bf Z Z) ?_))))));obtain ⟨a2,k2,q2⟩:=ax (H7.mine 3 Z);cases q2;refine bA ae bf Z Z Z H7 0 Z Z (fun w8 e6 H8=>?_);dsimp only[lNA,lCA,lSZ,lSS,aC] at H8;refine aa (ah (ew (α:=UInt8) ae Z bc bW H8 (fun b5 w9 e7 g5 H9=>sF az Z bf (sLd bc (H9.box 0 Z) Z (iX ae Z bc bW Z Z Z H9 4 Z (H9.seen 2 Z) (by (try simp only [List.length_nil]); unfold maxLen; omega) (by (try simp only [List.length_nil]); omega) (fun v3 w10 fp3 H10=>sV Z (ab az Z bf Z Z) ?_))))));obtain ⟨a3,k3,q3⟩:=ax (H10.mine 4 Z);cases q3;refine bA ae bf Z Z Z H10 0 Z Z (fun w11 e8 H11=>?_);dsimp only[lNA,lCA,lSZ,lSS,aC] at H11;refine aa (ah (sV Z (aj az Z aW Z Z (At.whole (H11.box 0 Z))) (aO ae aW Z Z Z Z H11 1 Z Z (fun w12 e9 H12=>?_))));dsimp only[lNA,lCA,lSZ,lSS,aC] at H12;refine aa (bl (hQ _ _ (cq results186 Z (au az Z aW Z (At.whole (H12.box 1 Z))) ?_)));exact ⟨H12.ext,_,_,_,_,_,_,Z,Rec.out (H12.sub (.cons _ (.cons _ (.cons_cons _ (.cons_cons _ (.cons_cons _ List.Sublist.slnil)))))) η⟩
theorem lP {w:World}{xs:List Rec}{xsA:Option Addr}{xsC:Nat}(xsS:Sees w [.slice xsA xs.length xsC] xs) (hl:szL oa xs≤1048576):Ret Tryz.prog 82 #[.slice xsA xs.length xsC] w fun v w'=>Ext No w w'∧(Res w w' [v] xs):=by
 have xsL:=sL xsS;obtain ⟨xsF,xsO⟩:=xsS;have hl0:xs.length≤1048576:=by unfold szL at hl; omega
 refine aV func82 Z ntmps82 Z (fun Q hQ hN=>?_);have H0:=Sep.start (an xsO aP);refine ah (sA Z Z (aa (ah (ew (α:=Rec) ae Z cY ce H0 (fun b1 w1 e1 g1 H1=>sA Z Z (aa (ag (ah (sM Z Z (sV Z (aU cY Z) (sM Z Z (aa (ay (lk (α:=Rec) (γ:=Nat) (fun k=>xs.take k) 0 H1 0 Z 3 Z [(2,_),(7,_),(8,_)] ⟨Z,Z,Z,trivial⟩ (fun k=>[(9,.int .i64 k)]) (fun k=>k≤xs.length∧True) (fun k=>xs.length-k) ⟨Z,trivial⟩ ⟨ω,trivial⟩ (fun k vA1 fA1 w2 H2 ⟨hk,_⟩=>?_)))))))))))))));dsimp only[lCA,lNA,lSZ,lSS] at H2 ⊢;refine ah (sV Z (bq Z Z) (aa (ag (aA Z (fun c1=>?_) (fun c1=>?_)))))
 ·refine ar (ag (ay (ag ?_)));obtain ⟨hg,hg2⟩:=gY hl k ω;have tl:=List.length_take (i:=k) (l:=xs);obtain ⟨eb1,eo1,es1,ef1,ee1,ec1,eO1,eH1,em1⟩:=bV (H2.seen 0 Z) k ω;obtain ⟨ea1,ek1,ea2,ek2,ea3,ek3,eg1,eg2,eg3,rfl,eq1,eK1,eo2,eo3,eo4⟩:=bN eO1;have eK1U:=eK1;unfold Rec.Ok at eK1U
  try unfold I64ok at eK1U
  try unfold maxLen at eK1U
  have eP1:=H2.look1 0 Z eo2 (fun b hb=>eH1 b (by rw [eq1]; simp [hb]));have eL1:=oL eo2;have eP2:=eP1.look1 0 Z eo3 (fun b hb=>eH1 b (by rw [eq1]; simp [hb]));have eL2:=oL eo3;have eP3:=eP2.look1 0 Z eo4 (fun b hb=>eH1 b (by rw [eq1]; simp [hb]));have eL3:=oL eo4;refine aw (sV Z (aF cY aW Z Z ee1 k ω ω) (sV Z (aj az Z aW Z Z ec1) (bQ ae Z zeroValue47 eP3 (fun b2 w3 e2 g2 H3=>aO ae aW Z Z Z Z H3 1 Z Z (fun w4 e3 H4=>?_)))));dsimp only[lNA,lCA,lSZ,lSS,aC] at H4;refine aa (aw (sM Z Z (sV Z (aj az Z aW Z Z (At.whole (H4.box 1 Z))) (sC func150 tL Z (lY η (H4.sees 1 Z) (H4.sees 2 Z) (H4.sees 3 Z) ξ) (fun v1 w5 r1=>?_)))));obtain ⟨e4,sa1,sk1,sa2,sk2,sa3,sk3,rfl,r1⟩:=r1;obtain ⟨fp1,H5⟩:=H4.res e4 r1;refine ex ae Z cY ce Z Z Z Z H5 (fun b3 w6 e5 g3 H6=>ip ae Z cY ce Z Z Z H6 0 3 2 Z Z Z Z (by unfold maxLen; omega) ω (fun v2 w7 fp2 H7=>sA Z Z (aa (aw (sV Z (aN Z Z iO) (sM Z Z (aa ?_)))))));exact ⟨(k+1,_,_),⟨Z,Z,Z,Z,Z,trivial⟩,⟨by dsimp only; rw [← eL (xs:=xs) (d:=default) ω]; exact ((H7.ftake 1).dtake 1),ω,trivial⟩,θ⟩
 ·refine bd (ag ?_);obtain rfl:k=xs.length:=by omega
  rw [List.take_length] at H2;refine aw (sR 2 Z (rN hQ results82 Z ?_));exact ⟨H2.ext,H2.out 0 Z⟩
theorem kZ {w:World}{xs:List Rec}{xsA:Option Addr}{xsC:Nat}(xsS:Sees w [.slice xsA xs.length xsC] xs) (hl:szL oa xs≤1048576):Ret Tryz.prog 99 #[.slice xsA xs.length xsC] w fun v w'=>Ext No w w'∧(Res w w' [v] xs):=by
 have xsL:=sL xsS;obtain ⟨xsF,xsO⟩:=xsS;have hl0:xs.length≤1048576:=by unfold szL at hl; omega
 refine aV func99 Z ntmps99 Z (fun Q hQ hN=>?_);have H0:=Sep.start (an xsO aP);refine ah (sA Z Z (aa (ah (ew (α:=Rec) ae Z cY ce H0 (fun b1 w1 e1 g1 H1=>sA Z Z (aa (ag (ah (sA Z Z (aa (ay (lk (α:=Rec) (γ:=Nat) (fun k=>xs.take k) 0 H1 0 Z 3 Z [(0,_),(2,_)] ⟨Z,Z,trivial⟩ (fun k=>[(4,.int .i64 k)]) (fun k=>k≤xs.length∧True) (fun k=>xs.length-k) ⟨Z,trivial⟩ ⟨ω,trivial⟩ (fun k vA1 fA1 w2 H2 ⟨hk,_⟩=>?_)))))))))))));dsimp only[lCA,lNA,lSZ,lSS] at H2 ⊢;refine ag (ah (sR 2 Z (sV Z (aU cY Z) (sV Z (bq Z Z) (aa (aA Z (fun c1=>?_) (fun c1=>?_)))))))
 ·refine ar (ag (ay ?_));obtain ⟨hg,hg2⟩:=gY hl k ω;have tl:=List.length_take (i:=k) (l:=xs);obtain ⟨eb1,eo1,es1,ef1,ee1,ec1,eO1,eH1,em1⟩:=bV (H2.seen 0 Z) k ω;obtain ⟨ea1,ek1,ea2,ek2,ea3,ek3,eg1,eg2,eg3,rfl,eq1,eK1,eo2,eo3,eo4⟩:=bN eO1;have eK1U:=eK1;unfold Rec.Ok at eK1U
  try unfold I64ok at eK1U
  try unfold maxLen at eK1U
  have eP1:=H2.look1 0 Z eo2 (fun b hb=>eH1 b (by rw [eq1]; simp [hb]));have eL1:=oL eo2;have eP2:=eP1.look1 0 Z eo3 (fun b hb=>eH1 b (by rw [eq1]; simp [hb]));have eL2:=oL eo3;have eP3:=eP2.look1 0 Z eo4 (fun b hb=>eH1 b (by rw [eq1]; simp [hb]));have eL3:=oL eo4;refine aw (sR 3 Z (sV Z (aF cY aW Z Z ee1 k ω ω) (sV Z (aj az Z aW Z Z ec1) (sC func186 uc Z (lH η (eP3.sees 1 Z) (eP3.sees 2 Z) (eP3.sees 3 Z) ξ) (fun v1 w3 r1=>?_)))));obtain ⟨e2,sa1,sk1,sa2,sk2,sa3,sk3,rfl,r1⟩:=r1;obtain ⟨fp1,H3⟩:=eP3.res e2 r1;refine ex ae Z cY ce Z Z Z Z H3 (fun b2 w4 e3 g2 H4=>ip ae Z cY ce Z Z Z H4 0 2 1 Z Z Z Z (by unfold maxLen; omega) ω (fun v2 w5 fp2 H5=>sA Z Z (aa (aw (sM Z Z (sV Z (aN Z Z iO) (sA Z Z (aa ?_))))))));exact ⟨(k+1,_,_),⟨Z,Z,Z,Z,trivial⟩,⟨by dsimp only; rw [← eL (xs:=xs) (d:=default) ω]; exact ((H5.ftake 1).dtake 1),ω,trivial⟩,θ⟩
 ·refine bd (ag ?_);obtain rfl:k=xs.length:=by omega
  rw [List.take_length] at H2;refine aw (sR 2 Z (rN hQ results99 Z ?_));exact ⟨H2.ext,H2.out 0 Z⟩
theorem kA {w:World}{x:Block}{xA1:Option Addr}{xC1:Nat}(xK:x.Ok) (xS1:Sees w [.slice xA1 x.Bytes.length xC1] x.Bytes) (hb:mK x≤1048576):Ret Tryz.prog 98 #[x.val xA1 xC1] w fun v w'=>Ext No w w'∧(∃ A1 C1,v=x.val A1 C1∧Res w w' [.int .i64 x.Stamp,.slice A1 x.Bytes.length C1] x):=by
 have xK2:=xK;unfold Block.Ok at xK2
 try unfold I64ok at xK2
 try unfold maxLen at xK2
 have xL1:=sL xS1;obtain ⟨xF1,xO1⟩:=xS1;unfold mK at hb;refine aV func98 Z ntmps98 Z (fun Q hQ hN=>?_);have H0:=Sep.start (an xO1 aP);refine ah (bE ae Z Z H0 (fun b1 w1 e1 g1 H1=>bQ ae Z zeroValue56 H1 (fun b2 w2 e2 g2 H2=>aa (ag (bv (S:=Ext No _) [(0,true),(1,true),(3,true),(4,true),(2,false),(5,false),(6,true),(7,false)] κ κ κ Z (fun _=>Ext.refl.drawn _) (fun q1=>?_))))));have H3:=H2.drawn q1;refine dV Z Z (fun zw hx=>ab eX Z ts2 Z Z) (dV Z Z (fun zw hx=>ac tu2 Z Z (ak (hx.heap (H3.box 0 Z)) Z)) (dV Z Z (fun zw hx=>ab eX Z bf Z Z) (dV Z Z (fun zw hx=>ac bc Z Z (ak (hx.heap (H3.box 0 Z)) Z)) (d_S (fun hs1=>?_) σ))));refine zp (α:=UInt8) Z ae Z bc bW H3 (fun _ h e=>h.trans e.no) (fun b3 w3 e3 g3 H4=>d_S (fun hs2=>?_) σ);refine yw Z ae Z bc bW Z Z Z H4 2 Z (H4.seen 0 Z) (by (try simp only [List.length_nil]); unfold maxLen; omega) (by (try simp only [List.length_nil]); omega) (fun b hb=>by simp only [List.mem_singleton] at hb; rw [hb]; exact Nat.le_trans hs1.size g3) (fun v1 w4 fp1 sb1 H5=>?_)
 try dsimp only[lNA,lCA,lSZ,lSS] at H5
 obtain ⟨a1,k1,q2⟩:=ax (H5.mine 2 Z);cases q2;refine dV Z Z (fun zw hx=>aT eH Z Z) (bU Z ae dX Z Z Z Z H5 1 Z Z (fun _ _ _ hr=>absurd Z hr) (fun w5 e4 H6=>?_));dsimp only[lNA,lCA,lSZ,lSS,aC] at H6;refine aS (bl (hQ _ _ (cq results98 Z (au eX Z dX Z (At.whole (H6.box 1 Z))) ?_)));exact ⟨H6.ext,_,_,Z,Block.out (H6.sub (.cons _ (.cons _ (.cons_cons _ List.Sublist.slnil)))) η⟩
theorem kK {w:World}{x:Drive}{xA1:Option Addr}{xC1:Nat}(xK:x.Ok) (xS1:Sees w [.slice xA1 x.Blocks.length xC1] x.Blocks) (hb:ff x≤1048576):Ret Tryz.prog 105 #[x.val xA1 xC1] w fun v w'=>Ext No w w'∧(∃ A1 C1,v=x.val A1 C1∧Res w w' [.bool x.Wiped,.slice A1 x.Blocks.length C1] x):=by
 have xK2:=xK;unfold Drive.Ok at xK2
 try unfold I64ok at xK2
 try unfold maxLen at xK2
 have xL1:=sL xS1;obtain ⟨xF1,xO1⟩:=xS1;unfold ff at hb;have hl0:x.Blocks.length≤1048576:=by unfold szL at hb; omega
 refine aV func105 Z ntmps105 Z (fun Q hQ hN=>?_);have H0:=Sep.start (an xO1 aP);refine ah (bE ae Z Z H0 (fun b1 w1 e1 g1 H1=>bQ ae Z zeroValue54 H1 (fun b2 w2 e2 g2 H2=>aa (ah (sF d8 Z ts4 (sLd tu4 (H2.box 0 Z) Z (sV Z (aT jD Z Z) (bQ ae Z zeroValue54 H2 (fun b3 w3 e3 g3 H3=>aO ae dW Z Z Z Z H3 2 Z Z (fun w4 e4 H4=>?_))))))))));dsimp only[lNA,lCA,lSZ,lSS,aC] at H4;refine aa (ag (ah (sF d8 Z gb (sLd dg (H4.box 0 Z) Z (sV Z (aU dg Z) (sM Z Z (aa (ay ?_))))))));have H6:=H4.nilW (α:=Block)
 try dsimp only[lNA,lCA,lSZ,lSS] at H6
 refine iA (α:=Block) (γ:=Nat) (fun k=>x.Blocks.take k) 0 H6 3 2 1 Z Z Z Z [(2,_),(3,_),(10,_),(11,_)] ⟨Z,Z,Z,Z,trivial⟩ (fun k=>[(12,.int .i64 k)]) (fun k=>k≤x.Blocks.length∧True) (fun k=>x.Blocks.length-k) ⟨Z,trivial⟩ ⟨ω,trivial⟩ (fun k vA1 fA1 w5 H5 ⟨hk,_⟩=>?_);dsimp only[lCA,lNA,lSZ,lSS] at H5 ⊢;refine ah (sV Z (bq Z Z) (aa (ag (aA Z (fun c1=>?_) (fun c1=>?_)))))
 ·refine ar (ag (ay (ag ?_)));obtain ⟨hg,hg2⟩:=gY hb k ω;unfold mK at hg;have tl:=List.length_take (i:=k) (l:=x.Blocks);obtain ⟨eb1,eo1,es1,ef1,ee1,ec1,eO1,eH1,em1⟩:=bV (H5.seen 0 Z) k ω;obtain ⟨ea1,ek1,eg1,rfl,eq1,eK1,eo2⟩:=fM eO1;have eK1U:=eK1;unfold Block.Ok at eK1U
  try unfold I64ok at eK1U
  try unfold maxLen at eK1U
  have eP1:=H5.look1 0 Z eo2 (fun b hb=>eH1 b (by rw [eq1]; simp [hb]));have eL1:=oL eo2;refine aw (sV Z (aF dg dX Z Z ee1 k ω ω) (sV Z (aj eX Z dX Z Z ec1) (bQ ae Z zeroValue56 eP1 (fun b4 w6 e5 g4 H7=>aO ae dX Z Z Z Z H7 4 Z Z (fun w7 e6 H8=>?_)))));dsimp only[lNA,lCA,lSZ,lSS,aC] at H8;refine aa (bv (S:=Ext (· ∈ fA1) _) (oQ [1,3,5,7,9,11,12,15,16,18,21,22]) κ κ κ Z (fun _=>Ext.refl.drawn _) (fun q1=>?_));have H9:=H8.drawn q1;refine dV Z Z (fun zw hx=>ab d8 Z gb Z Z) (dV Z Z (fun zw hx=>ac dg Z Z (ak (hx.heapM (H9.boff 2 Z 3 Z Z) (H9.box 2 Z)) Z)) (dV Z Z (fun zw hx=>ab eX Z ts2 Z Z) (dV Z Z (fun zw hx=>ac tu2 Z Z (ak (hx.heapM (H9.boff 4 Z 3 Z Z) (H9.box 4 Z)) Z)) (dV Z Z (fun zw hx=>ab eX Z bf Z Z) (dV Z Z (fun zw hx=>ac bc Z Z (ak (hx.heapM (H9.boff 4 Z 3 Z Z) (H9.box 4 Z)) Z)) (dC func190 bt Z (bb (H9.sees 1 Z) ω) (fun v1 w8 r1=>?_)))))));obtain ⟨e7,r1⟩:=r1;obtain ⟨fp1,H10⟩:=H9.res e7 r1;obtain ⟨a1,k1,q2⟩:=ax (H10.mine 5 Z);cases q2;refine dV Z Z (fun zw hx=>aT eH Z Z) (iY Z ae Z dg iE Z Z Z Z H10 (fun _ h e=>h.trans e.no) (fun b5 w9 e8 g5 H11=>?_));have H12:=H11.asSt 5 ((x.Blocks.getD k default):Block) Z (Block.own_mk (x:=(x.Blocks.getD k default)) η (H11.mine 5 Z))
  try dsimp only[lNA,lCA,lSZ,lSS] at H12
  refine px Z ae Z dg iE Z Z Z H12 3 6 5 Z Z Z Z (by unfold maxLen; omega) ω (fun _ h e=>h.trans e) (fun v2 w10 fp2 H13=>dV Z Z (fun zw hx=>ab d8 Z gb Z Z) ?_);obtain ⟨a2,k2,q3⟩:=ax (H13.mine 3 Z);cases q3;refine bR Z ae gb Z Z Z H13 2 Z Z (fun _ _ _ hr=>absurd Z hr) (fun w11 e9 H14=>?_);dsimp only[lNA,lCA,lSZ,lSS,aC] at H14;refine aS (aw (sV Z (aN Z Z iO) (sM Z Z (aa ?_))));exact ⟨(k+1,_,_),⟨Z,Z,Z,Z,Z,trivial⟩,⟨by dsimp only; rw [← eL (xs:=x.Blocks) (d:=default) ω]; exact ((H14.ftake 1).dtake 4),ω,trivial⟩,θ⟩
 ·refine bd (ag ?_);obtain rfl:k=x.Blocks.length:=by omega
  rw [List.take_length] at H5;refine aw (sV Z (aj d8 Z dW Z Z (At.whole (H5.box 2 Z))) ?_);obtain ⟨a3,k3,q4⟩:=ax (H5.mine 3 Z);cases q4;refine aO ae dW Z Z Z Z H5 1 Z Z (fun w12 e10 H15=>?_);dsimp only[lNA,lCA,lSZ,lSS,aC] at H15;refine aa (bl (hQ _ _ (cq results105 Z (au d8 Z dW Z (At.whole (H15.box 1 Z))) ?_)));exact ⟨H15.ext,_,_,Z,Drive.out (H15.sub (.cons _ (.cons _ (.cons _ (.cons_cons _ List.Sublist.slnil))))) η⟩
theorem dG {w:World}{z:Wld}{zA9 zA10 zA11:Option Addr}{zC9 zC10 zC11:Nat}(zK:z.Ok) (zS9:Sees w [.slice zA9 z.Groups.length zC9] z.Groups) (zS10:Sees w [.slice zA10 z.On.length zC10] z.On) (zS11:Sees w [.slice zA11 z.Tapes.length zC11] z.Tapes) (hb:ib z≤1048576):Ret Tryz.prog 49 #[z.val zA9 zC9 zA10 zC10 zA11 zC11] w fun v w'=>Ext No w w'∧(∃ A9 C9 A10 C10 A11 C11,v=z.val A9 C9 A10 C10 A11 C11∧Res w w' [.int .i64 z.Shape.Groups,.int .i64 z.Shape.Column,.int .i64 z.Shape.Data,.int .i64 z.Shape.Spare,.int .i64 z.Shape.Rows,.int .i64 z.Shape.Cap,.int .i64 z.Shape.Batch,.int .i64 z.Shape.Queue,.int .i64 z.Shape.Stage,.slice A9 z.Groups.length C9,.slice A10 z.On.length C10,.slice A11 z.Tapes.length C11,.int .i64 z.Writes,.int .i64 z.Stop,.bool z.Down] z):=by
 have zK2:=zK;unfold Wld.Ok Shape.Ok at zK2
 try unfold I64ok at zK2
 try unfold maxLen at zK2
 have zL9:=sL zS9;obtain ⟨zF9,zO9⟩:=zS9;have zL10:=sL zS10;obtain ⟨zF10,zO10⟩:=zS10;have zL11:=sL zS11;obtain ⟨zF11,zO11⟩:=zS11;have hcu:ib z=szL (szL ff) z.Groups+z.On.length+szL jw z.Tapes:=Z;have hg0:szL (szL ff) z.Groups≤1048576:=by omega
 have ht0:szL jw z.Tapes≤1048576:=by omega
 have hgl:z.Groups.length≤1048576:=by unfold szL at hg0; omega
 have htl:z.Tapes.length≤1048576:=by unfold szL at ht0; omega
 refine aV func49 Z ntmps49 Z (fun Q hQ hN=>?_);have H0:=Sep.start (an zO9 (an zO10 (an zO11 aP)));refine ah (bE ae Z Z H0 (fun b1 w1 e1 g1 H1=>bQ ae Z zeroValue34 H1 (fun b2 w2 e2 g2 H2=>aa (ah (sV Z (aj aJ Z bu Z Z (At.whole (H2.box 0 Z))) (bQ ae Z zeroValue34 H2 (fun b3 w3 e3 g3 H3=>aO ae bu Z Z Z Z H3 2 Z Z (fun w4 e4 H4=>?_))))))));dsimp only[lNA,lCA,lSZ,lSS,aC] at H4;refine aa (ah (sF aJ Z bH (sLd bn (H4.box 0 Z) Z (sC func104 dO Z (cX (H4.sees 1 Z) ω) (fun v1 w5 r1=>?_)))));obtain ⟨e5,r1⟩:=r1;obtain ⟨fp1,H5⟩:=H4.res e5 r1;obtain ⟨a1,k1,q1⟩:=ax (H5.mine 3 Z);cases q1;refine sF aJ Z df (bA ae df Z Z Z H5 2 Z Z (fun w6 e6 H6=>?_));dsimp only[lNA,lCA,lSZ,lSS,aC] at H6;refine sF aJ Z bH (bA ae bH Z Z Z H6 2 Z Z (fun w7 e7 H7=>?_));dsimp only[lNA,lCA,lSZ,lSS,aC] at H7;refine sF aJ Z ev (bA ae ev Z Z Z H7 2 Z Z (fun w8 e8 H8=>?_));dsimp only[lNA,lCA,lSZ,lSS,aC] at H8;refine aa (ag (ah (sF aJ Z df (sLd bT (H8.box 0 Z) Z (sV Z (aU bT Z) (sM Z Z (aa (ay ?_))))))));have H10:=H8.nilW (α:=(List Drive))
 try dsimp only[lNA,lCA,lSZ,lSS] at H10
 refine iA (α:=(List Drive)) (γ:=Nat) (fun k=>z.Groups.take k) 0 H10 4 2 9 Z Z Z Z [(1,_),(2,_),(3,_),(19,_),(20,_)] ⟨Z,Z,Z,Z,Z,trivial⟩ (fun k=>[(21,.int .i64 k)]) (fun k=>k≤z.Groups.length∧True) (fun k=>z.Groups.length-k) ⟨Z,trivial⟩ ⟨ω,trivial⟩ (fun k vA1 fA1 w9 H9 ⟨hk,_⟩=>?_);dsimp only[lCA,lNA,lSZ,lSS] at H9 ⊢;refine ah (sV Z (bq Z Z) (aa (ag (aA Z (fun c1=>?_) (fun c1=>?_)))))
 ·refine ar (ag (ay (ag ?_)));have hgk:szL ff (z.Groups.getD k [])≤1048576:=(gY hg0 k ω).1;have hgkl:(z.Groups.getD k []).length≤1048576:=by unfold szL at hgk; omega
  have tlg:=List.length_take (i:=k) (l:=z.Groups);obtain ⟨eb1,eo1,ea1,ek1,ef1,ee1,ec1,eO1,eH1⟩:=dp (H9.seen 0 Z) k ω;have eP1:=H9.look1 0 Z eO1 eH1;refine aw (sV Z (aF bT fB Z Z ee1 k ω ω) (sV Z (ac cm Z Z ec1) (sA Z Z (aa (ah (ew (α:=Drive) ae Z cm dK eP1 (fun b4 w10 e9 g4 H11=>sA Z Z (aa (ag (ah (sM Z Z (sV Z (aU cm Z) (sM Z Z (aa (ay (lk (α:=Drive) (γ:=Nat) (fun m2=>(z.Groups.getD k []).take m2) 0 H11 5 Z 6 Z [(1,_),(2,_),(3,_),(19,_),(20,_),(21,_),(26,_),(27,_)] ⟨Z,Z,Z,Z,Z,Z,Z,Z,trivial⟩ (fun m2=>[(28,.int .i64 m2)]) (fun m2=>m2≤(z.Groups.getD k []).length∧True) (fun m2=>(z.Groups.getD k []).length-m2) ⟨Z,trivial⟩ ⟨ω,trivial⟩ (fun m2 vA2 fA2 w11 H12 ⟨hm2,_⟩=>?_)))))))))))))))));dsimp only[lCA,lNA,lSZ,lSS] at H12 ⊢;refine ah (sV Z (bq Z Z) (aa (ag (aA Z (fun c2=>?_) (fun c2=>?_)))))
  ·refine ar (ag (ay (ag ?_)));have hdk:ff ((z.Groups.getD k []).getD m2 default)≤1048576:=(gY hgk m2 ω).1;have tld:=List.length_take (i:=m2) (l:=(z.Groups.getD k []));obtain ⟨eb2,eo2,es1,ef2,ee2,ec2,eO2,eH2,em1⟩:=bV (H12.seen 3 Z) m2 ω;obtain ⟨ea2,ek2,eg1,rfl,eq1,eK1,eo3⟩:=eI eO2;have eP2:=H12.look1 3 Z eo3 (fun b hb=>eH2 b (by rw [eq1]; simp [hb]));have eL1:=oL eo3;refine aw (sV Z (aF cm dW Z Z ee2 m2 ω ω) (sV Z (aj d8 Z dW Z Z ec2) (bQ ae Z zeroValue54 eP2 (fun b5 w12 e10 g5 H13=>aO ae dW Z Z Z Z H13 6 Z Z (fun w13 e11 H14=>?_)))));dsimp only[lNA,lCA,lSZ,lSS,aC] at H14;refine aa (aw (sM Z Z (sV Z (aj d8 Z dW Z Z (At.whole (H14.box 6 Z))) (sC func105 tt Z (kK η (H14.sees 4 Z) ξ) (fun v2 w14 r2=>?_)))));obtain ⟨e12,sa1,sk1,rfl,r2⟩:=r2;obtain ⟨fp2,H15⟩:=H14.res e12 r2;refine ex ae Z cm dK Z Z Z Z H15 (fun b6 w15 e13 g6 H16=>ip ae Z cm dK Z Z Z H16 5 8 7 Z Z Z Z (by unfold maxLen; omega) ω (fun v3 w16 fp3 H17=>sA Z Z (aa (aw (sV Z (aN Z Z iO) (sM Z Z (aa ?_)))))));exact ⟨(m2+1,_,_),⟨Z,Z,Z,Z,Z,Z,Z,Z,Z,Z,trivial⟩,⟨by dsimp only; rw [← eL (xs:=(z.Groups.getD k [])) (d:=default) ω]; exact ((H17.ftake 4).dtake 6),ω,trivial⟩,θ⟩
  ·refine bd ?_;obtain rfl:m2=(z.Groups.getD k []).length:=by omega
   rw [List.take_length] at H12;refine aw (sF aJ Z df (sLd bT (H12.box 2 Z) Z (sM Z Z ?_)));obtain ⟨a2,k2,q2⟩:=ax (H12.mine 5 Z);cases q2;refine ex ae Z bT gd Z Z Z Z H12 (fun b7 w17 e14 g7 H18=>ip ae Z bT gd Z Z Z H18 4 6 5 Z Z Z Z (by unfold maxLen; omega) ω (fun v4 w18 fp4 H19=>sV Z (ab aJ Z df Z Z) ?_));obtain ⟨a3,k3,q3⟩:=ax (H19.mine 4 Z);cases q3;refine bA ae df Z Z Z H19 2 Z Z (fun w19 e15 H20=>?_);dsimp only[lNA,lCA,lSZ,lSS,aC] at H20;refine aa (aw (sV Z (aN Z Z iO) (sM Z Z (aa ?_))));exact ⟨(k+1,_,_),⟨Z,Z,Z,Z,Z,Z,trivial⟩,⟨by dsimp only; rw [← eL (xs:=z.Groups) (d:=[]) ω]; exact ((H20.ftake 3).dtake 5),ω,trivial⟩,θ⟩
 ·refine bd (ag (ag ?_));obtain rfl:k=z.Groups.length:=by omega
  rw [List.take_length] at H9;refine aw (sF aJ Z ev (sLd cw (H9.box 0 Z) Z (sV Z (aU cw Z) (sM Z Z (aa (ay ?_))))));have H22:=H9.nilW (α:=Tape)
  try dsimp only[lNA,lCA,lSZ,lSS] at H22
  refine iA (α:=Tape) (γ:=Nat) (fun k=>z.Tapes.take k) 0 H22 5 2 11 Z Z Z Z [(2,_),(3,_),(46,_),(47,_)] ⟨Z,Z,Z,Z,trivial⟩ (fun k=>[(48,.int .i64 k)]) (fun k=>k≤z.Tapes.length∧True) (fun k=>z.Tapes.length-k) ⟨Z,trivial⟩ ⟨ω,trivial⟩ (fun k vA3 fA3 w20 H21 ⟨hk,_⟩=>?_);dsimp only[lCA,lNA,lSZ,lSS] at H21 ⊢;refine ah (sV Z (bq Z Z) (aa (ag (aA Z (fun c3=>?_) (fun c3=>?_)))))
  ·refine ar (ag (ay (ag ?_)));have htk:jw (z.Tapes.getD k default)≤1048576:=(gY ht0 k ω).1;unfold jw at htk;have tlt:=List.length_take (i:=k) (l:=z.Tapes);obtain ⟨eb3,eo4,es2,ef3,ee3,ec3,eO3,eH3,em2⟩:=bV (H21.seen 2 Z) k ω;obtain ⟨ea3,ek3,eg2,rfl,eq2,eK2,eo5⟩:=eq eO3;have eP3:=H21.look1 2 Z eo5 (fun b hb=>eH3 b (by rw [eq2]; simp [hb]));have eL2:=oL eo5;refine aw (sV Z (aF cw dy Z Z ee3 k ω ω) (sV Z (aj dT Z dy Z Z ec3) (bQ ae Z zeroValue123 eP3 (fun b8 w21 e16 g8 H23=>aO ae dy Z Z Z Z H23 6 Z Z (fun w22 e17 H24=>?_)))));dsimp only[lNA,lCA,lSZ,lSS,aC] at H24;refine aa (bv (S:=Ext (· ∈ fA3) _) (oQ [1,3,5,7,9,11,12,15,16,18,21,22]) κ κ κ Z (fun _=>Ext.refl.drawn _) (fun q4=>?_));have H25:=H24.drawn q4;refine dV Z Z (fun zw hx=>ab aJ Z ev Z Z) (dV Z Z (fun zw hx=>ac cw Z Z (ak (hx.heapM (H25.boff 2 Z 5 Z Z) (H25.box 2 Z)) Z)) (dV Z Z (fun zw hx=>ab dT Z ts4 Z Z) (dV Z Z (fun zw hx=>ac tu4 Z Z (ak (hx.heapM (H25.boff 6 Z 5 Z Z) (H25.box 6 Z)) Z)) (dV Z Z (fun zw hx=>ab dT Z gJ Z Z) (dV Z Z (fun zw hx=>ac cY Z Z (ak (hx.heapM (H25.boff 6 Z 5 Z Z) (H25.box 6 Z)) Z)) (dC func82 wo Z (lP (H25.sees 3 Z) ξ) (fun v5 w23 r3=>?_)))))));obtain ⟨e18,r3⟩:=r3;obtain ⟨fp5,H26⟩:=H25.res e18 r3;obtain ⟨a4,k4,q5⟩:=ax (H26.mine 7 Z);cases q5;refine dV Z Z (fun zw hx=>aT lZ Z Z) (iY Z ae Z cw gT Z Z Z Z H26 (fun _ h e=>h.trans e.no) (fun b9 w24 e19 g9 H27=>?_));have H28:=H27.asSt 7 ((z.Tapes.getD k default):Tape) Z (Tape.own_mk (x:=(z.Tapes.getD k default)) η (H27.mine 7 Z))
   try dsimp only[lNA,lCA,lSZ,lSS] at H28
   refine px Z ae Z cw gT Z Z Z H28 5 8 7 Z Z Z Z (by unfold maxLen; omega) ω (fun _ h e=>h.trans e) (fun v6 w25 fp6 H29=>dV Z Z (fun zw hx=>ab aJ Z ev Z Z) ?_);obtain ⟨a5,k5,q6⟩:=ax (H29.mine 5 Z);cases q6;refine bR Z ae ev Z Z Z H29 2 Z Z (fun _ _ _ hr=>absurd Z hr) (fun w26 e20 H30=>?_);dsimp only[lNA,lCA,lSZ,lSS,aC] at H30;refine aS (aw (sV Z (aN Z Z iO) (sM Z Z (aa ?_))));exact ⟨(k+1,_,_),⟨Z,Z,Z,Z,Z,trivial⟩,⟨by dsimp only; rw [← eL (xs:=z.Tapes) (d:=default) ω]; exact ((H30.ftake 3).dtake 6),ω,trivial⟩,θ⟩
  ·refine bd (ag ?_);obtain rfl:k=z.Tapes.length:=by omega
   rw [List.take_length] at H21;refine aw (sV Z (aj aJ Z bu Z Z (At.whole (H21.box 2 Z))) ?_);obtain ⟨a6,k6,q7⟩:=ax (H21.mine 4 Z);cases q7;obtain ⟨a7,k7,q8⟩:=ax (H21.mine 5 Z);cases q8;refine aO ae bu Z Z Z Z H21 1 Z Z (fun w27 e21 H31=>?_);dsimp only[lNA,lCA,lSZ,lSS,aC] at H31;refine aa (bl (hQ _ _ (cq results49 Z (au aJ Z bu Z (At.whole (H31.box 1 Z))) ?_)));exact ⟨H31.ext,_,_,_,_,_,_,Z,Wld.out ((H31.sub (.cons _ (.cons _ (.cons _ (.cons_cons _ (.cons_cons _ (.cons_cons _ List.Sublist.slnil))))))).perm (.swap _ _ _)) η⟩
theorem ng {w:World}{z:Wld}{zA9 zA10 zA11:Option Addr}{zC9 zC10 zC11:Nat}(zK:z.Ok) (zS9:Sees w [.slice zA9 z.Groups.length zC9] z.Groups) (zS10:Sees w [.slice zA10 z.On.length zC10] z.On) (zS11:Sees w [.slice zA11 z.Tapes.length zC11] z.Tapes) (hb:ib z≤1048576):Ret Tryz.prog 41 #[z.val zA9 zC9 zA10 zC10 zA11 zC11] w fun v w'=>Ext No w w'∧(∃ A9 C9 A10 C10 A11 C11,v=z.val A9 C9 A10 C10 A11 C11∧Res w w' [.int .i64 z.Shape.Groups,.int .i64 z.Shape.Column,.int .i64 z.Shape.Data,.int .i64 z.Shape.Spare,.int .i64 z.Shape.Rows,.int .i64 z.Shape.Cap,.int .i64 z.Shape.Batch,.int .i64 z.Shape.Queue,.int .i64 z.Shape.Stage,.slice A9 z.Groups.length C9,.slice A10 z.On.length C10,.slice A11 z.Tapes.length C11,.int .i64 z.Writes,.int .i64 z.Stop,.bool z.Down] z):=by
 have zK2:=zK;unfold Wld.Ok Shape.Ok at zK2
 try unfold I64ok at zK2
 try unfold maxLen at zK2
 have zL9:=sL zS9;obtain ⟨zF9,zO9⟩:=zS9;have zL10:=sL zS10;obtain ⟨zF10,zO10⟩:=zS10;have zL11:=sL zS11;obtain ⟨zF11,zO11⟩:=zS11;have hcu:ib z=szL (szL ff) z.Groups+z.On.length+szL jw z.Tapes:=Z;have hg0:szL (szL ff) z.Groups≤1048576:=by omega
 have ht0:szL jw z.Tapes≤1048576:=by omega
 have hgl:z.Groups.length≤1048576:=by unfold szL at hg0; omega
 have htl:z.Tapes.length≤1048576:=by unfold szL at ht0; omega
 refine aV func41 Z ntmps41 Z (fun Q hQ hN=>?_);have H0:=Sep.start (an zO9 (an zO10 (an zO11 aP)));refine ah (bE ae Z Z H0 (fun b1 w1 e1 g1 H1=>bQ ae Z zeroValue34 H1 (fun b2 w2 e2 g2 H2=>aa (ah (sV Z (aj aJ Z bu Z Z (At.whole (H2.box 0 Z))) (bQ ae Z zeroValue34 H2 (fun b3 w3 e3 g3 H3=>aO ae bu Z Z Z Z H3 2 Z Z (fun w4 e4 H4=>?_))))))));dsimp only[lNA,lCA,lSZ,lSS,aC] at H4;refine aa (ah (sF aJ Z df (bA ae df Z Z Z H4 2 Z Z (fun w5 e5 H5=>?_))));dsimp only[lNA,lCA,lSZ,lSS,aC] at H5;refine aa (ag (ah (sA Z Z (aa (ay ?_)))));have H7:=H5.nilW (α:=(List Drive))
 try dsimp only[lNA,lCA,lSZ,lSS] at H7
 refine iA (α:=(List Drive)) (γ:=Nat) (fun k=>z.Groups.take k) 0 H7 3 2 9 Z Z Z Z [(1,_),(2,_),(3,_)] ⟨Z,Z,Z,trivial⟩ (fun k=>[(4,.int .i64 k)]) (fun k=>k≤z.Groups.length∧True) (fun k=>z.Groups.length-k) ⟨Z,trivial⟩ ⟨ω,trivial⟩ (fun k vA1 fA1 w6 H6 ⟨hk,_⟩=>?_);dsimp only[lCA,lNA,lSZ,lSS] at H6 ⊢;refine ag (ah (sM Z Z (sF aJ Z df (sLd bT (H6.box 0 Z) Z (sV Z (aU bT Z) (sV Z (bq Z Z) (aa (aA Z (fun c1=>?_) (fun c1=>?_)))))))))
 ·refine ar (ag (ay (ag ?_)));have hgk:szL ff (z.Groups.getD k [])≤1048576:=(gY hg0 k ω).1;have hgkl:(z.Groups.getD k []).length≤1048576:=by unfold szL at hgk; omega
  have tlg:=List.length_take (i:=k) (l:=z.Groups);refine aw (ew (α:=Drive) ae Z cm dK H6 (fun b4 w7 e6 g4 H8=>sA Z Z (aa (ag (ah (sA Z Z (aa (ay (lk (α:=Drive) (γ:=Nat) (fun m2=>(z.Groups.getD k []).take m2) 0 H8 4 Z 5 Z [(1,_),(2,_),(3,_),(4,_)] ⟨Z,Z,Z,Z,trivial⟩ (fun m2=>[(6,.int .i64 m2)]) (fun m2=>m2≤(z.Groups.getD k []).length∧True) (fun m2=>(z.Groups.getD k []).length-m2) ⟨Z,trivial⟩ ⟨ω,trivial⟩ (fun m2 vA2 fA2 w8 H9 ⟨hm2,_⟩=>?_))))))))));dsimp only[lCA,lNA,lSZ,lSS] at H9 ⊢;refine ag (ag ?_);obtain ⟨eb1,eo1,ea1,ek1,ef1,ee1,ec1,eO1,eH1⟩:=dp (H9.seen 0 Z) k ω;have eP1:=H9.look1 0 Z eO1 eH1;refine aw (sM Z Z (sF aJ Z df (sLd bT (eP1.box 0 Z) Z (sM Z Z (sV Z (aF bT fB Z Z ee1 k ω ω) (sV Z (ac cm Z Z ec1) (sV Z (aU cm Z) (sV Z (bq Z Z) (aa (aA Z (fun c2=>?_) (fun c2=>?_)))))))))))
  ·refine ar (ag (ay (ag ?_)));have hdk:ff ((z.Groups.getD k []).getD m2 default)≤1048576:=(gY hgk m2 ω).1;have tld:=List.length_take (i:=m2) (l:=(z.Groups.getD k []));obtain ⟨eb2,eo2,ea2,ek2,ef2,ee2,ec2,eO2,eH2⟩:=dp (eP1.seen 0 Z) k ω;have eP2:=eP1.look1 0 Z eO2 eH2;obtain ⟨eb3,eo3,es1,ef3,ee3,ec3,eO3,eH3,em1⟩:=bV (eP2.seen 4 Z) m2 ω;obtain ⟨ea3,ek3,eg1,rfl,eq1,eK1,eo4⟩:=eI eO3;have eP3:=eP2.look1 4 Z eo4 (fun b hb=>eH3 b (by rw [eq1]; simp [hb]));have eL1:=oL eo4;refine aw (sF aJ Z df (sLd bT (eP3.box 0 Z) Z (sM Z Z (sV Z (aF bT fB Z Z ee2 k ω ω) (sV Z (ac cm Z Z ec2) (sM Z Z (sV Z (aF cm dW Z Z ee3 m2 ω ω) (sF d8 Z ts4 (sV Z (ac tu4 Z Z (bw ec3 0 Z)) (sV Z (aT jD Z Z) (bQ ae Z zeroValue54 eP3 (fun b5 w9 e7 g5 H10=>aO ae dW Z Z Z Z H10 5 Z Z (fun w10 e8 H11=>?_)))))))))))));dsimp only[lNA,lCA,lSZ,lSS,aC] at H11;refine aa (ag (ah (sA Z Z (aa (ay ?_)))));have H13:=H11.nilW (α:=Block)
   try dsimp only[lNA,lCA,lSZ,lSS] at H13
   refine iA (α:=Block) (γ:=Nat) (fun m3=>((z.Groups.getD k []).getD m2 default).Blocks.take m3) 0 H13 6 5 1 Z Z Z Z [(1,_),(2,_),(3,_),(4,_),(5,_),(6,_),(7,_)] ⟨Z,Z,Z,Z,Z,Z,Z,trivial⟩ (fun m3=>[(8,.int .i64 m3)]) (fun m3=>m3≤((z.Groups.getD k []).getD m2 default).Blocks.length∧True) (fun m3=>((z.Groups.getD k []).getD m2 default).Blocks.length-m3) ⟨Z,trivial⟩ ⟨ω,trivial⟩ (fun m3 vA3 fA3 w11 H12 ⟨hm3,_⟩=>?_);dsimp only[lCA,lNA,lSZ,lSS] at H12 ⊢;refine ag (ag ?_)
   skip
   obtain ⟨eb4,eo5,ea4,ek4,ef4,ee4,ec4,eO4,eH4⟩:=dp (H12.seen 0 Z) k ω;have eP4:=H12.look1 0 Z eO4 eH4;obtain ⟨eb5,eo6,es2,ef5,ee5,ec5,eO5,eH5,em2⟩:=bV (eP4.seen 6 Z) m2 ω;obtain ⟨ea5,ek5,eg2,rfl,eq2,eK2,eo7⟩:=eI eO5;have eP5:=eP4.look1 6 Z eo7 (fun b hb=>eH5 b (by rw [eq2]; simp [hb]));have eL2:=oL eo7;refine aw (sM Z Z (sF aJ Z df (sLd bT (eP5.box 0 Z) Z (sM Z Z (sV Z (aF bT fB Z Z ee4 k ω ω) (sV Z (ac cm Z Z ec4) (sM Z Z (sV Z (aF cm dW Z Z ee5 m2 ω ω) (sF d8 Z gb (sV Z (ac dg Z Z (bw ec5 1 Z)) (sV Z (aU dg Z) (sV Z (bq Z Z) (aa (aA Z (fun c3=>?_) (fun c3=>?_)))))))))))))))
   ·refine ar (ag (ay ?_));have hbl:((z.Groups.getD k []).getD m2 default).Blocks.length≤1048576:=by unfold ff szL at hdk; omega
    have hbk:mK (((z.Groups.getD k []).getD m2 default).Blocks.getD m3 default)≤1048576:=(gY (by unfold ff at hdk; exact hdk) m3 ω).1;have tlb:=List.length_take (i:=m3) (l:=((z.Groups.getD k []).getD m2 default).Blocks);obtain ⟨eb6,eo8,ea6,ek6,ef6,ee6,ec6,eO6,eH6,em3⟩:=x6 (eP5.seen 0 Z) k ω;have eP6:=eP5.look1 0 Z eO6 eH6;obtain ⟨eb7,eo9,es3,ef7,ee7,ec7,eO7,eH7,em4⟩:=bV (eP6.seen 8 Z) m2 ω;obtain ⟨ea7,ek7,eg3,rfl,eq3,eK3,eo10⟩:=eI eO7;have eP7:=eP6.look1 8 Z eo10 (fun b hb=>eH7 b (by rw [eq3]; simp [hb]));have eL3:=oL eo10;obtain ⟨eb8,eo11,es4,ef8,ee8,ec8,eO8,eH8,em5⟩:=bV (eP7.seen 9 Z) m3 ω;obtain ⟨ea8,ek8,eg4,rfl,eq4,eK4,eo12⟩:=fM eO8;have eK4U:=eK4;unfold Block.Ok at eK4U
    try unfold I64ok at eK4U
    try unfold maxLen at eK4U
    have eP8:=eP7.look1 9 Z eo12 (fun b hb=>eH8 b (by rw [eq4]; simp [hb]));have eL4:=oL eo12;refine bv (S:=Ext (· ∈ fA3) _) (oQ [1,3,5,7,9,11,13,15,17,19,21,23,25,27,28,30,32,35,36]) κ κ κ Z (fun _=>Ext.refl.drawn _) (fun q1=>?_);have H14:=eP8.drawn q1;refine dV Z Z (fun zw hx=>ab d8 Z gb Z Z) (dV Z Z (fun zw hx=>ac dg Z Z (ak (hx.heapM (H14.boff 5 Z 6 Z Z) (H14.box 5 Z)) Z)) (dV Z Z (fun zw hx=>ab aJ Z df Z Z) (dV Z Z (fun zw hx=>ac bT Z Z (ak (hx.heapM (H14.boff 0 Z 6 Z Z) (H14.box 0 Z)) Z)) (dM Z Z Z (dV Z Z (fun zw hx=>aF bT fB Z Z ee6 k ω ω) (dV Z Z (fun zw hx=>ac cm Z Z (hx.cellM (H14.off 0 Z 6 Z em3) ec6)) (dM Z Z Z (dV Z Z (fun zw hx=>aF cm dW Z Z ee7 m2 ω ω) (dV Z Z (fun zw hx=>ab d8 Z gb Z Z) (dV Z Z (fun zw hx=>ac dg Z Z (bw (hx.atM (H14.off 8 Z 6 Z em4) ec7) 1 Z)) (dM Z Z Z (dV Z Z (fun zw hx=>aF dg dX Z Z ee8 m3 ω ω) (dV Z Z (fun zw hx=>aj eX Z dX Z Z (hx.atM (H14.off 9 Z 6 Z em5) ec8)) (dC func98 wE Z (kA η (H14.sees 10 Z) ξ) (fun v1 w12 r1=>?_)))))))))))))));obtain ⟨e9,sa1,sk1,rfl,r1⟩:=r1;obtain ⟨fp1,H15⟩:=H14.res e9 r1;refine iY Z ae Z dg iE Z Z Z Z H15 (fun _ h e=>h.trans e.no) (fun b6 w13 e10 g6 H16=>px Z ae Z dg iE Z Z Z H16 6 8 7 Z Z Z Z (by unfold maxLen; omega) ω (fun _ h e=>h.trans e) (fun v2 w14 fp2 H17=>dV Z Z (fun zw hx=>ab d8 Z gb Z Z) ?_));obtain ⟨a1,k1,q2⟩:=ax (H17.mine 6 Z);cases q2;refine bR Z ae gb Z Z Z H17 5 Z Z (fun _ _ _ hr=>absurd Z hr) (fun w15 e11 H18=>?_);dsimp only[lNA,lCA,lSZ,lSS,aC] at H18;refine aS (aw (sM Z Z (sV Z (aN Z Z iO) (sA Z Z (aa ?_)))));exact ⟨(m3+1,_,_),⟨Z,Z,Z,Z,Z,Z,Z,Z,trivial⟩,⟨by dsimp only; rw [← eL (xs:=((z.Groups.getD k []).getD m2 default).Blocks) (d:=default) ω]; exact ((H18.ftake 6).dtake 7),ω,trivial⟩,θ⟩
   ·refine bd ?_;obtain rfl:m3=((z.Groups.getD k []).getD m2 default).Blocks.length:=by omega
    rw [List.take_length] at eP5;refine aw (sM Z Z (sV Z (aj d8 Z dW Z Z (At.whole (eP5.box 5 Z))) (ex ae Z cm dK Z Z Z Z eP5 (fun b7 w16 e12 g7 H19=>?_))));obtain ⟨a2,k2,q3⟩:=ax (H19.mine 6 Z);cases q3;have H20:=H19.asSt 6 (((z.Groups.getD k []).getD m2 default):Drive) Z (Drive.own_mk (x:=((z.Groups.getD k []).getD m2 default)) η (H19.mine 6 Z))
    try dsimp only[lNA,lCA,lSZ,lSS] at H20
    refine ip ae Z cm dK Z Z Z H20 4 7 6 Z Z Z Z (by unfold maxLen; omega) ω (fun v3 w17 fp3 H21=>sA Z Z (aa (aw (sM Z Z (sV Z (aN Z Z iO) (sA Z Z (aa ?_)))))));exact ⟨(m2+1,_,_),⟨Z,Z,Z,Z,Z,Z,trivial⟩,⟨by dsimp only; rw [← eL (xs:=(z.Groups.getD k [])) (d:=default) ω]; exact ((H21.ftake 3).dtake 5),ω,trivial⟩,θ⟩
  ·refine bd ?_;obtain rfl:m2=(z.Groups.getD k []).length:=by omega
   rw [List.take_length] at eP1;refine aw (sF aJ Z df (sLd bT (eP1.box 2 Z) Z (sM Z Z ?_)));obtain ⟨a3,k3,q4⟩:=ax (eP1.mine 4 Z);cases q4;refine ex ae Z bT gd Z Z Z Z eP1 (fun b8 w18 e13 g8 H22=>ip ae Z bT gd Z Z Z H22 3 5 4 Z Z Z Z (by unfold maxLen; omega) ω (fun v4 w19 fp4 H23=>sV Z (ab aJ Z df Z Z) ?_));obtain ⟨a4,k4,q5⟩:=ax (H23.mine 3 Z);cases q5;refine bA ae df Z Z Z H23 2 Z Z (fun w20 e14 H24=>?_);dsimp only[lNA,lCA,lSZ,lSS,aC] at H24;refine aa (aw (sM Z Z (sV Z (aN Z Z iO) (sA Z Z (aa ?_)))));exact ⟨(k+1,_,_),⟨Z,Z,Z,Z,trivial⟩,⟨by dsimp only; rw [← eL (xs:=z.Groups) (d:=[]) ω]; exact ((H24.ftake 3).dtake 4),ω,trivial⟩,θ⟩
 ·refine bd (ag ?_);obtain rfl:k=z.Groups.length:=by omega
  rw [List.take_length] at H6;refine aw (ew (α:=Int) ae Z bn bg H6 (fun b9 w21 e15 g9 H25=>sF aJ Z bH (sLd bn (H25.box 0 Z) Z (iX ae Z bn bg Z Z Z H25 4 Z (H25.seen 1 Z) (by (try simp only [List.length_nil]); unfold maxLen; omega) (by (try simp only [List.length_nil]); omega) (fun v5 w22 fp5 H26=>sV Z (ab aJ Z bH Z Z) ?_)))));obtain ⟨a5,k5,q6⟩:=ax (H26.mine 4 Z);cases q6;refine bA ae bH Z Z Z H26 2 Z Z (fun w23 e16 H27=>?_);dsimp only[lNA,lCA,lSZ,lSS,aC] at H27;refine aa (ah (sF aJ Z ev (bA ae ev Z Z Z H27 2 Z Z (fun w24 e17 H28=>?_))));dsimp only[lNA,lCA,lSZ,lSS,aC] at H28;refine aa (ag (ah (sA Z Z (aa (ay ?_)))));have H30:=H28.nilW (α:=Tape)
  try dsimp only[lNA,lCA,lSZ,lSS] at H30
  refine iA (α:=Tape) (γ:=Nat) (fun k=>z.Tapes.take k) 0 H30 5 2 11 Z Z Z Z [(1,_),(2,_),(3,_)] ⟨Z,Z,Z,trivial⟩ (fun k=>[(9,.int .i64 k)]) (fun k=>k≤z.Tapes.length∧True) (fun k=>z.Tapes.length-k) ⟨Z,trivial⟩ ⟨ω,trivial⟩ (fun k vA4 fA4 w25 H29 ⟨hk,_⟩=>?_);dsimp only[lCA,lNA,lSZ,lSS] at H29 ⊢;refine ag (ah (sM Z Z (sF aJ Z ev (sLd cw (H29.box 0 Z) Z (sV Z (aU cw Z) (sV Z (bq Z Z) (aa (aA Z (fun c4=>?_) (fun c4=>?_)))))))))
  ·refine ar (ag (ay ?_));have htk:jw (z.Tapes.getD k default)≤1048576:=(gY ht0 k ω).1;unfold jw at htk;have tlt:=List.length_take (i:=k) (l:=z.Tapes);obtain ⟨eb9,eo13,es5,ef9,ee9,ec9,eO9,eH9,em6⟩:=bV (H29.seen 2 Z) k ω;obtain ⟨ea9,ek9,eg5,rfl,eq5,eK5,eo14⟩:=eq eO9;have eP9:=H29.look1 2 Z eo14 (fun b hb=>eH9 b (by rw [eq5]; simp [hb]));have eL5:=oL eo14;refine bv (S:=Ext (· ∈ fA4) _) (oQ [1,3,5,7,9,11,13,15,17,19,21,23,25,27,28,31,32,34,37,38]) κ κ κ Z (fun _=>Ext.refl.drawn _) (fun q7=>?_);have H31:=eP9.drawn q7;refine dV Z Z (fun zw hx=>ab aJ Z ev Z Z) (dV Z Z (fun zw hx=>ac cw Z Z (ak (hx.heapM (H31.boff 2 Z 5 Z Z) (H31.box 2 Z)) Z)) (dV Z Z (fun zw hx=>ab aJ Z ev Z Z) (dV Z Z (fun zw hx=>ac cw Z Z (ak (hx.heapM (H31.boff 0 Z 5 Z Z) (H31.box 0 Z)) Z)) (dM Z Z Z (dV Z Z (fun zw hx=>aF cw dy Z Z ee9 k ω ω) (dV Z Z (fun zw hx=>ab dT Z ts4 Z Z) (dV Z Z (fun zw hx=>ac tu4 Z Z (bw (hx.atM (H31.off 2 Z 5 Z em6) ec9) 0 Z)) (dV Z Z (fun zw hx=>ab aJ Z ev Z Z) (dV Z Z (fun zw hx=>ac cw Z Z (ak (hx.heapM (H31.boff 0 Z 5 Z Z) (H31.box 0 Z)) Z)) (dM Z Z Z (dV Z Z (fun zw hx=>aF cw dy Z Z ee9 k ω ω) (dV Z Z (fun zw hx=>ab dT Z gJ Z Z) (dV Z Z (fun zw hx=>ac cY Z Z (bw (hx.atM (H31.off 2 Z 5 Z em6) ec9) 1 Z)) (dC func99 wq Z (kZ (H31.sees 3 Z) ξ) (fun v6 w26 r2=>?_)))))))))))))));obtain ⟨e18,r2⟩:=r2;obtain ⟨fp6,H32⟩:=H31.res e18 r2;obtain ⟨a6,k6,q8⟩:=ax (H32.mine 6 Z);cases q8;refine dV Z Z (fun zw hx=>aT lZ Z Z) (iY Z ae Z cw gT Z Z Z Z H32 (fun _ h e=>h.trans e.no) (fun b10 w27 e19 g10 H33=>?_));have H34:=H33.asSt 6 ((z.Tapes.getD k default):Tape) Z (Tape.own_mk (x:=(z.Tapes.getD k default)) η (H33.mine 6 Z))
   try dsimp only[lNA,lCA,lSZ,lSS] at H34
   refine px Z ae Z cw gT Z Z Z H34 5 7 6 Z Z Z Z (by unfold maxLen; omega) ω (fun _ h e=>h.trans e) (fun v7 w28 fp7 H35=>dV Z Z (fun zw hx=>ab aJ Z ev Z Z) ?_);obtain ⟨a7,k7,q9⟩:=ax (H35.mine 5 Z);cases q9;refine bR Z ae ev Z Z Z H35 2 Z Z (fun _ _ _ hr=>absurd Z hr) (fun w29 e20 H36=>?_);dsimp only[lNA,lCA,lSZ,lSS,aC] at H36;refine aS (aw (sM Z Z (sV Z (aN Z Z iO) (sA Z Z (aa ?_)))));exact ⟨(k+1,_,_),⟨Z,Z,Z,Z,trivial⟩,⟨by dsimp only; rw [← eL (xs:=z.Tapes) (d:=default) ω]; exact ((H36.ftake 3).dtake 6),ω,trivial⟩,θ⟩
  ·refine bd (ag ?_);obtain rfl:k=z.Tapes.length:=by omega
   rw [List.take_length] at H29;refine aw (sV Z (aj aJ Z bu Z Z (At.whole (H29.box 2 Z))) ?_);obtain ⟨a8,k8,q10⟩:=ax (H29.mine 3 Z);cases q10;obtain ⟨a9,k9,q11⟩:=ax (H29.mine 5 Z);cases q11;refine aO ae bu Z Z Z Z H29 1 Z Z (fun w30 e21 H37=>?_);dsimp only[lNA,lCA,lSZ,lSS,aC] at H37;refine aa (bl (hQ _ _ (cq results41 Z (au aJ Z bu Z (At.whole (H37.box 1 Z))) ?_)));exact ⟨H37.ext,_,_,_,_,_,_,Z,Wld.out (H37.sub (.cons _ (.cons _ (.cons _ (.cons_cons _ (.cons_cons _ (.cons_cons _ List.Sublist.slnil))))))) η⟩
end Go.Wk
namespace Go.Wk
open Go.Proofs Rp Go.Proofs.Tryz
set_option maxRecDepth 10000
theorem lN {w:World}{z:Wld}{zb:Nat}{fp:List Nat}(o:OwnW w zb 34 z fp) (nd:fp.Nodup):Ret Tryz.prog 246 #[.pointer (some ⟨zb,0,none⟩)] w fun v w'=>(MutW w w' fp zb 34 (uv z)):=by
 refine aV func246 Z ntmps246 Z (fun Q hQ hN=>?_);have H0:=Sep.beginW o nd;obtain ⟨wA1,wC1,wA2,wC2,wA3,wC3,wf1,wf2,wf3,wok1,H1⟩:=H0.openW 0 Z
 try dsimp only[lNA,lCA,lSZ,lSS] at H1
 have wok1U:=wok1;unfold Wld.Ok Shape.Ok I64ok at wok1U;have wL1:=oL (H1.mine 2 Z);have wL2:=oL (H1.mine 3 Z);have wL3:=oL (H1.mine 4 Z);refine aw (sR 3 Z (sF aJ Z ts4 (bA ae ts4 Z Z Z H1 0 Z Z (fun w1 e1 H2=>?_))));dsimp only[lNA,lCA,lSZ,lSS,aC] at H2;refine sV Z (im Z) (sF aJ Z bH (bA ae bH Z Z Z H2 0 Z Z (fun w2 e2 H3=>?_)));dsimp only[lNA,lCA,lSZ,lSS,aC] at H3;refine aa (hN _ _ (ws results246 ?_));have H4:=H3.nilW (α:=Int)
 try dsimp only[lNA,lCA,lSZ,lSS] at H4
 obtain ⟨fp1,H5⟩:=H4.closeW 0 2 5 4 (uv z) Z Z Z Z Z Z Z Z Z Z (vu wok1)
 try dsimp only[lNA,lCA,lSZ,lSS] at H5
 have hz:=H5.doneW;exact hz
theorem lJ {w:World}{z y:Wld}{zb:Nat}{fp:List Nat}{dof:FuncId}{doL:List Value}{doF:Func}(o:OwnW w zb 34 z fp) (nd:fp.Nodup) (doH:Tryz.prog.funcs[dof]? = some doF) (doB:doF.body.isNone=false) (doN:NG doF) (doC:∀ w1 fp1,OwnW w1 zb 34 z fp1→fp1.Nodup→(∀ x∈fp1,x∈fp∨w.heap.size≤x)→Ext (· ∈ fp) w w1→Ret Tryz.prog dof doL.toArray w1 fun v w'=>MutW w1 w' fp1 zb 34 y) (hy:y.Writes≤2000000000):Ret Tryz.prog 191 #[.pointer (some ⟨zb,0,none⟩),.func (.func dof) #[] doL.toArray] w fun v w'=>(v = .bool (!cd z)∧MutW w w' fp zb 34 (qg z y)):=by
 refine aV func191 Z ntmps191 Z (fun Q hQ hN=>?_);have H0:=Sep.beginW o nd;refine ah (sA Z Z (aa (ag (ag ?_))));obtain ⟨wA1,wC1,wA2,wC2,wA3,wC3,wf1,wf2,wf3,wok1,H1⟩:=H0.openW 0 Z
 try dsimp only[lNA,lCA,lSZ,lSS] at H1
 have wok1U:=wok1;unfold Wld.Ok Shape.Ok I64ok at wok1U;have wL1:=oL (H1.mine 2 Z);have wL2:=oL (H1.mine 3 Z);have wL3:=oL (H1.mine 4 Z);refine bv (S:=Ext No _) (oQ [1,3,5,7,9,11,13,15,17,19,21,23,25,27,29,30]) κ κ κ Z (fun _=>Ext.refl.drawn _) (fun q1=>?_);have H2:=H1.drawn q1;refine dR 2 Z (dV Z Z (fun zw hx=>ab aJ Z ts2 Z Z) (dV Z Z (fun zw hx=>ac tu2 Z Z (ak (hx.heap (H2.box 0 Z)) Z)) (dR 2 Z (cK (t:=10) Z (fun hg1=>?_) (fun hg1=>?_)))))
 ·try simp only [decide_eq_true_eq,decide_eq_false_iff_not] at hg1
  refine aL Z (wg Z Z Z) Z Z (fun zw hx=>aM Z) (aL Z (wg Z Z Z) Z Z (fun zw hx=>im Z) (aL Z (wg Z Z Z) Z Z (fun zw hx=>ab aJ Z ts2 Z Z) (aL Z (wg Z Z Z) Z Z (fun zw hx=>ac tu2 Z Z (ak (hx.heap (H2.box 0 Z)) Z)) (aL Z (wg Z Z Z) Z Z (fun zw hx=>aM Z) (aL Z (wg Z Z Z) Z Z (fun zw hx=>im Z) (aL Z (wg Z Z Z) Z Z (fun zw hx=>ab aJ Z ts2 Z Z) (aL Z (wg Z Z Z) Z Z (fun zw hx=>ac tu2 Z Z (ak (hx.heap (H2.box 0 Z)) Z)) (aL Z (wg Z Z Z) Z Z (fun zw hx=>gx Z Z) (bh Z ae Z Z (aG Z Z) (aS (aA Z (fun c1=>?_) (fun c1=>?_))))))))))))
  ·refine ag ?_;have hnp:cd z=true:=nP ω ω;refine aw (sM Z Z ?_);obtain ⟨fp1,H3⟩:=H2.closeW 0 2 3 4 z Z Z Z Z Z Z Z Z Z Z wok1
   try dsimp only[lNA,lCA,lSZ,lSS] at H3
   refine sC func246 tY Z (lN (H3.wldAt 0 Z) (H3.nodup1 (i:=0) Z)) (fun v1 w1 r1=>?_);have mm1:=r1;obtain ⟨fp2,H4⟩:=H3.mutW 0 Z mm1
   try dsimp only[lNA,lCA,lSZ,lSS] at H4
   refine aa (ah (rA hQ results191 Z ?_));have hz:=H4.doneW;rw [← jZ (y:=y) hnp] at hz;exact ⟨(by rw [hnp]; rfl),hz⟩
  ·refine ar (ag ?_);have hnp:cd z=false:=kn (.inr ω);refine aw (sM Z Z ?_);obtain ⟨fp3,H5⟩:=H2.closeW 0 2 3 4 z Z Z Z Z Z Z Z Z Z Z wok1
   try dsimp only[lNA,lCA,lSZ,lSS] at H5
   refine cW ae Z Z (kJ (lb:=doL) Z doH doB doN Z) (doC _ _ (H5.wldAt 0 Z) (H5.nodup1 (i:=0) Z) (fun x hx=>H5.new x (H5.inB 0 Z hx)) H5.ext) (fun v2 w2 r2=>?_);obtain ⟨fp4,H6⟩:=H5.mutW 0 Z r2
   try dsimp only[lNA,lCA,lSZ,lSS] at H6
   refine aa (ag ?_);obtain ⟨wA4,wC4,wA5,wC5,wA6,wC6,wf4,wf5,wf6,wok2,H7⟩:=H6.openW 0 Z
   try dsimp only[lNA,lCA,lSZ,lSS] at H7
   have wok2U:=wok2;unfold Wld.Ok Shape.Ok I64ok at wok2U;have wL4:=oL (H7.mine 6 Z);have wL5:=oL (H7.mine 7 Z);have wL6:=oL (H7.mine 8 Z);refine aw (sR 2 Z (sF aJ Z ts2 (sLd tu2 (H7.box 0 Z) Z (sV Z (aN Z Z iO) (sV Z (im Z) (sF aJ Z ts2 (bA ae ts2 Z Z Z H7 0 Z Z (fun w3 e2 H8=>?_))))))));dsimp only[lNA,lCA,lSZ,lSS,aC] at H8;refine aa (ah (rA hQ results191 Z ?_));obtain ⟨fp5,H9⟩:=H8.closeW 0 6 7 8 (gE y) Z Z Z Z Z Z Z Z Z Z (mV wok2 hy)
   try dsimp only[lNA,lCA,lSZ,lSS] at H9
   have hz:=H9.doneW;rw [← ik hnp] at hz;exact ⟨(by rw [hnp]; rfl),hz⟩
 ·try simp only [decide_eq_true_eq,decide_eq_false_iff_not] at hg1
  refine dR 9 Z (bh Z ae Z Z (aE Z Z) (aS (dE Z (ar (ag ?_)))));have hnp:cd z=false:=kn (.inl ω);refine aw (sM Z Z ?_);obtain ⟨fp6,H10⟩:=H2.closeW 0 2 3 4 z Z Z Z Z Z Z Z Z Z Z wok1
  try dsimp only[lNA,lCA,lSZ,lSS] at H10
  refine cW ae Z Z (kJ (lb:=doL) Z doH doB doN Z) (doC _ _ (H10.wldAt 0 Z) (H10.nodup1 (i:=0) Z) (fun x hx=>H10.new x (H10.inB 0 Z hx)) H10.ext) (fun v3 w4 r3=>?_);obtain ⟨fp7,H11⟩:=H10.mutW 0 Z r3
  try dsimp only[lNA,lCA,lSZ,lSS] at H11
  refine aa (ag ?_);obtain ⟨wA7,wC7,wA8,wC8,wA9,wC9,wf7,wf8,wf9,wok3,H12⟩:=H11.openW 0 Z
  try dsimp only[lNA,lCA,lSZ,lSS] at H12
  have wok3U:=wok3;unfold Wld.Ok Shape.Ok I64ok at wok3U;have wL7:=oL (H12.mine 6 Z);have wL8:=oL (H12.mine 7 Z);have wL9:=oL (H12.mine 8 Z);refine aw (sR 2 Z (sF aJ Z ts2 (sLd tu2 (H12.box 0 Z) Z (sV Z (aN Z Z iO) (sV Z (im Z) (sF aJ Z ts2 (bA ae ts2 Z Z Z H12 0 Z Z (fun w5 e3 H13=>?_))))))));dsimp only[lNA,lCA,lSZ,lSS,aC] at H13;refine aa (ah (rA hQ results191 Z ?_));obtain ⟨fp8,H14⟩:=H13.closeW 0 6 7 8 (gE y) Z Z Z Z Z Z Z Z Z Z (mV wok3 hy)
  try dsimp only[lNA,lCA,lSZ,lSS] at H14
  have hz:=H14.doneW;rw [← ik hnp] at hz;exact ⟨(by rw [hnp]; rfl),hz⟩
theorem gK {w:World}{x:Wld}{xA9 xA10 xA11:Option Addr}{xC9 xC10 xC11:Nat}{c:Int}(xK:x.Ok) (xS9:Sees w [.slice xA9 x.Groups.length xC9] x.Groups) (xS10:Sees w [.slice xA10 x.On.length xC10] x.On) (xS11:Sees w [.slice xA11 x.Tapes.length xC11] x.Tapes) (hc:c=0∨c=9):Ret Tryz.prog 51 #[x.val xA9 xC9 xA10 xC10 xA11 xC11,.int .i64 c] w fun v w'=>Ext No w w'∧(v=(⟨c,x⟩:WldResult).val xA9 xC9 xA10 xC10 xA11 xC11):=by
 have xK2:=xK;unfold Wld.Ok Shape.Ok at xK2
 try unfold I64ok at xK2
 try unfold maxLen at xK2
 have xL9:=sL xS9;obtain ⟨xF9,xO9⟩:=xS9;have xL10:=sL xS10;obtain ⟨xF10,xO10⟩:=xS10;have xL11:=sL xS11;obtain ⟨xF11,xO11⟩:=xS11;refine aV func51 Z ntmps51 Z (fun Q hQ hN=>?_);have H0:=Sep.start (an xO9 (an xO10 (an xO11 aP)));refine ah (bE ae Z Z H0 (fun b1 w1 e1 g1 H1=>bQ ae Z zeroValue36 H1 (fun b2 w2 e2 g2 H2=>aa (ag (ah (sR 3 Z (bZ (t:=7) Z (fun hg1=>?_) (fun hg1=>?_))))))))
 ·try simp only [decide_eq_true_eq,decide_eq_false_iff_not] at hg1
  refine ao (wg Z Z Z) Z Z (aM Z) (ao (wg Z Z Z) Z Z (cx Z Z) (sV Z (aG Z Z) (aa (aA Z (fun c1=>?_) (fun c1=>?_)))))
  ·exfalso; simp_all
  ·refine ar (ah (sM Z Z (sV Z (aj aJ Z bu Z Z (At.whole (H2.box 0 Z))) (sV Z (aT ci Z Z) (aO ae dj Z Z Z Z H2 1 Z Z (fun w3 e3 H3=>?_))))));dsimp only[lNA,lCA,lSZ,lSS,aC] at H3;refine aa (bl (hQ _ _ (cq results51 Z (au eE Z dj Z (At.whole (H3.box 1 Z))) ?_)));exact ⟨H3.ext,Z⟩
 ·try simp only [decide_eq_true_eq,decide_eq_false_iff_not] at hg1
  refine sR 2 Z (sV Z (aE Z Z) (aa (dE Z (ar (ah (sM Z Z (sV Z (aj aJ Z bu Z Z (At.whole (H2.box 0 Z))) (sV Z (aT ci Z Z) (aO ae dj Z Z Z Z H2 1 Z Z (fun w4 e4 H4=>?_))))))))));dsimp only[lNA,lCA,lSZ,lSS,aC] at H4;refine aa (bl (hQ _ _ (cq results51 Z (au eE Z dj Z (At.whole (H4.box 1 Z))) ?_)));exact ⟨H4.ext,Z⟩
theorem nE {w:World}{x:Wld}{xA9 xA10 xA11:Option Addr}{xC9 xC10 xC11:Nat}{d:Bool}(xK:x.Ok) (xS9:Sees w [.slice xA9 x.Groups.length xC9] x.Groups) (xS10:Sees w [.slice xA10 x.On.length xC10] x.On) (xS11:Sees w [.slice xA11 x.Tapes.length xC11] x.Tapes):Ret Tryz.prog 76 #[x.val xA9 xC9 xA10 xC10 xA11 xC11,.bool d] w fun v w'=>Ext No w w'∧(v=(⟨if d=true then 0 else 9,x⟩:WldResult).val xA9 xC9 xA10 xC10 xA11 xC11):=by
 have xK2:=xK;unfold Wld.Ok Shape.Ok at xK2
 try unfold I64ok at xK2
 try unfold maxLen at xK2
 have xL9:=sL xS9;obtain ⟨xF9,xO9⟩:=xS9;have xL10:=sL xS10;obtain ⟨xF10,xO10⟩:=xS10;have xL11:=sL xS11;obtain ⟨xF11,xO11⟩:=xS11;refine aV func76 Z ntmps76 Z (fun Q hQ hN=>?_);have H0:=Sep.start (an xO9 (an xO10 (an xO11 aP)));refine ah (bE ae Z Z H0 (fun b1 w1 e1 g1 H1=>bQ ae Z zeroValue36 H1 (fun b2 w2 e2 g2 H2=>aa (ag (ah (sM Z Z (sV Z (bj Z) (aa (cI Z (fun c1=>?_) (fun c1=>?_))))))))))
 ·refine ah (sV Z (aj aJ Z bu Z Z (At.whole (H2.box 0 Z))) (sV Z (aT ci Z Z) (aO ae dj Z Z Z Z H2 1 Z Z (fun w3 e3 H3=>?_))));dsimp only[lNA,lCA,lSZ,lSS,aC] at H3;refine aa (bl (hQ _ _ (cq results76 Z (au eE Z dj Z (At.whole (H3.box 1 Z))) ?_)));exact ⟨H3.ext,by cases d; (· rfl); (· exact absurd c1 σ)⟩
 ·refine ar (ah (sV Z (aj aJ Z bu Z Z (At.whole (H2.box 0 Z))) (sV Z (aT ci Z Z) (aO ae dj Z Z Z Z H2 1 Z Z (fun w4 e4 H4=>?_)))));dsimp only[lNA,lCA,lSZ,lSS,aC] at H4;refine aa (bl (hQ _ _ (cq results76 Z (au eE Z dj Z (At.whole (H4.box 1 Z))) ?_)));exact ⟨H4.ext,by cases d; (· exact absurd c1 σ); (· rfl)⟩
theorem kz {w:World}{z:Wld}{zb:Nat}{fp:List Nat}(o:OwnW w zb 34 z fp) (nd:fp.Nodup) (hd:z.Down=false) (hw:z.Writes≤2000000000):Ret Tryz.prog 147 #[.pointer (some ⟨zb,0,none⟩)] w fun v w'=>(v = .bool (!cd z)∧MutW w w' fp zb 34 (qg z z)):=by
 refine aV func147 Z ntmps147 Z (fun Q hQ hN=>?_);have H0:=Sep.beginW o nd;refine ah (sA Z Z (aa (ag (ag ?_))));obtain ⟨wA1,wC1,wA2,wC2,wA3,wC3,wf1,wf2,wf3,wok1,H1⟩:=H0.openW 0 Z
 try dsimp only[lNA,lCA,lSZ,lSS] at H1
 have wok1U:=wok1;unfold Wld.Ok Shape.Ok I64ok at wok1U;have wL1:=oL (H1.mine 2 Z);have wL2:=oL (H1.mine 3 Z);have wL3:=oL (H1.mine 4 Z);refine aw (sR 2 Z (sF aJ Z ts4 (sLd tu4 (H1.box 0 Z) Z (aa (cI Z (fun c1=>?_) (fun c1=>?_))))))
 ·exfalso; simp_all
 ·refine ar (ag (ag (bv (S:=Ext No _) (oQ [1,3,5,7,9,11,13,15,17,19,21,23,25,27,29,30]) κ κ κ Z (fun _=>Ext.refl.drawn _) (fun q1=>?_))));have H2:=H1.drawn q1;refine dR 2 Z (dV Z Z (fun zw hx=>ab aJ Z ts2 Z Z) (dV Z Z (fun zw hx=>ac tu2 Z Z (ak (hx.heap (H2.box 0 Z)) Z)) (dR 2 Z (cK (t:=12) Z (fun hg1=>?_) (fun hg1=>?_)))))
  ·try simp only [decide_eq_true_eq,decide_eq_false_iff_not] at hg1
   refine aL Z (wg Z Z Z) Z Z (fun zw hx=>aM Z) (aL Z (wg Z Z Z) Z Z (fun zw hx=>im Z) (aL Z (wg Z Z Z) Z Z (fun zw hx=>ab aJ Z ts2 Z Z) (aL Z (wg Z Z Z) Z Z (fun zw hx=>ac tu2 Z Z (ak (hx.heap (H2.box 0 Z)) Z)) (aL Z (wg Z Z Z) Z Z (fun zw hx=>aM Z) (aL Z (wg Z Z Z) Z Z (fun zw hx=>im Z) (aL Z (wg Z Z Z) Z Z (fun zw hx=>ab aJ Z ts2 Z Z) (aL Z (wg Z Z Z) Z Z (fun zw hx=>ac tu2 Z Z (ak (hx.heap (H2.box 0 Z)) Z)) (aL Z (wg Z Z Z) Z Z (fun zw hx=>gx Z Z) (bh Z ae Z Z (aG Z Z) (aS (aA Z (fun c2=>?_) (fun c2=>?_))))))))))))
   ·refine ag ?_;have hnp:cd z=true:=nP ω ω;refine aw (sR 2 Z (sF aJ Z ts4 (bA ae ts4 Z Z Z H2 0 Z Z (fun w1 e1 H3=>?_))));dsimp only[lNA,lCA,lSZ,lSS,aC] at H3;refine aa (ah (sR 2 Z (sF aJ Z bH (bA ae bH Z Z Z H3 0 Z Z (fun w2 e2 H4=>?_)))));dsimp only[lNA,lCA,lSZ,lSS,aC] at H4;refine aa (ah (rA hQ results147 Z ?_));have H5:=H4.nilW (α:=Int)
    try dsimp only[lNA,lCA,lSZ,lSS] at H5
    obtain ⟨fp1,H6⟩:=H5.closeW 0 2 5 4 (uv z) Z Z Z Z Z Z Z Z Z Z (vu wok1)
    try dsimp only[lNA,lCA,lSZ,lSS] at H6
    have hz:=H6.doneW;rw [← jZ (y:=z) hnp] at hz;exact ⟨(by rw [hnp]; rfl),hz⟩
   ·refine ar (ag ?_);have hnp:cd z=false:=kn (.inr ω);refine aw (sR 3 Z (sF aJ Z ts2 (sLd tu2 (H2.box 0 Z) Z (sV Z (aN Z Z iO) (sV Z (im Z) (sF aJ Z ts2 (bA ae ts2 Z Z Z H2 0 Z Z (fun w3 e3 H7=>?_))))))));dsimp only[lNA,lCA,lSZ,lSS,aC] at H7;refine aa (ah (rA hQ results147 Z ?_));obtain ⟨fp2,H8⟩:=H7.closeW 0 2 3 4 (gE z) Z Z Z Z Z Z Z Z Z Z (mV wok1 hw)
    try dsimp only[lNA,lCA,lSZ,lSS] at H8
    have hz:=H8.doneW;rw [← ik hnp] at hz;exact ⟨(by rw [hnp]; rfl),hz⟩
  ·try simp only [decide_eq_true_eq,decide_eq_false_iff_not] at hg1
   refine dR 9 Z (bh Z ae Z Z (aE Z Z) (aS (dE Z (ar (ag ?_)))));have hnp:cd z=false:=kn (.inl ω);refine aw (sR 3 Z (sF aJ Z ts2 (sLd tu2 (H2.box 0 Z) Z (sV Z (aN Z Z iO) (sV Z (im Z) (sF aJ Z ts2 (bA ae ts2 Z Z Z H2 0 Z Z (fun w4 e4 H9=>?_))))))));dsimp only[lNA,lCA,lSZ,lSS,aC] at H9;refine aa (ah (rA hQ results147 Z ?_));obtain ⟨fp3,H10⟩:=H9.closeW 0 2 3 4 (gE z) Z Z Z Z Z Z Z Z Z Z (mV wok1 hw)
   try dsimp only[lNA,lCA,lSZ,lSS] at H10
   have hz:=H10.doneW;rw [← ik hnp] at hz;exact ⟨(by rw [hnp]; rfl),hz⟩
end Go.Wk
namespace Go.Wk
open Rp (sz own)
structure RecV where
  r:Rec
  A6:Option Addr
  C6:Nat
  A7:Option Addr
  C7:Nat
  A8:Option Addr
  C8:Nat
def RecV.cs (v:RecV):List Value:=[.int .i64 v.r.Kind,.int .i64 v.r.Seq,.string v.r.Name,.int .i64 v.r.Length,.int .i64 v.r.Group,.int .i64 v.r.Row,.slice v.A6 v.r.Rows.length v.C6,.slice v.A7 v.r.Data.length v.C7,.slice v.A8 v.r.Delta.length v.C8]
instance:Inhabited RecV:=⟨⟨default,none,0,none,0,none,0⟩⟩
theorem RecV.one {v:RecV}:∀ x∈v.cs,x.oneCell'=true:=by
  intro x hx
  simp only [RecV.cs,List.mem_cons,List.not_mem_nil,or_false] at hx
  rcases hx with rfl | rfl | rfl | rfl | rfl | rfl | rfl | rfl | rfl<;>rfl
instance:Rp RecV where
  sz:=9
  pos:=by decide
  own _ _ cs v fp:=cs=v.cs∧fp=[]∧v.r.Ok
  len h:=by rw [h.1]; rfl
  one h v hv:=by rw [h.1] at hv; exact RecV.one v hv
  st h _:=h
  lt h b hb:=by rw [h.2.1] at hb; simp at hb
  weak h:=h
def kE (w:World):List RecV→List Nat→Prop
  | [],f=>f=[]
  | v::vs,f=>∃ f1 f2,f=f1++f2∧own true w v.cs v.r f1∧kE w vs f2
theorem kE.st {w w':World}:∀ {vs f},kE w vs f→(∀ b∈f,w'.heap[b]? = w.heap[b]?)→kE w' vs f
  | [],_,h,_=>h
  | v::vs,f,⟨f1,f2,e,h1,h2⟩,k=>by
    subst e
    exact ⟨f1,f2,rfl,Rp.st h1 fun b hb=>k b (by simp [hb]),kE.st h2 fun b hb=>k b (by simp [hb])⟩
theorem kE.lt {w:World}:∀ {vs f},kE w vs f→∀ b∈f,b<w.heap.size
  | [],f,h,b,hb=>by rw [show f=[] from h] at hb; simp at hb
  | v::vs,f,⟨f1,f2,e,h1,h2⟩,b,hb=>by
    subst e
    rcases List.mem_append.1 hb with hb | hb
    · exact Rp.lt h1 b hb
    · exact kE.lt h2 b hb
theorem rP {w:World}:∀ {rs:List Rec}{cs fp},bX true w cs rs fp→∃ vs:List RecV,vs.map RecV.r=rs∧bX true w cs vs []∧kE w vs fp
  | [],cs,fp,h=>⟨[],rfl,rfl,h⟩
  | x::xs,cs,fp,⟨f1,f2,e,h1,h2⟩=>by
    obtain ⟨A6,C6,A7,C7,A8,C8,f6,f7,f8,e1,ef,ok,o6,o7,o8⟩:=bN h1
    obtain ⟨vs,e2,h3,h4⟩:=rP h2
    refine ⟨⟨x,A6,C6,A7,C7,A8,C8⟩::vs,by simp [e2],⟨[],[],rfl,⟨e1,rfl,ok⟩,h3⟩,⟨f1,f2,e,?_,h4⟩⟩
    rw [e1] at h1; exact h1
theorem yN {w:World}{ad n cap} {rs:List Rec}{fp} (h:own true w [.slice ad n cap] rs fp):∃ (vs:List RecV) (f0 f1:List Nat),vs.map RecV.r=rs∧fp=f0++f1∧own true w [.slice ad n cap] vs f0∧kE w vs f1:=by
  rcases h with ⟨hf,_⟩ | ⟨e,rfl,rfl⟩ | ⟨b,o,cap',cur,T,fr,fs,h1,h2,h3,h4,h5,h6,h7,h8⟩
  · cases hf
  · exact ⟨[],[],[],rfl,rfl,.inr (.inl ⟨e,rfl,rfl⟩),rfl⟩
  · obtain ⟨vs,e1,h9,h10⟩:=rP h8
    have el:vs.length=rs.length:=by rw [← e1,List.length_map]
    exact ⟨vs,[b],fs,e1,by rw [h2]; rfl,.inr (.inr ⟨b,o,cap',cur,T,fr,[],by rw [el]; exact h1,rfl,h3,h4,by rw [el]; exact h5,h6,h7,h9⟩),h10⟩
def tb (vs:List RecV) (f:List Nat):Rsc:=⟨f,fun w=>kE w vs f,fun h k=>h.st k,fun h=>h.lt⟩
section
variable {M:Nat→Prop}{w0 w:World}{Δ F:List Rsc}
theorem Sep.viewAt (h:Sep M w0 Δ F w) (i:Nat) {ad n cap} {vs:List RecV}{f} (hi:Δ[i]? = some (Wk.mine [.slice ad n cap] vs f)) (k:Nat) (hk:k<vs.length) :
    ∃ b o,ad=some ⟨b,o,none⟩∧At w b (o+k*9) (vs.getD k default).cs∧(vs.getD k default).r.Ok:=by
  obtain ⟨b,o,cs,fk,e,hat,hx,_⟩:=fD (h.mine i hi) k hk
  rw [eG hk]
  obtain ⟨e1,_,ok⟩:=hx
  exact ⟨b,o,e,by rw [← e1]; exact hat,ok⟩
end
end Go.Wk
namespace Go.Wk
open Rp (sz own)
theorem hH {w:World}{v:RecV}(ok:v.r.Ok):own true w v.cs v []:=⟨rfl,rfl,ok⟩
end Go.Wk
namespace Go.Wk
section
variable {α K:Type}{lt:K→K→Prop}{key:α→K}
inductive Ord (lt:K→K→Prop) (key:α→K):List α→Prop
  | nil:Ord lt key []
  | cons {x xs}:(∀ y∈xs,¬ lt (key y) (key x))→Ord lt key xs→Ord lt key (x::xs)
end
end Go.Wk
namespace Go.Wk
open Rp (sz own)
def RdV (w:World) (ft:List Nat) (vs:List RecV):Prop:=∀ v∈vs,∃ f,own false w v.cs v.r f∧∀ b∈f,b∈ft
section
variable {w w':World}{ft f:List Nat}{vs us:List RecV}
theorem RdV.sub (h:RdV w ft vs) (hs:∀ v∈us,v∈vs):RdV w ft us:=fun v hv=>h v (hs v hv)
theorem RdV.nil:RdV w ft []:=fun v hv=>by simp at hv
theorem RdV.at {k:Nat}(h:RdV w ft vs) (hk:k<vs.length):RdV w ft [vs.getD k default]:=fun v hv=>by
  rw [List.mem_singleton] at hv
  rw [hv,eG hk]
  exact h _ (List.getElem_mem _)
theorem qo:∀ {vs:List RecV}{cs f0},bX false w cs vs f0→RdV w ft vs→∃ f,bX false w cs (vs.map RecV.r) f∧∀ b∈f,b∈ft
  | [],_,_,h,_=>⟨[],rfl,σ⟩
  | v::vs,cs,f0,⟨g1,g2,e0,⟨e1,eg,ok⟩,h2⟩,hr=>by
    obtain ⟨f1,k1,k2⟩:=hr v σ
    obtain ⟨f2,r1,r2⟩:=qo h2 (hr.sub fun x hx=>by simp [hx])
    refine ⟨f1++f2,⟨f1,f2,rfl,?_,r1⟩,fun b hb=>?_⟩
    · rw [show cs.take (sz Rec)=v.cs from e1]; exact k1
    · rcases List.mem_append.1 hb with hb | hb
      · exact k2 b hb
      · exact r2 b hb
theorem wY {s:Bool}{ad n cap} {f0} (h:own s w [.slice ad n cap] vs f0) (hr:RdV w ft vs):∃ f,own false w [.slice ad n cap] (vs.map RecV.r) f∧∀ b∈f,b∈f0∨b∈ft:=by
  have el:(vs.map RecV.r).length=vs.length:=List.length_map _
  rcases am h with ⟨hf,A,C,e,rfl,rfl⟩ | ⟨e,rfl,rfl⟩ | ⟨b,o,cap',cur,T,fr,fs,h1,h2,h3,h4,h5,h6,h7,h8⟩
  · exact ⟨[],.inl ⟨rfl,A,C,e,rfl,rfl⟩,σ⟩
  · exact ⟨[],.inr (.inl ⟨e,rfl,rfl⟩),σ⟩
  · obtain ⟨f1,k1,k2⟩:=qo h8 hr
    refine ⟨b::f1,.inr (.inr ⟨b,o,cap',cur,T,fr,f1,by rw [el]; exact h1,rfl,h3,h4,by rw [el]; exact h5,h6,h7,k1⟩),fun x hx=>?_⟩
    rcases List.mem_cons.1 hx with rfl | hx
    · left; rw [h2]; simp
    · exact .inr (k2 x hx)
end
end Go.Wk
namespace Go.Wk
open Rp (sz own)
section
variable {w w' w0:World}{ft f:List Nat}{vs us:List RecV}{M:Nat→Prop}{Δ F:List Rsc}
def InF {α:Type}[Rp α] (w:World) (ft:List Nat) (cs:List Value) (x:α):Prop:=∃ f,own false w cs x f∧∀ b∈f,b∈ft
theorem Mut.none {α:Type}[Rp α] {cs:List Value}{x:α}{fp:List Nat}(e:Ext No w w') (h:own true w cs x fp) (hn:fp.Nodup):Mut w w' fp cs x:=
  ⟨e.no,fp,Rp.st h fun b hb=>e.block b (Rp.lt h b hb) id,hn,fun b hb => .inl hb⟩
end
end Go.Wk
namespace Go.Wk
open Rp (sz own)
section
variable {P:Program}{n:Nat}{ops:Array Oper}{Q:Post}{L:Env}{w w0:World}{M:Nat→Prop}{Δ F:List Rsc}{d:Tmp}{ty:TypeId}{p:String}{af:Array Edge}{g:Option (Nat × Bool)}
theorem nA {l:Nat}{rl:List (Nat × Bool)}{S:World→Prop}{t e:TypeId}{parts:Array (Nat × Operand)}{z:Value}{bytes:Nat}(xs:List Int) (ho:ops.toList[l]? = some ⟨some d,.buildSlice t xs.length parts,ty,p,af,g⟩) (hw:Wn ops n L ⟨some d,.buildSlice t xs.length parts,ty,p,af,g⟩) (hn:Nat.blt d n=true) (ht:P.underlying t=some (.slice e)) (hT:Ty P e z 1 bytes)
    (hix:parts.toList.map (·.1)=List.range xs.length) (hv:ga L (parts.toList.map (·.2))=some (xs.map (Value.int .i64))) (hk:∀ x∈xs,I64ok x) (h0:0<xs.length) (hl:xs.length≤1000) (H:Sep M w0 Δ F w) (hS:∀ w',S w→Ext No w w'→S w')
    (k:∀ b w',Ext No w w'→w.heap.size≤b→Sep M w0 (Δ++[mine [.slice (some ⟨b,0,none⟩) xs.length xs.length] xs [b]]) F w'→DL P n ops Q S rl ((d,.slice (some ⟨b,0,none⟩) xs.length xs.length)::L) w') :
    DL P n ops Q S ((l,false)::rl) L w:=by
  have hparts:∀ a,Good n a L→(parts.map fun (i,x)=>(i,a.eval x)).toList=((xs.map (Value.int .i64)).zipIdx 0).map fun x=>(x.2,x.1):=fun a ha=>by
    have key:∀ (l:List (Nat × Operand)) (vs:List Value) (k:Nat),l.map (·.1)=List.range' k vs.length→ga L (l.map (·.2))=some vs→l.map (fun x=>(x.1,a.eval x.2))=(vs.zipIdx k).map fun x=>(x.2,x.1):=by
      intro l
      induction l with
      | nil=>intro vs k h1 h2; simp [ga] at h2; subst h2; rfl
      | cons x l ih=>
        intro vs k h1 h2
        simp only [List.map_cons] at h1 h2 ⊢
        unfold ga at h2
        split at h2
        · rename_i v us hv hus
          cases h2
          rw [List.length_cons,List.range'_succ] at h1
          simp only [List.cons.injEq] at h1
          rw [List.zipIdx_cons,List.map_cons,← ih us (k+1) h1.2 hus,ha.eval hv,h1.1]
        · cases h2
    rw [Array.toList_map]
    refine key parts.toList _ 0 ?_ hv
    rw [hix,List.length_map,List.range_eq_range']
  have hp:=nv (n:=n) (w:=w) (ty:=ty) (p:=p) (af:=af) (g:=g) (d:=some d) (parts:=parts) (vs:=xs.map (Value.int .i64)) (len:=xs.length) ht hT ω σ hparts (by intro v hv; simp at hv; obtain ⟨x,_,rfl⟩:=hv; rfl) h0 ω
  refine ms ho hw rfl hn hp (fun h _=>hS _ h (Ext.refl.alloc _)) (k _ _ (Ext.refl.alloc _) (Nat.le_refl _) ?_)
  refine H.add (Ext.refl.alloc _) (r:=Wk.mine [.slice (some ⟨w.heap.size,0,none⟩) xs.length xs.length] xs [w.heap.size]) (.inr (.inr ⟨w.heap.size,0,_,_,e,(0,0),[],rfl,rfl,heap_alloc_new w _,fun _=>rfl,Nat.le_refl _,by unfold maxLen; omega,?_,?_⟩)) (by simp [Wk.mine]) (by simp [Wk.mine])
  · have:∀ l:List Int,(l.map (Value.int .i64)).flatMap (fun v=>v.cells.toList)=l.map (Value.int .i64):=by
      intro l; induction l with
      | nil=>rfl
      | cons x l ih=>simp only [List.map_cons,List.flatMap_cons,ih]; rfl
    simp [this,sz]
  · have:∀ l:List Int,(l.map (Value.int .i64)).flatMap (fun v=>v.cells.toList)=l.map (Value.int .i64):=by
      intro l; induction l with
      | nil=>rfl
      | cons x l ih=>simp only [List.map_cons,List.flatMap_cons,ih]; rfl
    simp only [this,List.drop_zero]
    exact p8 hk
end
end Go.Wk
namespace Go.Wk
open Rp (sz own)
section
variable {α K:Type}{lt:K→K→Prop}{key:α→K}
theorem Ord.at [Inhabited α] {xs:List α}(h:Ord lt key xs):∀ {i j:Nat},i<j→j<xs.length→¬ lt (key (xs.getD j default)) (key (xs.getD i default)):=by
  induction h with
  | nil=>intro i j _ h; simp at h
  | cons h1 h2 ih=>
    intro i j hij hj
    obtain ⟨j,rfl⟩:∃ k,j=k+1:=⟨j-1,ω⟩
    rw [List.length_cons] at hj
    rcases Nat.eq_zero_or_pos i with e | e
    · subst e
      rw [List.getD_cons_succ,List.getD_cons_zero,eG ω]
      exact h1 _ (List.getElem_mem _)
    · obtain ⟨i,rfl⟩:∃ k,i=k+1:=⟨i-1,ω⟩
      rw [List.getD_cons_succ,List.getD_cons_succ]
      exact ih ω ω
end
end Go.Wk
namespace Go.Wk
structure Way where
  n:Nat
  hs:List Int
  x:Int
  g:List UInt8
  m:Mat
  steps:List (Mat × Nat)
  w:List UInt8
end Go.Wk
namespace Go.Wk
open Rp (sz own)
section
variable {M:Nat→Prop}{w0 w:World}{Δ F:List Rsc}
theorem Sep.packB (h:Sep M w0 Δ F w) (j:Nat) {a:Option Addr}{n c:Nat}{bs:List UInt8}{f:List Nat}(q:Int) (hj:Δ[j]? = some (Wk.mine [.slice a n c] bs f)) (hq:I64ok q) :
    Sep M w0 (Δ.set j (Wk.mine [.int .i64 q,.slice a n c] (⟨q,bs⟩:Block) f)) F w:=by
  have ho:=h.mine j hj
  obtain rfl:=gg ho
  have hn:f.Nodup:=h.nodup1 hj
  exact h.set hj (q:=Wk.mine [.int .i64 q,.slice a bs.length c] (⟨q,bs⟩:Block) f) Ext.refl (Block.own_mk (x:=⟨q,bs⟩) hq ho) hn (fun b hb => .inl hb)
end
def bF (z:Wld) (g i:Nat):Drive:=(z.Groups.getD g []).getD i default
def fE (g i row:Nat) (b:Block) (z:Wld):Wld:=
  ⟨z.Shape,z.Groups.set g ((z.Groups.getD g []).set i ⟨(bF z g i).Wiped,(bF z g i).Blocks.set row b⟩),z.On,z.Tapes,z.Writes,z.Stop,z.Down⟩
def fP (g i row:Nat) (b:Block) (z:Wld):Wld:=qg z (fE g i row b z)
section
variable {z:Wld}{g i row:Nat}{b:Block}
theorem eT (h:z.Ok):(fE g i row b z).Ok:=h
end
end Go.Wk
namespace Go.Wk
open Go.Proofs Rp Go.Proofs.Tryz
set_option maxRecDepth 10000
theorem ir {w:World}{z:Wld}{zb i b1 b2 b3 b4 b5:Nat}{g row:Int}{fp xF:List Nat}{x:Block}{xA:Option Addr}{xC:Nat}(o:OwnW w zb 34 z fp) (nd:fp.Nodup) (h1:w.heap[b1]? = some (.cells [.int .i64 x.Stamp,.slice xA x.Bytes.length xC].toArray 56)) (d1:b1 ∉ fp) (h2:w.heap[b2]? = some (.cells [.pointer (some ⟨zb,0,none⟩)].toArray 77)) (d2:b2 ∉ fp) (h3:w.heap[b3]? = some (.cells [.int .i64 g].toArray 2)) (d3:b3 ∉ fp) (h4:w.heap[b4]? = some (.cells [.int .i64 (i:Nat)].toArray 2)) (d4:b4 ∉ fp) (h5:w.heap[b5]? = some (.cells [.int .i64 row].toArray 2)) (d5:b5 ∉ fp) (xO:own false w [.slice xA x.Bytes.length xC] x.Bytes xF) (xD:∀ b∈xF,b ∉ fp) (xK:x.Ok) (hg:0≤g∧g.toNat<z.Groups.length) (hi:i<(z.Groups.getD g.toNat []).length) (hr:0≤row∧row.toNat<((z.Groups.getD g.toNat []).getD i default).Blocks.length) (hl:x.Bytes.length≤1000000):Ret Tryz.prog 215 #[.pointer (some ⟨b1,0,none⟩),.pointer (some ⟨b2,0,none⟩),.pointer (some ⟨b3,0,none⟩),.pointer (some ⟨b4,0,none⟩),.pointer (some ⟨b5,0,none⟩)] w fun v w'=>(MutW w w' fp zb 34 (fE g.toNat i row.toNat x z)):=by
 have xLe:=oL xO;refine aV func215 Z ntmps215 Z (fun Q hQ hN=>?_);have H0:=((((((Sep.beginW o nd).boxF h1 d1).boxF h2 d2).boxF h3 d3).boxF h4 d4).boxF h5 d5).seeF xO xD
 try dsimp only[lNA,lCA,lSZ,lSS] at H0
 obtain ⟨wA1,wC1,wA2,wC2,wA3,wC3,wf1,wf2,wf3,wok1,H1⟩:=H0.openW 0 Z
 try dsimp only[lNA,lCA,lSZ,lSS] at H1
 have wok1U:=wok1;unfold Wld.Ok Shape.Ok I64ok at wok1U;have wL1:=oL (H1.mine 2 Z);have wL2:=oL (H1.mine 3 Z);have wL3:=oL (H1.mine 4 Z);obtain ⟨eb1,eo1,eT1,eF1,eG1,ea1,ek1,eg1,ee1,eH1⟩:=H1.focusL 2 Z g.toNat ω
 try dsimp only[lNA,lCA,lSZ,lSS] at eH1
 obtain ⟨eb2,eo2,eT2,eF2,eG2,ea2,ek2,eg2,ee2,eK1,eH2⟩:=Drive.focus eH1 5 Z i ω;have eK1U:=eK1;unfold Drive.Ok at eK1U
 try unfold I64ok at eK1U
 try unfold maxLen at eK1U
 try dsimp only[lNA,lCA,lSZ,lSS] at eH2
 obtain ⟨eb3,eo3,ee3⟩:=gw (eH2.mine 7 Z) row.toNat ω;refine bv (S:=eH2.S2 2 5) (oQ [1,3,5,7,9,11,15,23,25,27,29,31,2028,12,17,19,2010,20,32,35,37,38,32,35,20,37,38,32,35,12,17,19,20,37,38]) κ κ κ Z (fun _=>show eH2.S2 2 5 _ from Ext.refl.drawn _) (fun q1=>?_);have H2:=eH2.drawn q1;refine dV Z Z (fun zw hx=>ac zJ Z Z (ak (eH2.s2FBox hx 1 Z Z Z) Z)) (dV Z Z (fun zw hx=>im Z) (dV Z Z (fun zw hx=>ab aJ Z df Z Z) (dV Z Z (fun zw hx=>ac bT Z Z (ak (eH2.s2Box hx 0 Z Z Z Z Z) Z)) (dV Z Z (fun zw hx=>ac tu2 Z Z (ak (eH2.s2FBox hx 2 Z Z Z) Z)) (dV Z Z (fun zw hx=>aF bT fB Z Z ee1 g.toNat ω ω) (dV Z Z (fun zw hx=>ac tu2 Z Z (ak (eH2.s2FBox hx 3 Z Z Z) Z)) (dV Z Z (fun zw hx=>ac tu2 Z Z (ak (eH2.s2FBox hx 4 Z Z Z) Z)) (dV Z Z (fun zw hx=>ab eX Z ts2 Z Z) (dV Z Z (fun zw hx=>ac tu2 Z Z (ak (eH2.s2FBox hx 0 Z Z Z) Z)) (dV Z Z (fun zw hx=>ab eX Z bf Z Z) (dV Z Z (fun zw hx=>ac bc Z Z (ak (eH2.s2FBox hx 0 Z Z Z) Z)) (dF Z ?_ ?_))))))))))))
 ·refine bh Z ae Z Z (ac cm Z Z (bw (H2.holAt 2 Z) 0 Z)) (dV Z Z (fun zw hx=>aF cm dW Z Z ee2 i ω ω) (dV Z Z (fun zw hx=>ab d8 Z gb Z Z) (dF Z ?_ ?_)))
  ·refine bh Z ae Z Z (ac dg Z Z (bw (H2.holAt 5 Z) 1 Z)) (bi Z ae Z Z (aD func190 Z bt Z) (bb (H2.sees 5 Z) ω) (fun hS _ _ r _=>eH2.s2Call hS r.1) (fun v1 w1 r1=>?_));obtain ⟨e1,r1⟩:=r1;obtain ⟨fp1,H3⟩:=H2.res e1 r1;obtain ⟨a1,k1,q2⟩:=ax (H3.mine 8 Z);cases q2;refine dV Z Z (fun zw hx=>aT eH Z Z) (dV Z Z (fun zw hx=>aF dg dX Z Z ee3 row.toNat ω ω) ?_);have H5:=H3.packB 8 x.Stamp Z xK
   try dsimp only[lNA,lCA,lSZ,lSS] at H5
   refine hP Z ae dX H5 7 8 Z Z Z row.toNat ω Z ee3 Z (fun w2 fp2 H4=>?_)
   try dsimp only[lNA,lCA,lSZ,lSS] at H4
   refine aS (hN _ _ (ws results215 ?_));obtain ⟨fp3,H6⟩:=Drive.fill H4 5 7 Z Z Z trivial
   try dsimp only[lNA,lCA,lSZ,lSS] at H6
   obtain ⟨fp4,H7⟩:=H6.fill 2 5 Z Z Z
   try dsimp only[lNA,lCA,lSZ,lSS] at H7
   obtain ⟨fp5,H8⟩:=H7.closeW 0 2 3 4 (fE g.toNat i row.toNat x z) Z Z Z Z Z Z Z Z Z Z (eT wok1)
   try dsimp only[lNA,lCA,lSZ,lSS] at H8
   exact H8.doneW
  ·refine bi Z ae Z Z (aD func190 Z bt Z) (bb (H2.sees 5 Z) ω) (fun hS _ _ r _=>eH2.s2Call hS r.1) (fun v2 w3 r2=>?_);obtain ⟨e3,r2⟩:=r2;obtain ⟨fp6,H9⟩:=H2.res e3 r2;obtain ⟨a2,k2,q3⟩:=ax (H9.mine 8 Z);cases q3;refine dV Z Z (fun zw hx=>aT eH Z Z) (bh Z ae Z Z (ac dg Z Z (bw (H9.holAt 5 Z) 1 Z)) (dV Z Z (fun zw hx=>aF dg dX Z Z ee3 row.toNat ω ω) ?_));have H11:=H9.packB 8 x.Stamp Z xK
   try dsimp only[lNA,lCA,lSZ,lSS] at H11
   refine hP Z ae dX H11 7 8 Z Z Z row.toNat ω Z ee3 Z (fun w4 fp7 H10=>?_)
   try dsimp only[lNA,lCA,lSZ,lSS] at H10
   refine aS (hN _ _ (ws results215 ?_));obtain ⟨fp8,H12⟩:=Drive.fill H10 5 7 Z Z Z trivial
   try dsimp only[lNA,lCA,lSZ,lSS] at H12
   obtain ⟨fp9,H13⟩:=H12.fill 2 5 Z Z Z
   try dsimp only[lNA,lCA,lSZ,lSS] at H13
   obtain ⟨fp10,H14⟩:=H13.closeW 0 2 3 4 (fE g.toNat i row.toNat x z) Z Z Z Z Z Z Z Z Z Z (eT wok1)
   try dsimp only[lNA,lCA,lSZ,lSS] at H14
   exact H14.doneW
 ·refine bi Z ae Z Z (aD func190 Z bt Z) (bb (H2.sees 5 Z) ω) (fun hS _ _ r _=>eH2.s2Call hS r.1) (fun v3 w5 r3=>?_);obtain ⟨e5,r3⟩:=r3;obtain ⟨fp11,H15⟩:=H2.res e5 r3;obtain ⟨a3,k3,q4⟩:=ax (H15.mine 8 Z);cases q4;refine dV Z Z (fun zw hx=>aT eH Z Z) (bh Z ae Z Z (ac cm Z Z (bw (H15.holAt 2 Z) 0 Z)) (dV Z Z (fun zw hx=>aF cm dW Z Z ee2 i ω ω) (dV Z Z (fun zw hx=>ab d8 Z gb Z Z) (bh Z ae Z Z (ac dg Z Z (bw (H15.holAt 5 Z) 1 Z)) (dV Z Z (fun zw hx=>aF dg dX Z Z ee3 row.toNat ω ω) ?_)))));have H17:=H15.packB 8 x.Stamp Z xK
  try dsimp only[lNA,lCA,lSZ,lSS] at H17
  refine hP Z ae dX H17 7 8 Z Z Z row.toNat ω Z ee3 Z (fun w6 fp12 H16=>?_)
  try dsimp only[lNA,lCA,lSZ,lSS] at H16
  refine aS (hN _ _ (ws results215 ?_));obtain ⟨fp13,H18⟩:=Drive.fill H16 5 7 Z Z Z trivial
  try dsimp only[lNA,lCA,lSZ,lSS] at H18
  obtain ⟨fp14,H19⟩:=H18.fill 2 5 Z Z Z
  try dsimp only[lNA,lCA,lSZ,lSS] at H19
  obtain ⟨fp15,H20⟩:=H19.closeW 0 2 3 4 (fE g.toNat i row.toNat x z) Z Z Z Z Z Z Z Z Z Z (eT wok1)
  try dsimp only[lNA,lCA,lSZ,lSS] at H20
  exact H20.doneW
theorem fo {w:World}{z:Wld}{zb i:Nat}{fp:List Nat}{g row:Int}{x:Block}{xA1:Option Addr}{xC1:Nat}{xF1:List Nat}(o:OwnW w zb 34 z fp) (nd:fp.Nodup) (xK:x.Ok) (xO1:own false w [.slice xA1 x.Bytes.length xC1] x.Bytes xF1) (xD1:∀ b∈xF1,b ∉ fp) (hg:0≤g∧g.toNat<z.Groups.length) (hi:i<(z.Groups.getD g.toNat []).length) (hr:0≤row∧row.toNat<((z.Groups.getD g.toNat []).getD i default).Blocks.length) (hl:x.Bytes.length≤1000000) (hw:z.Writes≤2000000000):Ret Tryz.prog 136 #[.pointer (some ⟨zb,0,none⟩),.int .i64 g,.int .i64 i,.int .i64 row,x.val xA1 xC1] w fun v w'=>(v = .bool (!cd z)∧MutW w w' fp zb 34 (fP g.toNat i row.toNat x z)):=by
 have xK2:=xK;unfold Block.Ok at xK2
 try unfold I64ok at xK2
 try unfold maxLen at xK2
 have xL1:=oL xO1;refine aV func136 Z ntmps136 Z (fun Q hQ hN=>?_);have H0:=(Sep.beginW o nd).seeF (xO1) xD1
 try dsimp only[lNA,lCA,lSZ,lSS] at H0
 refine ah (bE ae Z Z H0 (fun b1 w1 e1 g1 H1=>bE ae Z Z H1 (fun b2 w2 e2 g2 H2=>bE ae Z Z H2 (fun b3 w3 e3 g3 H3=>bE ae Z Z H3 (fun b4 w4 e4 g4 H4=>bE ae Z Z H4 (fun b5 w5 e5 g5 H5=>sA Z Z (aa (ah (sLd zJ (H5.box 1 Z) Z (sV Z (rx Z) (sC func191 uo Z (lJ (H5.wldAt 0 Z) (H5.nodup1 (i:=0) Z) (y:=fE g.toNat i row.toNat x z) func215 Z uw (fun w1 fp1 o1 n1 s1 e1=>ir o1 n1 (H5.boxFar 0 5 Z Z Z s1 e1).1 (H5.boxFar 0 5 Z Z Z s1 e1).2 (H5.boxFar 0 1 Z Z Z s1 e1).1 (H5.boxFar 0 1 Z Z Z s1 e1).2 (H5.boxFar 0 2 Z Z Z s1 e1).1 (H5.boxFar 0 2 Z Z Z s1 e1).2 (H5.boxFar 0 3 Z Z Z s1 e1).1 (H5.boxFar 0 3 Z Z Z s1 e1).2 (H5.boxFar 0 4 Z Z Z s1 e1).1 (H5.boxFar 0 4 Z Z Z s1 e1).2 (H5.seeFar 0 0 Z Z s1 e1).1 (H5.seeFar 0 0 Z Z s1 e1).2 xK hg hi hr hl) ξ) (fun v1 w6 r1=>?_))))))))))));obtain ⟨rfl,mm1⟩:=r1;obtain ⟨fp1,H6⟩:=H5.mutW 0 Z mm1
 try dsimp only[lNA,lCA,lSZ,lSS] at H6
 refine rA hQ results136 Z ?_;exact ⟨Z,H6.doneW⟩
end Go.Wk
namespace Go.Wk
open Go.Proofs Rp Go.Proofs.Tryz
set_option maxRecDepth 10000
theorem nG {w:World}{xs:List UInt8}{xsA:Option Addr}{xsC:Nat}{c:UInt8}(xsS:Sees w [.slice xsA xs.length xsC] xs) (hl:xs.length≤100000):Ret Tryz.prog 212 #[.slice xsA xs.length xsC,.int .u8 c.toNat] w fun v w'=>Ext No w w'∧(Res w w' [v] (bJ xs c)):=by
 have xsL:=sL xsS;obtain ⟨xsF,xsO⟩:=xsS;refine aV func212 Z ntmps212 Z (fun Q hQ hN=>?_);have H0:=Sep.start (an xsO aP);refine ah (sA Z Z (aa (ah (sM Z Z (sV Z (aU bc Z) (mh ae Z bc bW lV Z ω (by unfold maxLen; omega) H0 (fun b1 w1 e1 g1 H1=>sA Z Z (aa (ag ?_)))))))));have rl:(List.replicate xs.length (0:UInt8)).length=xs.length:=List.length_replicate;refine aw (sR 3 Z (sC func214 mb Z (js (H1.mine 0 Z) (H1.nodup1 (i:=0) Z) (am (H1.seen 0 Z)) (fun b hb=>H1.off 0 Z 0 Z hb) ξ) (fun v1 w2 r1=>?_)));obtain ⟨fp1,H2⟩:=H1.mut 0 Z r1;refine aa (ah (sR 2 Z (rN hQ results212 Z ?_)))
 exact ⟨H2.ext,by
  have h:=H2.out 0 Z
  rwa [nN (ep xs c)] at h⟩
end Go.Wk
namespace Go.Wk
open Go.Proofs Rp Go.Proofs.Tryz
set_option maxRecDepth 10000
theorem iv {w:World}{s:Shape}(hs:s.ok=true):Ret Tryz.prog 131 #[s.v] w fun v w'=>Ext No w w'∧(v = .agg #[.int .i64 (s.Data.toNat:Nat),.int .i64 (s.Spare.toNat:Nat)]):=by
 have sbd:=aZ hs;refine aV func131 Z ntmps131 Z (fun Q hQ hN=>?_);have H0:=Sep.start (w:=w) (F:=[]) σ;refine ah (bE ae Z Z H0 (fun b1 w1 e1 g1 H1=>bQ ae Z zeroValue148 H1 (fun b2 w2 e2 g2 H2=>aa (ah (sF aX Z ts2 (sLd tu2 (H2.box 0 Z) Z (sF aX Z ts2 (sLd tu2 (H2.box 0 Z) Z (sV Z (aT uF Z Z) (aO ae va Z Z Z Z H2 1 Z Z (fun w3 e3 H3=>?_)))))))))));dsimp only[lNA,lCA,lSZ,lSS,aC] at H3;refine aa (bl (hQ _ _ (cq results131 Z (au mW Z va Z (At.whole (H3.box 1 Z))) (⟨H3.ext,?_⟩))));rw [Int.toNat_of_nonneg ω,Int.toNat_of_nonneg ω]
 rfl
end Go.Wk
namespace Go.Wk
open Go.Proofs Rp Go.Proofs.Tryz
set_option maxRecDepth 10000
theorem np {w:World}{i j:Int}(hj:0≤j∧j≤900):Ret Tryz.prog 213 #[.int .i64 i,.int .i64 j] w fun v w'=>Ext No w w'∧(v = .int .u8 (cauchy (8+j) i).toNat):=by
 refine aV func213 Z ntmps213 Z (fun Q hQ hN=>?_);have H0:=Sep.start (w:=w) (F:=[]) σ;refine ah (sA Z Z (aa (ah (sM Z Z (sV Z (aN Z Z iO) (sV Z (gD tu2 tu5 Z) (sM Z Z (sV Z (gD tu2 tu5 Z) (sV Z (je Z Z) (sE func258 pb Z (lR (a:=1)) H0 (fun w1 e1 H1=>rA hQ results213 Z ?_)))))))))));exact ⟨H1.ext,by rw [jK,cauchy,show (128:Int)+(8+j)=136+j by omega]⟩
theorem mz {w:World}{s:Shape}(hs:s.ok=true):Ret Tryz.prog 116 #[s.v] w fun v w'=>Ext No w w'∧(v = .int .i64 ((s.Groups+s.Column).toNat:Nat)):=by
 have sbd:=aZ hs;refine aV func116 Z ntmps116 Z (fun Q hQ hN=>?_);have H0:=Sep.start (w:=w) (F:=[]) σ;refine ah (bE ae Z Z H0 (fun b1 w1 e1 g1 H1=>sA Z Z (aa (ah (sF aX Z ts2 (sLd tu2 (H1.box 0 Z) Z (sF aX Z ts2 (sLd tu2 (H1.box 0 Z) Z (sV Z (aN Z Z iO) (sA Z Z (aa (rT hQ results116 Z (⟨H1.ext,?_⟩)))))))))))));rw [Int.toNat_of_nonneg ω]
end Go.Wk
