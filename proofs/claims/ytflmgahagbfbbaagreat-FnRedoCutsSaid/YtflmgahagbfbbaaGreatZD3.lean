/-
  Laws on walking, and the functions walked, each once: what this claim comes to.
-/
import Derived.Test.YtflmgahagbfbbaaGreatZD2
set_option linter.unusedVariables false
set_option linter.unusedSimpArgs false
namespace Go.Wk
open Rp (sz own)
def addedL (z:Wld) (g:Int) (r:Rec):List (List UInt8):=
  fH z.Shape.Data.toNat (z.Shape.Data.toNat+z.Shape.Spare.toNat) (bJ r.Delta (cauchy (8+(g-z.Shape.Groups)) r.Group))
def cG (z:Wld) (r:Rec):List (List UInt8):=fH z.Shape.Data.toNat (z.Shape.Data.toNat+z.Shape.Spare.toNat) r.Data
def fh (z:Wld) (g:Int) (r:Rec):List (List UInt8):=if ins g 0 (z.Shape.Groups-1)=true then cG z r else addedL z g r
def dQ (z:Wld) (g i row:Nat):Block:=(bF z g i).Blocks.getD row default
def dl (z:Wld) (g:Int) (i:Nat) (r:Rec) (row:List UInt8):List UInt8:=if ins g 0 (z.Shape.Groups-1)=true then row else fc row (dQ z g.toNat i r.Row.toNat).Bytes
def dv (z:Wld) (g i:Nat) (r:Rec):Bool:=(bF z g i).Wiped || decide (r.Seq≤(dQ z g i r.Row.toNat).Stamp)
def redoI (rows:List (List UInt8)) (g:Int) (r:Rec):Nat→Nat→Wld→Bool × Wld
  | 0,_,z=>(true,z)
  | n + 1,i,z=>if dv z g.toNat i r=true then redoI rows g r n (i+1) z else
      if cd z=true then (false,fP g.toNat i r.Row.toNat ⟨r.Seq,dl z g i r (rows.getD i [])⟩ z)
      else redoI rows g r n (i+1) (fP g.toNat i r.Row.toNat ⟨r.Seq,dl z g i r (rows.getD i [])⟩ z)
def dH (z:Wld):Nat:=z.Shape.Data.toNat+z.Shape.Spare.toNat
def dr (z:Wld) (g:Int) (r:Rec):Bool × Wld:=redoI (fh z g r) g r (dH z) 0 z
section
variable {z:Wld}{g i row j n:Nat}{b:Block}{r:Rec}{rows:List (List UInt8)}
theorem qb {α:Type}{xs:List α}{k:Nat}{d:α}(h:k<xs.length):xs.set k (xs.getD k d)=xs:=by
  rw [eG h]; exact List.set_getElem_self h
theorem fb (hg:g<z.Groups.length) (hi:i<(z.Groups.getD g []).length) (hr:row<((z.Groups.getD g []).getD i default).Blocks.length):fE g i row (dQ z g i row) z=z:=by
  unfold fE dQ bF
  rw [qb hr]
  have e:(⟨((z.Groups.getD g []).getD i default).Wiped,((z.Groups.getD g []).getD i default).Blocks⟩:Drive)=(z.Groups.getD g []).getD i default:=rfl
  rw [e,qb hi,qb hg]
theorem lw {g:Int}(h:¬ i<n):redoI rows g r (n-i) i z=(true,z):=by rw [show n-i=0 by omega]; rfl
theorem gQ {g:Int}(h:i<n) (c:dv z g.toNat i r=true):redoI rows g r (n-i) i z=redoI rows g r (n-(i+1)) (i+1) z:=by
  rw [show n-i=(n-(i+1))+1 by omega,redoI,if_pos c]
theorem mj {g:Int}(h:i<n) (c:dv z g.toNat i r=false) (p:cd z=false):redoI rows g r (n-i) i z=redoI rows g r (n-(i+1)) (i+1) (fP g.toNat i r.Row.toNat ⟨r.Seq,dl z g i r (rows.getD i [])⟩ z):=by
  rw [show n-i=(n-(i+1))+1 by omega,redoI,if_neg (by rw [c]; simp),if_neg (by rw [p]; simp)]
theorem kv {g:Int}(h:i<n) (c:dv z g.toNat i r=false) (p:cd z=true):redoI rows g r (n-i) i z=(false,fP g.toNat i r.Row.toNat ⟨r.Seq,dl z g i r (rows.getD i [])⟩ z):=by
  rw [show n-i=(n-(i+1))+1 by omega,redoI,if_neg (by rw [c]; simp),if_pos p]
theorem ej (hg:g<z.Groups.length) (hi:i<(z.Groups.getD g []).length) :
    (fP g i row b z).Groups.length=z.Groups.length∧((fP g i row b z).Groups.getD g []).length=(z.Groups.getD g []).length∧∀ j,j≠i→bF (fP g i row b z) g j=bF z g j:=by
  unfold fP qg
  split
  · exact ⟨rfl,rfl,fun _ _=>rfl⟩
  · have e:(gE (fE g i row b z)).Groups=z.Groups.set g ((z.Groups.getD g []).set i ⟨(bF z g i).Wiped,(bF z g i).Blocks.set row b⟩):=rfl
    have e2:(z.Groups.set g ((z.Groups.getD g []).set i ⟨(bF z g i).Wiped,(bF z g i).Blocks.set row b⟩)).getD g []=(z.Groups.getD g []).set i ⟨(bF z g i).Wiped,(bF z g i).Blocks.set row b⟩:=by rw [eV,if_pos ⟨rfl,hg⟩]
    refine ⟨by rw [e,List.length_set],by rw [e,e2,List.length_set],fun j hj=>?_⟩
    unfold bF
    rw [e,e2,eV,if_neg (fun q=>hj q.1)]
theorem fG {g:Int}(hs:z.Shape.ok=true) (hG:bG z=true) (hg:ins g 0 (z.Shape.Groups+z.Shape.Column-1)=true) (hm:fK z.Shape r=0) (hk:r.Kind=2) :
    g.toNat<z.Groups.length∧(z.Groups.getD g.toNat []).length=dH z∧(∀ i,i<dH z→r.Row.toNat<(bF z g.toNat i).Blocks.length∧((bF z g.toNat i).Blocks.getD r.Row.toNat default).Bytes.length=4) ∧
      r.Data.length=z.Shape.Data.toNat*4∧(r.Delta.length:Int)=z.Shape.Data*4∧(1≤r.Seq∧r.Seq≤1000000000∧0≤r.Row∧0≤r.Group∧r.Group<z.Shape.Groups):=by
  have sbd:=aZ hs
  have hgi:=bD.1 hg
  obtain ⟨h1,h2⟩:=fg hG
  obtain ⟨h3,h4⟩:=h2 g.toNat ω
  have hd:dH z=z.Shape.Data.toNat+z.Shape.Spare.toNat:=rfl
  have hi:ins r.Kind 1 4=true:=by rw [hk]; rfl
  unfold fK at hm
  rw [if_pos hi] at hm
  have hq:ins r.Seq 1 1000000000=true:=by
    cases c:ins r.Seq 1 1000000000
    · rw [c] at hm; simp at hm
    · rfl
  rw [if_pos hq] at hm
  have hkf:eY z.Shape r=0:=by
    by_cases c:eY z.Shape r≠0
    · rw [if_pos c] at hm; exact absurd hm c
    · omega
  have hmv:fw z.Shape r=true:=by
    unfold eY at hkf
    rw [if_neg ω,if_pos hk] at hkf
    cases c:fw z.Shape r
    · rw [c] at hkf; simp at hkf
    · rfl
  unfold fw at hmv
  simp only [Bool.and_eq_true,decide_eq_true_eq,bD] at hmv
  have hq2:=bD.1 hq
  refine ⟨ω,ω,fun i hi=>?_,ω,hmv.2,ω⟩
  obtain ⟨h5,h6⟩:=h4 i ω
  have h7:r.Row.toNat<(bF z g.toNat i).Blocks.length:=by unfold bF; omega
  exact ⟨h7,(kP (h6 r.Row.toNat (by unfold bF at h7; exact h7))).2.2⟩
theorem gS:(fP g i row b z).Shape=z.Shape:=by unfold fP qg; split<;>rfl
theorem dD:z.Writes≤(fP g i row b z).Writes∧(fP g i row b z).Writes≤z.Writes+1:=by
  unfold fP qg; split
  · show z.Writes≤z.Writes∧z.Writes≤z.Writes+1; omega
  · show z.Writes≤z.Writes+1∧z.Writes+1≤z.Writes+1; omega
theorem qA (h:cd z=false):(fP g i row b z).Down=z.Down:=by unfold fP; rw [ik h]; rfl
theorem rq (h:((z.Groups.getD g []).getD i default).Wiped=true):dv z g i r=true:=by unfold dv bF; rw [h]; rfl
theorem rF (h:r.Seq≤(((z.Groups.getD g []).getD i default).Blocks.getD r.Row.toNat default).Stamp):dv z g i r=true:=by unfold dv dQ bF; rw [decide_eq_true h]; simp
theorem li (h1:((z.Groups.getD g []).getD i default).Wiped=false) (h2:¬ r.Seq≤(((z.Groups.getD g []).getD i default).Blocks.getD r.Row.toNat default).Stamp):dv z g i r=false:=by
  unfold dv dQ bF; rw [h1,decide_eq_false h2]; rfl
theorem jQ (h:cd z=false):fP g i row b z=gE (fE g i row b z):=by unfold fP; exact ik h
end
def dx (z:Wld) (g:Int) (r:Rec):Bool:=decide (fK z.Shape r≠0) || (decide (r.Kind≠2) || (ins g 0 (z.Shape.Groups-1) && decide (r.Group≠g)))
def be (z:Wld) (g:Int) (r:Rec):WldResult:=
  if dt z g 0=0 then if dx z g r=true then ⟨1,noWld⟩ else ⟨if (dr z g r).1=true then 0 else 9,(dr z g r).2⟩ else ⟨dt z g 0,noWld⟩
section
variable {z:Wld}{g:Int}{r:Rec}
theorem vQ (h:z.Shape.ok=true):nB z g 0=fi z g:=by
  have sbd:=aZ h
  unfold nB fi
  rw [show ins 0 0 (z.Shape.Rows-1)=true from bD.2 ω]
  simp
theorem jO (h:dt z g 0≠0):be z g r=⟨dt z g 0,noWld⟩:=if_neg h
theorem mQ (h:dt z g 0=0) (h2:dx z g r=true):be z g r=⟨1,noWld⟩:=by rw [be,if_pos h,if_pos h2]
theorem iW (h:dt z g 0=0) (h2:dx z g r=false):be z g r=⟨if (dr z g r).1=true then 0 else 9,(dr z g r).2⟩:=by rw [be,if_pos h,if_neg (by rw [h2]; simp)]
theorem iP (h:dx z g r=false):fK z.Shape r=0∧r.Kind=2:=by
  unfold dx at h
  simp only [Bool.or_eq_false_iff,decide_eq_false_iff_not,Decidable.not_not] at h
  exact ⟨h.1,h.2.1⟩
theorem mq (hf:z.Shape.fault=0) (hg:0≤g):dx z g r=((decide ((if z.Shape.fault≠0 then z.Shape.fault else fK z.Shape r)≠0) || decide (r.Kind≠2)) || (decide (g<z.Shape.Groups) && decide (g≠r.Group))):=by
  unfold dx
  rw [if_neg ω,Bool.or_assoc]
  have e1:ins g 0 (z.Shape.Groups-1)=decide (g<z.Shape.Groups):=by
    by_cases c:g<z.Shape.Groups
    · rw [decide_eq_true c,bD.2 ω]
    · rw [decide_eq_false c]
      cases h:ins g 0 (z.Shape.Groups-1)
      · rfl
      · have:=bD.1 h; omega
  rw [e1,show (decide (r.Group≠g))=decide (g≠r.Group) from decide_eq_decide.2 ⟨fun h e=>h e.symm,fun h e=>h e.symm⟩]
theorem u7 (h:upF z≠0):dt z g 0=upF z:=if_pos h
theorem iV (h:upF z=0):dt z g 0=fi z g:=by
  rw [dt,if_neg ω,vQ (fL (jy h).1).1]
end
end Go.Wk
namespace Go.Wk
open Go.Proofs Rp Go.Proofs.Tryz
set_option maxRecDepth 10000
theorem kC {w:World}{zb zC9 zC10 zC11 rC6 rC7 rC8:Nat}{z:Wld}{zA9 zA10 zA11 rA6 rA7 rA8:Option Addr}{g:Int}{r:Rec}(zB:w.heap[zb]? = some (.cells [.int .i64 z.Shape.Groups,.int .i64 z.Shape.Column,.int .i64 z.Shape.Data,.int .i64 z.Shape.Spare,.int .i64 z.Shape.Rows,.int .i64 z.Shape.Cap,.int .i64 z.Shape.Batch,.int .i64 z.Shape.Queue,.int .i64 z.Shape.Stage,.slice zA9 z.Groups.length zC9,.slice zA10 z.On.length zC10,.slice zA11 z.Tapes.length zC11,.int .i64 z.Writes,.int .i64 z.Stop,.bool z.Down].toArray 34)) (zK:z.Ok) (zS9:Sees w [.slice zA9 z.Groups.length zC9] z.Groups) (zS10:Sees w [.slice zA10 z.On.length zC10] z.On) (zS11:Sees w [.slice zA11 z.Tapes.length zC11] z.Tapes) (rK:r.Ok) (rS6:Sees w [.slice rA6 r.Rows.length rC6] r.Rows) (rS7:Sees w [.slice rA7 r.Data.length rC7] r.Data) (rS8:Sees w [.slice rA8 r.Delta.length rC8] r.Delta) (hs:z.Shape.ok=true) (hg:z.Shape.Groups≤g∧g≤100) (hd:(r.Delta.length:Int)=z.Shape.Data*4):Ret Tryz.prog 133 #[.pointer (some ⟨zb,0,none⟩),.int .i64 g,r.val rA6 rC6 rA7 rC7 rA8 rC8] w fun v w'=>Ext No w w'∧(Res w w' [v] (addedL z g r)):=by
 have zK2:=zK;unfold Wld.Ok Shape.Ok at zK2
 try unfold I64ok at zK2
 try unfold maxLen at zK2
 have zL9:=sL zS9;obtain ⟨zF9,zO9⟩:=zS9;have zL10:=sL zS10;obtain ⟨zF10,zO10⟩:=zS10;have zL11:=sL zS11;obtain ⟨zF11,zO11⟩:=zS11;have rK2:=rK;unfold Rec.Ok at rK2
 try unfold I64ok at rK2
 try unfold maxLen at rK2
 have rN2:r.Name.size≤maxLen:=by unfold maxLen; omega
 have rL6:=sL rS6;obtain ⟨rF6,rO6⟩:=rS6;have rL7:=sL rS7;obtain ⟨rF7,rO7⟩:=rS7;have rL8:=sL rS8;obtain ⟨rF8,rO8⟩:=rS8;have sbd:=aZ hs;refine aV func133 Z ntmps133 Z (fun Q hQ hN=>?_);have H0:=Sep.start (lu zB (an zO9 (an zO10 (an zO11 (an rO6 (an rO7 (an rO8 aP)))))));refine ah (bE ae Z Z H0 (fun b1 w1 e1 g1 H1=>sA Z Z (aa (ag (bv (S:=Ext No _) (oQ [1,3,5,7,11,13,15,17,19,21,23,25,27,29,31,8,32,34,36,38]) κ κ κ Z (fun _=>Ext.refl.drawn _) (fun q1=>?_))))));have H2:=H1.drawn q1;refine dR 2 Z (dV Z Z (fun zw hx=>ab aJ Z ba Z Z) (dV Z Z (fun zw hx=>aj aX Z ba Z Z (At.sub (hx.heap (H2.fbox 0 Z)) 9)) (dV Z Z (fun zw hx=>ab az Z bf Z Z) (dV Z Z (fun zw hx=>ac bc Z Z (ak (hx.heap (H2.box 0 Z)) Z)) (dV Z Z (fun zw hx=>ab az Z ts2 Z Z) (dV Z Z (fun zw hx=>ac tu2 Z Z (ak (hx.heap (H2.box 0 Z)) Z)) (dR 3 Z (dV Z Z (fun zw hx=>ab aJ Z ba Z Z) (dV Z Z (fun zw hx=>ab aX Z ts2 Z Z) (dV Z Z (fun zw hx=>ac tu2 Z Z (ak (hx.heap (H2.fbox 0 Z)) Z)) (dV Z Z (fun zw hx=>cQ Z Z iO) (dC func131 oS Z (iv η) (fun v1 w2 r1=>?_)))))))))))));obtain ⟨e2,rfl⟩:=r1;have H3:=H2.to e2;refine dC func213 uT Z (np ω) (fun v2 w3 r2=>?_);obtain ⟨e3,rfl⟩:=r2;have H4:=H3.to e3;refine dC func212 tB Z (nG (H4.sees 6 Z) ω) (fun v3 w4 r3=>?_);obtain ⟨e4,r3⟩:=r3;obtain ⟨fp1,H5⟩:=H4.res e4 r3;obtain ⟨a1,k1,q2⟩:=ax (H5.mine 1 Z);cases q2;refine dC func132 py Z (fR (n:=z.Shape.Data.toNat) (s:=z.Shape.Spare.toNat) ω ω ω (by rw [ep]; omega) ⟨_,am (H5.mine 1 Z)⟩) (fun v4 w5 r4=>?_);obtain ⟨e5,r4⟩:=r4;obtain ⟨fp2,H6⟩:=H5.res e5 r4;obtain ⟨a2,k2,q3⟩:=ax (H6.mine 2 Z);cases q3;refine bh Z ae Z Z (aY Z) (aS (rT hQ results133 Z ?_));exact ⟨H6.ext,H6.out 2 Z⟩
theorem fS {w:World}{z:Wld}{zb rC6 rC7 rC8:Nat}{fp rF6 rF7 rF8:List Nat}{g:Int}{r:Rec}{rA6 rA7 rA8:Option Addr}(o:OwnW w zb 34 z fp) (nd:fp.Nodup) (rK:r.Ok) (rO6:own false w [.slice rA6 r.Rows.length rC6] r.Rows rF6) (rD6:∀ b∈rF6,b ∉ fp) (rO7:own false w [.slice rA7 r.Data.length rC7] r.Data rF7) (rD7:∀ b∈rF7,b ∉ fp) (rO8:own false w [.slice rA8 r.Delta.length rC8] r.Delta rF8) (rD8:∀ b∈rF8,b ∉ fp) (hs:z.Shape.ok=true) (hG:bG z=true) (hg:ins g 0 (z.Shape.Groups+z.Shape.Column-1)=true) (hm:fK z.Shape r=0) (hk:r.Kind=2) (hw:z.Writes≤1400000000):Ret Tryz.prog 72 #[.pointer (some ⟨zb,0,none⟩),.int .i64 g,r.val rA6 rC6 rA7 rC7 rA8 rC8] w fun v w'=>(v = .int .i64 (if (dr z g r).1=true then 0 else 9)∧MutW w w' fp zb 34 ((dr z g r).2)):=by
 have rK2:=rK;unfold Rec.Ok at rK2
 try unfold I64ok at rK2
 try unfold maxLen at rK2
 have rN2:r.Name.size≤maxLen:=by unfold maxLen; omega
 have rL6:=oL rO6;have rL7:=oL rO7;have rL8:=oL rO8;have sbd:=aZ hs;have hdn:dH z=z.Shape.Data.toNat+z.Shape.Spare.toNat:=Z;obtain ⟨hgg,hgr,hro,hDl,hDe,hsq⟩:=fG hs hG hg hm hk;have hgi:=bD.1 hg;refine aV func72 Z ntmps72 Z (fun Q hQ hN=>?_);have H0:=(((Sep.beginW o nd).seeF (rO6) rD6).seeF (rO7) rD7).seeF (rO8) rD8
 try dsimp only[lNA,lCA,lSZ,lSS] at H0
 refine ah (bE ae Z Z H0 (fun b1 w1 e1 g1 H1=>sA Z Z (aa (ag ?_))));obtain ⟨wA1,wC1,wA2,wC2,wA3,wC3,wf1,wf2,wf3,wok1,H2⟩:=H1.openW 0 Z
 try dsimp only[lNA,lCA,lSZ,lSS] at H2
 have wok1U:=wok1;unfold Wld.Ok Shape.Ok I64ok at wok1U;have wL1:=oL (H2.mine 3 Z);have wL2:=oL (H2.mine 4 Z);have wL3:=oL (H2.mine 5 Z);refine aw (sR 2 Z (sF aJ Z ba (sV Z (aj aX Z ba Z Z (At.sub (H2.box 0 Z) 9)) (sM Z Z (sE func71 lr Z (dU η) H2 (fun w2 e2 H3=>sA Z Z (aa (ah (ew (α:=(List UInt8)) ae Z eJ dZ H3 (fun b2 w3 e3 g2 H4=>sA Z Z (aa (ag (ah (sM Z Z (aa (cI Z (fun c1=>?_) (fun c1=>?_)))))))))))))))))
 ·refine bv (S:=Ext No _) (oQ [1,3,5,7,11,13,8,14,16]) κ κ κ Z (fun _=>Ext.refl.drawn _) (fun q1=>?_);have H5:=H4.drawn q1;refine dR 2 Z (dV Z Z (fun zw hx=>ab aJ Z ba Z Z) (dV Z Z (fun zw hx=>aj aX Z ba Z Z (At.sub (hx.heap (H5.box 0 Z)) 9)) (dV Z Z (fun zw hx=>ab az Z bf Z Z) (dV Z Z (fun zw hx=>ac bc Z Z (ak (hx.heap (H5.box 1 Z)) Z)) (dC func131 oS Z (iv η) (fun v2 w4 r2=>?_))))));obtain ⟨e4,rfl⟩:=r2;have H6:=H5.to e4;refine dC func132 py Z (fR (n:=z.Shape.Data.toNat) (s:=z.Shape.Spare.toNat) ω ω ω ω ⟨_,am (H6.seen 1 Z)⟩) (fun v3 w5 r3=>?_);obtain ⟨e5,r3⟩:=r3;obtain ⟨fp1,H7⟩:=H6.res e5 r3;obtain ⟨a1,k1,q2⟩:=ax (H7.mine 7 Z);cases q2;refine bh Z ae Z Z (aY Z) (aS (ag (ah (sR 2 Z (sF aJ Z ba (sV Z (aj aX Z ba Z Z (At.sub (H7.box 0 Z) 9)) (sE func134 l0 Z (eS η) H7 (fun w6 e6 H8=>sM Z Z (aa (ay ?_))))))))));have H9:=H8.share 7 Z
  try dsimp only[lNA,lCA,lSZ,lSS] at H9
  obtain ⟨fp2,H10⟩:=H9.closeW 0 3 4 5 z Z Z Z Z Z Z Z Z Z Z wok1
  try dsimp only[lNA,lCA,lSZ,lSS] at H10
  have hRl:(cG z r).length=dH z:=by unfold cG; exact i9
  have hRe:fh z g r=(cG z r):=if_pos c1;refine cp (γ:=Nat × Wld × List Nat) (fun (i,zi,f)=>[(0,.pointer (some ⟨zb,0,none⟩)),(1,.int .i64 g),(5,.pointer (some ⟨b1,0,none⟩)),(7,.bool (ins g 0 (z.Shape.Groups-1))),(8,.slice a1 (cG z r).length k1),(37,.int .i64 (z.Shape.Data+z.Shape.Spare)),(38,.int .i64 i)]) (fun (i,zi,f) w'=>Sep (· ∈ fp) w [wldR zb 34 zi f,box b1 (.cells [.int .i64 r.Kind,.int .i64 r.Seq,.string r.Name,.int .i64 r.Length,.int .i64 r.Group,.int .i64 r.Row,.slice rA6 r.Rows.length rC6,.slice rA7 r.Data.length rC7,.slice rA8 r.Delta.length rC8].toArray 47)] [seen false [.slice rA6 r.Rows.length rC6] r.Rows rF6,seen false [.slice rA7 r.Data.length rC7] r.Data rF7,seen false [.slice rA8 r.Delta.length rC8] r.Delta rF8,seen true [.slice a1 (cG z r).length k1] (cG z r) fp1] w'∧i≤dH z∧dr z g r=redoI (cG z r) g r (dH z-i) i zi∧zi.Shape=z.Shape∧zi.Groups.length=z.Groups.length∧(zi.Groups.getD g.toNat []).length=(z.Groups.getD g.toNat []).length∧(∀ j,i≤j→bF zi g.toNat j=bF z g.toNat j)∧zi.Writes≤z.Writes+i) (fun (i,zi,f)=>dH z-i) (0,z,_) ⟨Z,Z,Z,Z,Z,Z,Z,trivial⟩ ⟨(H10.dtake 2),by (try dsimp only); omega,(by rw [← hRe]; rfl),Z,Z,Z,fun _ _=>Z,by (try dsimp only); omega⟩ (fun (i,zi,f) w7 H11=>?_);obtain ⟨H11,hi,hdl,hsh,hgl,hgn,hdv,hw2⟩:=H11;refine ah (sV Z (bq Z Z) (aa (ag (aA Z (fun c2=>?_) (fun c2=>?_)))))
  ·refine ar (ag (ay (ah (sR 2 Z (aa (ag ?_))))));have hdr:=hdv i (Nat.le_refl i);have hq1:g.toNat<zi.Groups.length:=by omega
   have hq2:i<(zi.Groups.getD g.toNat []).length:=by omega
   have hq3:r.Row.toNat<((zi.Groups.getD g.toNat []).getD i default).Blocks.length:=by
    have e:(zi.Groups.getD g.toNat []).getD i default=(z.Groups.getD g.toNat []).getD i default:=hdr;rw [e]; exact (hro i ω).1
   have hq4:(dQ zi g.toNat i r.Row.toNat).Bytes.length=4:=by
    unfold dQ; rw [hdr]; exact (hro i ω).2
   obtain ⟨wA4,wC4,wA5,wC5,wA6,wC6,wf4,wf5,wf6,wok2,H12⟩:=H11.openW 0 Z
   try dsimp only[lNA,lCA,lSZ,lSS] at H12
   have wok2U:=wok2;unfold Wld.Ok Shape.Ok I64ok at wok2U;have wL4:=oL (H12.mine 3 Z);have wL5:=oL (H12.mine 4 Z);have wL6:=oL (H12.mine 5 Z);obtain ⟨eb1,eo1,eT1,eF1,eG1,ea1,ek1,eg1,ee1,eH1⟩:=H12.focusL 3 Z g.toNat ω
   try dsimp only[lNA,lCA,lSZ,lSS] at eH1
   obtain ⟨eb2,eo2,eT2,eF2,eG2,ea2,ek2,eg2,ee2,eK1,eH2⟩:=Drive.focus eH1 6 Z i ω;have eK1U:=eK1;unfold Drive.Ok at eK1U
   try unfold I64ok at eK1U
   try unfold maxLen at eK1U
   try dsimp only[lNA,lCA,lSZ,lSS] at eH2
   refine aw (sR 2 Z (sF aJ Z df (sLd bT (eH2.box 0 Z) Z (sM Z Z (sV Z (aF bT fB Z Z ee1 g.toNat ω ω) (sV Z (ac cm Z Z (bw (eH2.holAt 3 Z) 0 Z)) (sM Z Z (sV Z (aF cm dW Z Z ee2 i ω ω) (sV Z (aj d8 Z dW Z Z (eH2.holAt 6 Z)) (bQ ae Z zeroValue54 eH2 (fun b3 w8 e7 g3 H13=>aO ae dW Z Z Z Z H13 9 Z Z (fun w9 e8 H14=>?_))))))))))));dsimp only[lNA,lCA,lSZ,lSS,aC] at H14;refine aa (ag ?_);obtain ⟨eb3,eo3,eT3,eF3,eG3,ea3,ek3,eg3,ee3,eK2,eH3⟩:=Block.focus H14 8 Z r.Row.toNat ω;have eK2U:=eK2;unfold Block.Ok at eK2U
   try unfold I64ok at eK2U
   try unfold maxLen at eK2U
   try dsimp only[lNA,lCA,lSZ,lSS] at eH3
   refine aw (sF d8 Z gb (sLd dg (eH3.box 9 Z) Z (sF az Z ts2 (sLd tu2 (eH3.box 1 Z) Z (sV Z (aF dg dX Z Z ee3 r.Row.toNat ω ω) (sV Z (aj eX Z dX Z Z (eH3.holAt 8 Z)) (bQ ae Z zeroValue56 eH3 (fun b4 w10 e9 g4 H15=>aO ae dX Z Z Z Z H15 12 Z Z (fun w11 e10 H16=>?_)))))))));dsimp only[lNA,lCA,lSZ,lSS,aC] at H16;refine aa (ag (ah (sF d8 Z ts4 (sLd tu4 (H16.box 9 Z) Z (sM Z Z (bO 5 (j:=2) (want:=false) (t:=64) Z Z Z Z (fun hg1 kk1=>ao (wgE Z Z Z hg1) Z Z (ab eX Z ts2 Z Z) (ao (wgE Z Z Z hg1) Z Z (ac tu2 Z Z (ak (H16.box 12 Z) Z)) (ao (wgE Z Z Z hg1) Z Z (ab az Z ts2 Z Z) (ao (wgE Z Z Z hg1) Z Z (ac tu2 Z Z (ak (H16.box 1 Z) Z)) (ao (wgE Z Z Z hg1) Z Z (gx Z Z) (kk1 _ _ (kx Z (kx Z (kx Z (kx Z (kx Z k0))))) Z Ext.refl)))))) (fun w12 e11=>?_)))))));have H17:=H16.to e11;refine sV Z (du Z Z) (aa (cI Z (fun c3=>?_) (fun c3=>?_)))
   ·refine bd (aw (sV Z (aN Z Z iO) (sM Z Z (aa ?_))));obtain ⟨fp3,H18⟩:=Block.fill H17 8 11 Z Z Z eK2
    try dsimp only[lNA,lCA,lSZ,lSS] at H18
    obtain ⟨fp4,H19⟩:=Drive.fill H18 6 8 Z Z Z eK1
    try dsimp only[lNA,lCA,lSZ,lSS] at H19
    obtain ⟨fp5,H20⟩:=H19.fill 3 6 Z Z Z
    try dsimp only[lNA,lCA,lSZ,lSS] at H20
    obtain ⟨fp6,H21⟩:=H20.closeW 0 3 4 5 (fE g.toNat i r.Row.toNat (dQ zi g.toNat i r.Row.toNat) zi) Z Z Z Z Z Z Z Z Z Z (eT wok2)
    try dsimp only[lNA,lCA,lSZ,lSS] at H21
    rw [fb hq1 hq2 hq3] at H21;exact ⟨(i+1,zi,_),⟨Z,Z,Z,Z,Z,Z,Z,trivial⟩,⟨(H21.dtake 2),by (try dsimp only); omega,by (try dsimp only); rw [hdl,gQ ω (by unfold dv dQ bF; simpa using c3)],hsh,hgl,hgn,fun j hj=>hdv j (by (try dsimp only at hj); omega),by (try dsimp only); omega⟩,θ⟩
   ·refine ar (ag ?_);obtain ⟨eb4,eo4,ea4,ek4,ef1,ee4,ec4,eO1,eH4⟩:=dp (H17.seen 3 Z) i ω;have eP1:=H17.look1 3 Z eO1 eH4;refine aw (sR 2 Z (sV Z (aF eJ bf Z Z ee4 i ω ω) (sV Z (ac bc Z Z ec4) (sA Z Z (aa (ag (ag ?_)))))));have hrw:((cG z r).getD i []).length=4:=by unfold cG; exact iF ω i ω
    have hq5:((((zi.Groups.getD g.toNat []).getD i default).Blocks.getD r.Row.toNat default).Bytes).length=4:=hq4;have hbl:((cG z r).getD i []).length=4:=by exact hrw
    refine aw (sM Z Z (sV Z (bj Z) (aa (cI Z (fun c4=>?_) (fun c4=>?_)))))
    ·exact absurd c4 (by rw [c1]; simp)
    ·refine ar (ag ?_);obtain ⟨fp7,H22⟩:=Block.fill eP1 8 11 Z Z Z eK2
     try dsimp only[lNA,lCA,lSZ,lSS] at H22
     obtain ⟨fp8,H23⟩:=Drive.fill H22 6 8 Z Z Z eK1
     try dsimp only[lNA,lCA,lSZ,lSS] at H23
     obtain ⟨fp9,H24⟩:=H23.fill 3 6 Z Z Z
     try dsimp only[lNA,lCA,lSZ,lSS] at H24
     obtain ⟨fp10,H25⟩:=H24.closeW 0 3 4 5 (fE g.toNat i r.Row.toNat (dQ zi g.toNat i r.Row.toNat) zi) Z Z Z Z Z Z Z Z Z Z (eT wok2)
     try dsimp only[lNA,lCA,lSZ,lSS] at H25
     rw [fb hq1 hq2 hq3] at H25;have hxk:(⟨r.Seq,((cG z r).getD i [])⟩:Block).Ok:=by show I64ok r.Seq; unfold I64ok; omega
     have hxl:(⟨r.Seq,((cG z r).getD i [])⟩:Block).Bytes.length≤1000000:=by show ((cG z r).getD i []).length≤1000000; omega
     refine aw (sR 3 Z (sF az Z ts2 (sLd tu2 (H25.box 1 Z) Z (sF az Z ts2 (sLd tu2 (H25.box 1 Z) Z (sM Z Z (sV Z (aT eH Z Z) (sC func136 pJ Z (fo (H25.wldAt 0 Z) (H25.nodup1 (i:=0) Z) η (am (H25.seen 4 Z)) (fun b hb=>H25.off 4 Z 0 Z hb) ξ ξ ξ ξ ξ (x:=(⟨r.Seq,((cG z r).getD i [])⟩:Block))) (fun v5 w13 r5=>?_)))))))));obtain ⟨rfl,mm1⟩:=r5;obtain ⟨fp11,H26⟩:=H25.mutW 0 Z mm1
     try dsimp only[lNA,lCA,lSZ,lSS] at H26
     refine sV Z (bj Z) (aa (cI Z (fun c5=>?_) (fun c5=>?_)))
     ·refine ah (rA hQ results72 Z ?_);have hnb:dl zi g i r ((cG z r).getD i [])=((cG z r).getD i []):=by
       rw [dl,hsh,if_pos c1]
      have hsk:dv zi g.toNat i r=false:=by unfold dv dQ bF; simpa using c3
      obtain ⟨hf1,hf2,hf3⟩:=ej (b:=⟨r.Seq,dl zi g i r ((cG z r).getD i [])⟩) (row:=r.Row.toNat) hq1 hq2;have hf4:=(dD (g:=g.toNat) (i:=i) (row:=r.Row.toNat) (b:=⟨r.Seq,dl zi g i r ((cG z r).getD i [])⟩) (z:=zi)).2;have hnp:cd zi=true:=by simpa using c5
      have hz:=H26.doneW;rw [← hnb] at hz;rw [hdl,kv ω hsk hnp];exact ⟨Z,hz⟩
     ·refine ar (aw (sV Z (aN Z Z iO) (sM Z Z (aa ?_))));have hnb:dl zi g i r ((cG z r).getD i [])=((cG z r).getD i []):=by
       rw [dl,hsh,if_pos c1]
      have hsk:dv zi g.toNat i r=false:=by unfold dv dQ bF; simpa using c3
      obtain ⟨hf1,hf2,hf3⟩:=ej (b:=⟨r.Seq,dl zi g i r ((cG z r).getD i [])⟩) (row:=r.Row.toNat) hq1 hq2;have hf4:=(dD (g:=g.toNat) (i:=i) (row:=r.Row.toNat) (b:=⟨r.Seq,dl zi g i r ((cG z r).getD i [])⟩) (z:=zi)).2;have hnp:cd zi=false:=by simpa using c5
      have hz:=((H26.ftake 4).dtake 2);rw [← hnb] at hz;exact ⟨(i+1,fP g.toNat i r.Row.toNat ⟨r.Seq,dl zi g i r ((cG z r).getD i [])⟩ zi,_),⟨Z,Z,Z,Z,Z,Z,Z,trivial⟩,⟨hz,by (try dsimp only); omega,by (try dsimp only); rw [hdl,mj ω hsk hnp],by (try dsimp only); rw [gS]; exact hsh,by (try dsimp only); omega,by (try dsimp only); omega,fun j hj=>(hf3 j (by (try dsimp only at hj); omega)).trans (hdv j (by (try dsimp only at hj); omega)),by (try dsimp only); omega⟩,θ⟩
  ·refine bd (ah (rA hQ results72 Z ?_));have hz:=H11.doneW;rw [hdl,lw ω];exact ⟨Z,hz⟩
 ·have hgc:z.Shape.Groups≤g:=by
   have hx:¬ (0≤g∧g≤z.Shape.Groups-1):=fun q=>by have:=bD.2 q; rw [c1] at this; cases this
   omega
  refine aw (sR 2 Z (sV Z (aj az Z aW Z Z (At.whole (H4.box 1 Z))) (sC func133 tF Z (kC (H4.box 0 Z) η (H4.msees 3 Z) (H4.msees 4 Z) (H4.msees 5 Z) η (H4.sees 0 Z) (H4.sees 1 Z) (H4.sees 2 Z) ξ ξ ξ) (fun v6 w14 r6=>?_))));obtain ⟨e13,r6⟩:=r6;obtain ⟨fp12,H27⟩:=H4.res e13 r6;obtain ⟨a2,k2,q3⟩:=ax (H27.mine 7 Z);cases q3;refine sA Z Z (aa (ag (ah (sR 2 Z (sF aJ Z ba (sV Z (aj aX Z ba Z Z (At.sub (H27.box 0 Z) 9)) (sE func134 l0 Z (eS η) H27 (fun w15 e14 H28=>sM Z Z (aa (ay ?_))))))))));have H29:=H28.share 7 Z
  try dsimp only[lNA,lCA,lSZ,lSS] at H29
  obtain ⟨fp13,H30⟩:=H29.closeW 0 3 4 5 z Z Z Z Z Z Z Z Z Z Z wok1
  try dsimp only[lNA,lCA,lSZ,lSS] at H30
  have hRl:(addedL z g r).length=dH z:=by unfold addedL; exact i9
  have hRe:fh z g r=(addedL z g r):=if_neg (by rw [c1]; simp);refine cp (γ:=Nat × Wld × List Nat) (fun (i,zi,f)=>[(0,.pointer (some ⟨zb,0,none⟩)),(1,.int .i64 g),(5,.pointer (some ⟨b1,0,none⟩)),(7,.bool (ins g 0 (z.Shape.Groups-1))),(8,.slice a2 (addedL z g r).length k2),(37,.int .i64 (z.Shape.Data+z.Shape.Spare)),(38,.int .i64 i)]) (fun (i,zi,f) w'=>Sep (· ∈ fp) w [wldR zb 34 zi f,box b1 (.cells [.int .i64 r.Kind,.int .i64 r.Seq,.string r.Name,.int .i64 r.Length,.int .i64 r.Group,.int .i64 r.Row,.slice rA6 r.Rows.length rC6,.slice rA7 r.Data.length rC7,.slice rA8 r.Delta.length rC8].toArray 47)] [seen false [.slice rA6 r.Rows.length rC6] r.Rows rF6,seen false [.slice rA7 r.Data.length rC7] r.Data rF7,seen false [.slice rA8 r.Delta.length rC8] r.Delta rF8,seen true [.slice a2 (addedL z g r).length k2] (addedL z g r) fp12] w'∧i≤dH z∧dr z g r=redoI (addedL z g r) g r (dH z-i) i zi∧zi.Shape=z.Shape∧zi.Groups.length=z.Groups.length∧(zi.Groups.getD g.toNat []).length=(z.Groups.getD g.toNat []).length∧(∀ j,i≤j→bF zi g.toNat j=bF z g.toNat j)∧zi.Writes≤z.Writes+i) (fun (i,zi,f)=>dH z-i) (0,z,_) ⟨Z,Z,Z,Z,Z,Z,Z,trivial⟩ ⟨(H30.dtake 2),by (try dsimp only); omega,(by rw [← hRe]; rfl),Z,Z,Z,fun _ _=>Z,by (try dsimp only); omega⟩ (fun (i,zi,f) w16 H31=>?_);obtain ⟨H31,hi,hdl,hsh,hgl,hgn,hdv,hw2⟩:=H31;refine ah (sV Z (bq Z Z) (aa (ag (aA Z (fun c6=>?_) (fun c6=>?_)))))
  ·refine ar (ag (ay (ah (sR 2 Z (aa (ag ?_))))));have hdr:=hdv i (Nat.le_refl i);have hq1:g.toNat<zi.Groups.length:=by omega
   have hq2:i<(zi.Groups.getD g.toNat []).length:=by omega
   have hq3:r.Row.toNat<((zi.Groups.getD g.toNat []).getD i default).Blocks.length:=by
    have e:(zi.Groups.getD g.toNat []).getD i default=(z.Groups.getD g.toNat []).getD i default:=hdr;rw [e]; exact (hro i ω).1
   have hq4:(dQ zi g.toNat i r.Row.toNat).Bytes.length=4:=by
    unfold dQ; rw [hdr]; exact (hro i ω).2
   obtain ⟨wA7,wC7,wA8,wC8,wA9,wC9,wf7,wf8,wf9,wok3,H32⟩:=H31.openW 0 Z
   try dsimp only[lNA,lCA,lSZ,lSS] at H32
   have wok3U:=wok3;unfold Wld.Ok Shape.Ok I64ok at wok3U;have wL7:=oL (H32.mine 3 Z);have wL8:=oL (H32.mine 4 Z);have wL9:=oL (H32.mine 5 Z);obtain ⟨eb5,eo5,eT4,eF4,eG4,ea5,ek5,eg4,ee5,eH5⟩:=H32.focusL 3 Z g.toNat ω
   try dsimp only[lNA,lCA,lSZ,lSS] at eH5
   obtain ⟨eb6,eo6,eT5,eF5,eG5,ea6,ek6,eg5,ee6,eK3,eH6⟩:=Drive.focus eH5 6 Z i ω;have eK3U:=eK3;unfold Drive.Ok at eK3U
   try unfold I64ok at eK3U
   try unfold maxLen at eK3U
   try dsimp only[lNA,lCA,lSZ,lSS] at eH6
   refine aw (sR 2 Z (sF aJ Z df (sLd bT (eH6.box 0 Z) Z (sM Z Z (sV Z (aF bT fB Z Z ee5 g.toNat ω ω) (sV Z (ac cm Z Z (bw (eH6.holAt 3 Z) 0 Z)) (sM Z Z (sV Z (aF cm dW Z Z ee6 i ω ω) (sV Z (aj d8 Z dW Z Z (eH6.holAt 6 Z)) (bQ ae Z zeroValue54 eH6 (fun b5 w17 e15 g5 H33=>aO ae dW Z Z Z Z H33 9 Z Z (fun w18 e16 H34=>?_))))))))))));dsimp only[lNA,lCA,lSZ,lSS,aC] at H34;refine aa (ag ?_);obtain ⟨eb7,eo7,eT6,eF6,eG6,ea7,ek7,eg6,ee7,eK4,eH7⟩:=Block.focus H34 8 Z r.Row.toNat ω;have eK4U:=eK4;unfold Block.Ok at eK4U
   try unfold I64ok at eK4U
   try unfold maxLen at eK4U
   try dsimp only[lNA,lCA,lSZ,lSS] at eH7
   refine aw (sF d8 Z gb (sLd dg (eH7.box 9 Z) Z (sF az Z ts2 (sLd tu2 (eH7.box 1 Z) Z (sV Z (aF dg dX Z Z ee7 r.Row.toNat ω ω) (sV Z (aj eX Z dX Z Z (eH7.holAt 8 Z)) (bQ ae Z zeroValue56 eH7 (fun b6 w19 e17 g6 H35=>aO ae dX Z Z Z Z H35 12 Z Z (fun w20 e18 H36=>?_)))))))));dsimp only[lNA,lCA,lSZ,lSS,aC] at H36;refine aa (ag (ah (sF d8 Z ts4 (sLd tu4 (H36.box 9 Z) Z (sM Z Z (bO 5 (j:=2) (want:=false) (t:=64) Z Z Z Z (fun hg2 kk2=>ao (wgE Z Z Z hg2) Z Z (ab eX Z ts2 Z Z) (ao (wgE Z Z Z hg2) Z Z (ac tu2 Z Z (ak (H36.box 12 Z) Z)) (ao (wgE Z Z Z hg2) Z Z (ab az Z ts2 Z Z) (ao (wgE Z Z Z hg2) Z Z (ac tu2 Z Z (ak (H36.box 1 Z) Z)) (ao (wgE Z Z Z hg2) Z Z (gx Z Z) (kk2 _ _ (kx Z (kx Z (kx Z (kx Z (kx Z k0))))) Z Ext.refl)))))) (fun w21 e19=>?_)))))));have H37:=H36.to e19;refine sV Z (du Z Z) (aa (cI Z (fun c7=>?_) (fun c7=>?_)))
   ·refine bd (aw (sV Z (aN Z Z iO) (sM Z Z (aa ?_))));obtain ⟨fp14,H38⟩:=Block.fill H37 8 11 Z Z Z eK4
    try dsimp only[lNA,lCA,lSZ,lSS] at H38
    obtain ⟨fp15,H39⟩:=Drive.fill H38 6 8 Z Z Z eK3
    try dsimp only[lNA,lCA,lSZ,lSS] at H39
    obtain ⟨fp16,H40⟩:=H39.fill 3 6 Z Z Z
    try dsimp only[lNA,lCA,lSZ,lSS] at H40
    obtain ⟨fp17,H41⟩:=H40.closeW 0 3 4 5 (fE g.toNat i r.Row.toNat (dQ zi g.toNat i r.Row.toNat) zi) Z Z Z Z Z Z Z Z Z Z (eT wok3)
    try dsimp only[lNA,lCA,lSZ,lSS] at H41
    rw [fb hq1 hq2 hq3] at H41;exact ⟨(i+1,zi,_),⟨Z,Z,Z,Z,Z,Z,Z,trivial⟩,⟨(H41.dtake 2),by (try dsimp only); omega,by (try dsimp only); rw [hdl,gQ ω (by unfold dv dQ bF; simpa using c7)],hsh,hgl,hgn,fun j hj=>hdv j (by (try dsimp only at hj); omega),by (try dsimp only); omega⟩,θ⟩
   ·refine ar (ag ?_);obtain ⟨eb8,eo8,ea8,ek8,ef2,ee8,ec8,eO2,eH8⟩:=dp (H37.seen 3 Z) i ω;have eP2:=H37.look1 3 Z eO2 eH8;refine aw (sR 2 Z (sV Z (aF eJ bf Z Z ee8 i ω ω) (sV Z (ac bc Z Z ec8) (sA Z Z (aa (ag (ag ?_)))))));have hrw:((addedL z g r).getD i []).length=4:=by unfold addedL; exact iF (by rw [ep]; omega) i ω
    have hq5:((((zi.Groups.getD g.toNat []).getD i default).Blocks.getD r.Row.toNat default).Bytes).length=4:=hq4;have hbl:(fc ((addedL z g r).getD i []) (bJ ((((zi.Groups.getD g.toNat []).getD i default).Blocks.getD r.Row.toNat default).Bytes) 1)).length=4:=by rw [eW (by rw [ep]; omega)]; exact hrw
    refine aw (sM Z Z (sV Z (bj Z) (aa (cI Z (fun c8=>?_) (fun c8=>?_)))))
    ·refine aw (sM Z Z (sF eX Z bf (sLd bc (eP2.box 12 Z) Z (sC func135 tV Z (qf (eP2.sees 4 Z) (eP2.msees 11 Z) ξ (c:=1)) (fun v8 w22 r8=>?_)))));obtain ⟨e20,r8⟩:=r8;obtain ⟨fp18,H42⟩:=eP2.res e20 r8;obtain ⟨a3,k3,q4⟩:=ax (H42.mine 13 Z);cases q4;refine sA Z Z (aa (ag ?_));obtain ⟨fp19,H43⟩:=Block.fill H42 8 11 Z Z Z eK4
     try dsimp only[lNA,lCA,lSZ,lSS] at H43
     obtain ⟨fp20,H44⟩:=Drive.fill H43 6 8 Z Z Z eK3
     try dsimp only[lNA,lCA,lSZ,lSS] at H44
     obtain ⟨fp21,H45⟩:=H44.fill 3 6 Z Z Z
     try dsimp only[lNA,lCA,lSZ,lSS] at H45
     obtain ⟨fp22,H46⟩:=H45.closeW 0 3 4 5 (fE g.toNat i r.Row.toNat (dQ zi g.toNat i r.Row.toNat) zi) Z Z Z Z Z Z Z Z Z Z (eT wok3)
     try dsimp only[lNA,lCA,lSZ,lSS] at H46
     rw [fb hq1 hq2 hq3] at H46;have hxk:(⟨r.Seq,(fc ((addedL z g r).getD i []) (bJ ((((zi.Groups.getD g.toNat []).getD i default).Blocks.getD r.Row.toNat default).Bytes) 1))⟩:Block).Ok:=by show I64ok r.Seq; unfold I64ok; omega
     have hxl:(⟨r.Seq,(fc ((addedL z g r).getD i []) (bJ ((((zi.Groups.getD g.toNat []).getD i default).Blocks.getD r.Row.toNat default).Bytes) 1))⟩:Block).Bytes.length≤1000000:=by show (fc ((addedL z g r).getD i []) (bJ ((((zi.Groups.getD g.toNat []).getD i default).Blocks.getD r.Row.toNat default).Bytes) 1)).length≤1000000; omega
     refine aw (sR 3 Z (sF az Z ts2 (sLd tu2 (H46.box 1 Z) Z (sF az Z ts2 (sLd tu2 (H46.box 1 Z) Z (sM Z Z (sV Z (aT eH Z Z) (sC func136 pJ Z (fo (H46.wldAt 0 Z) (H46.nodup1 (i:=0) Z) η (am (H46.mine 13 Z)) (fun b hb=>H46.apart (i:=0) (j:=13) Z Z Z b hb) ξ ξ ξ ξ ξ (x:=(⟨r.Seq,(fc ((addedL z g r).getD i []) (bJ ((((zi.Groups.getD g.toNat []).getD i default).Blocks.getD r.Row.toNat default).Bytes) 1))⟩:Block))) (fun v9 w23 r9=>?_)))))))));obtain ⟨rfl,mm2⟩:=r9;obtain ⟨fp23,H47⟩:=H46.mutW 0 Z mm2
     try dsimp only[lNA,lCA,lSZ,lSS] at H47
     refine sV Z (bj Z) (aa (cI Z (fun c9=>?_) (fun c9=>?_)))
     ·refine ah (rA hQ results72 Z ?_);have hnb:dl zi g i r ((addedL z g r).getD i [])=(fc ((addedL z g r).getD i []) (bJ ((((zi.Groups.getD g.toNat []).getD i default).Blocks.getD r.Row.toNat default).Bytes) 1)):=by
       rw [dl,hsh,if_neg (by rw [c1]; simp),mc]
       rfl
      have hsk:dv zi g.toNat i r=false:=by unfold dv dQ bF; simpa using c7
      obtain ⟨hf1,hf2,hf3⟩:=ej (b:=⟨r.Seq,dl zi g i r ((addedL z g r).getD i [])⟩) (row:=r.Row.toNat) hq1 hq2;have hf4:=(dD (g:=g.toNat) (i:=i) (row:=r.Row.toNat) (b:=⟨r.Seq,dl zi g i r ((addedL z g r).getD i [])⟩) (z:=zi)).2;have hnp:cd zi=true:=by simpa using c9
      have hz:=H47.doneW;rw [← hnb] at hz;rw [hdl,kv ω hsk hnp];exact ⟨Z,hz⟩
     ·refine ar (aw (sV Z (aN Z Z iO) (sM Z Z (aa ?_))));have hnb:dl zi g i r ((addedL z g r).getD i [])=(fc ((addedL z g r).getD i []) (bJ ((((zi.Groups.getD g.toNat []).getD i default).Blocks.getD r.Row.toNat default).Bytes) 1)):=by
       rw [dl,hsh,if_neg (by rw [c1]; simp),mc]
       rfl
      have hsk:dv zi g.toNat i r=false:=by unfold dv dQ bF; simpa using c7
      obtain ⟨hf1,hf2,hf3⟩:=ej (b:=⟨r.Seq,dl zi g i r ((addedL z g r).getD i [])⟩) (row:=r.Row.toNat) hq1 hq2;have hf4:=(dD (g:=g.toNat) (i:=i) (row:=r.Row.toNat) (b:=⟨r.Seq,dl zi g i r ((addedL z g r).getD i [])⟩) (z:=zi)).2;have hnp:cd zi=false:=by simpa using c9
      have hz:=((H47.ftake 4).dtake 2);rw [← hnb] at hz;exact ⟨(i+1,fP g.toNat i r.Row.toNat ⟨r.Seq,dl zi g i r ((addedL z g r).getD i [])⟩ zi,_),⟨Z,Z,Z,Z,Z,Z,Z,trivial⟩,⟨hz,by (try dsimp only); omega,by (try dsimp only); rw [hdl,mj ω hsk hnp],by (try dsimp only); rw [gS]; exact hsh,by (try dsimp only); omega,by (try dsimp only); omega,fun j hj=>(hf3 j (by (try dsimp only at hj); omega)).trans (hdv j (by (try dsimp only at hj); omega)),by (try dsimp only); omega⟩,θ⟩
    ·exact absurd c8 (by rw [c1]; simp)
  ·refine bd (ah (rA hQ results72 Z ?_));have hz:=H31.doneW;rw [hdl,lw ω];exact ⟨Z,hz⟩
end Go.Wk
namespace Go.Wk
open Go.Proofs Rp Go.Proofs.Tryz
set_option maxRecDepth 10000
theorem fZ {w:World}{z:Wld}{zA9 zA10 zA11 rA6 rA7 rA8:Option Addr}{zC9 zC10 zC11 rC6 rC7 rC8:Nat}{g:Int}{r:Rec}(zK:z.Ok) (zS9:Sees w [.slice zA9 z.Groups.length zC9] z.Groups) (zS10:Sees w [.slice zA10 z.On.length zC10] z.On) (zS11:Sees w [.slice zA11 z.Tapes.length zC11] z.Tapes) (rK:r.Ok) (rS6:Sees w [.slice rA6 r.Rows.length rC6] r.Rows) (rS7:Sees w [.slice rA7 r.Data.length rC7] r.Data) (rS8:Sees w [.slice rA8 r.Delta.length rC8] r.Delta) (hb:ib z≤1048576):Ret Tryz.prog 19 #[z.val zA9 zC9 zA10 zC10 zA11 zC11,.int .i64 g,r.val rA6 rC6 rA7 rC7 rA8 rC8] w fun v w'=>Ext No w w'∧(∃ A10 C10 A11 C11 A12 C12,v=(be z g r).val A10 C10 A11 C11 A12 C12∧Res w w' [.int .i64 (be z g r).Code,.int .i64 (be z g r).Wd.Shape.Groups,.int .i64 (be z g r).Wd.Shape.Column,.int .i64 (be z g r).Wd.Shape.Data,.int .i64 (be z g r).Wd.Shape.Spare,.int .i64 (be z g r).Wd.Shape.Rows,.int .i64 (be z g r).Wd.Shape.Cap,.int .i64 (be z g r).Wd.Shape.Batch,.int .i64 (be z g r).Wd.Shape.Queue,.int .i64 (be z g r).Wd.Shape.Stage,.slice A10 (be z g r).Wd.Groups.length C10,.slice A11 (be z g r).Wd.On.length C11,.slice A12 (be z g r).Wd.Tapes.length C12,.int .i64 (be z g r).Wd.Writes,.int .i64 (be z g r).Wd.Stop,.bool (be z g r).Wd.Down] (be z g r)):=by
 have zK2:=zK;unfold Wld.Ok Shape.Ok at zK2
 try unfold I64ok at zK2
 try unfold maxLen at zK2
 have zL9:=sL zS9;obtain ⟨zF9,zO9⟩:=zS9;have zL10:=sL zS10;obtain ⟨zF10,zO10⟩:=zS10;have zL11:=sL zS11;obtain ⟨zF11,zO11⟩:=zS11;have rK2:=rK;unfold Rec.Ok at rK2
 try unfold I64ok at rK2
 try unfold maxLen at rK2
 have rN2:r.Name.size≤maxLen:=by unfold maxLen; omega
 have rL6:=sL rS6;obtain ⟨rF6,rO6⟩:=rS6;have rL7:=sL rS7;obtain ⟨rF7,rO7⟩:=rS7;have rL8:=sL rS8;obtain ⟨rF8,rO8⟩:=rS8;refine aV func19 Z ntmps19 Z (fun Q hQ hN=>?_);have H0:=Sep.start (an zO9 (an zO10 (an zO11 (an rO6 (an rO7 (an rO8 aP))))));refine ah (bE ae Z Z H0 (fun b1 w1 e1 g1 H1=>bE ae Z Z H1 (fun b2 w2 e2 g2 H2=>bQ ae Z zeroValue36 H2 (fun b3 w3 e3 g3 H3=>aa (ah (sV Z (aj aJ Z bu Z Z (At.whole (H3.box 0 Z))) (sE func48 qC Z (jp η (H3.sees 0 Z) (H3.sees 1 Z) (H3.sees 2 Z)) H3 (fun w4 e4 H4=>sA Z Z (aa (ag (ah (sR 2 Z (aa (aA Z (fun c1=>?_) (fun c1=>?_)))))))))))))))
 ·have hs:=(fL (jy (w:=z) ω).1).1;refine aw (sM Z Z (sE func69 vL Z (iQ (H4.box 0 Z) η (H4.sees 0 Z) (H4.sees 1 Z) (H4.sees 2 Z) η) H4 (fun w5 e5 H5=>sA Z Z (aa (ag (ay (ah (sR 3 Z (aa (aA Z (fun c2=>?_) (fun c2=>?_)))))))))))
  ·refine ah (sM Z Z (sV Z (aT ci Z Z) (aO ae dj Z Z Z Z H5 2 Z Z (fun w6 e6 H6=>?_))));dsimp only[lNA,lCA,lSZ,lSS,aC] at H6;refine aa (bl (hQ _ _ (cq results19 Z (au eE Z dj Z (At.whole (H6.box 2 Z))) ?_)));rw [jO (by rw [iV ω]; omega),iV ω];exact ⟨H6.ext,none,0,none,0,none,0,Z,fI (by unfold I64ok; have h9:=iV (z:=z) (g:=g) ω; have:=qO (z:=z) (g:=g) (row:=0); (try dsimp only); omega)⟩
  ·refine ag ?_;have hwr:dt z g 0=0:=by rw [iV ω]; omega
   obtain ⟨hs0,hG,hg,_,hon⟩:=jJ hwr;refine aw (sF aJ Z ba (sV Z (aj aX Z ba Z Z (At.sub (H5.box 0 Z) 9)) (sV Z (aj az Z aW Z Z (At.whole (H5.box 1 Z))) (sE func70 nb Z (gc η (H5.sees 3 Z) (H5.sees 4 Z) (H5.sees 5 Z) η) H5 (fun w7 e7 H7=>sR 2 Z (bO 3 (j:=5) (want:=false) (t:=29) Z Z Z Z (fun hg1 kk1=>ao (wgE Z Z Z hg1) Z Z (ab az Z ts2 Z Z) (ao (wgE Z Z Z hg1) Z Z (ac tu2 Z Z (ak (H7.box 1 Z) Z)) (ao (wgE Z Z Z hg1) Z Z (cx Z Z) (kk1 _ _ (kx Z (kx Z (kx Z k0))) Z Ext.refl)))) (fun w8 e8=>?_)))))));have H8:=H7.to e8;refine sV Z (du Z Z) (sM Z Z (bO 10 (j:=10) (want:=false) (t:=41) Z Z Z Z (fun hg2 kk2=>ao (wgE Z Z Z hg2) Z Z (ab aJ Z ba Z Z) (ao (wgE Z Z Z hg2) Z Z (aj aX Z ba Z Z (At.sub (H8.box 0 Z) 9)) (ao (wgE Z Z Z hg2) Z Z (aM Z) (cJ (wgE Z Z Z hg2) Z Z (aD func71 Z lr Z) (dU η) (fun w10 e10=>ao (wgE Z Z Z hg2) Z Z (aM Z) (bO 4 (j:=15) (want:=true) (t:=40) Z Z Z Z (fun hg3 kk3=>ao (wgE Z Z Z hg3) Z Z (ab az Z ts2 Z Z) (ao (wgE Z Z Z hg3) Z Z (ac tu2 Z Z (ak ((H8.to e10).box 1 Z) Z)) (ao (wgE Z Z Z hg3) Z Z (aM Z) (ao (wgE Z Z Z hg3) Z Z (cx Z Z) (kk3 _ _ (kx Z (kx Z (kx Z (kx Z k0)))) Z Ext.refl))))) (fun w11 e11=>ao (wgE Z Z Z hg2) Z Z (bI Z Z) (kk2 _ _ (kx Z (kx Z (kx Z (kx Z (kx Z (kx Z (kx Z k0))))))) Z ((Ext.refl.trans e10).trans e11))))))))) (fun w9 e9=>?_)));have H10:=H8.to e9;refine sV Z (du Z Z) (sA Z Z (aa (cI Z (fun c3=>?_) (fun c3=>?_))))
   ·refine ah (sV Z (aT ci Z Z) (aO ae dj Z Z Z Z H10 2 Z Z (fun w12 e12 H11=>?_)));dsimp only[lNA,lCA,lSZ,lSS,aC] at H11;refine aa (bl (hQ _ _ (cq results19 Z (au eE Z dj Z (At.whole (H11.box 2 Z))) ?_)));rw [mQ hwr (by unfold dx; simpa [Bool.or_assoc] using c3)];exact ⟨H11.ext,none,0,none,0,none,0,Z,fI (by unfold I64ok; (try dsimp only); omega)⟩
   ·refine ar (ag ?_);have hbad:dx z g r=false:=by unfold dx; simpa [Bool.or_assoc] using c3
    obtain ⟨hm,hk⟩:=iP hbad;have hu:=jR hwr;obtain ⟨hwf,hdn⟩:=jy hu;obtain ⟨hw0,hw1,_,_⟩:=iI hwf;refine aw (sV Z (aj aJ Z bu Z Z (At.whole (H10.box 0 Z))) (sC func49 jG Z (dG η (H10.sees 0 Z) (H10.sees 1 Z) (H10.sees 2 Z) ξ) (fun v4 w13 r4=>?_)));obtain ⟨e13,sa1,sk1,sa2,sk2,sa3,sk3,rfl,r4⟩:=r4;obtain ⟨fp1,H12⟩:=H10.res e13 r4;obtain ⟨sf1,sf2,sf3,sq1,sok1,so1,so2,so3⟩:=jB (H12.mine 3 Z);have H13:=H12.part 3 Z [mine [.slice _ z.Groups.length _] z.Groups sf1,mine [.slice _ z.On.length _] z.On sf2,mine [.slice _ z.Tapes.length _] z.Tapes sf3] (aq so1 (aq so2 (aq so3 σ))) (by simp [blocks,mine,sq1])
    try dsimp only[lNA,lCA,lSZ,lSS] at H13
    refine bQ ae Z zeroValue34 H13 (fun b4 w14 e14 g4 H14=>aO ae bu Z Z Z Z H14 7 Z Z (fun w15 e15 H15=>?_));dsimp only[lNA,lCA,lSZ,lSS,aC] at H15;refine aa (ah (sM Z Z (sV Z (aj az Z aW Z Z (At.whole (H15.box 1 Z))) ?_)));obtain ⟨fp2,H16⟩:=H15.closeW 7 4 5 6 z Z Z Z Z Z Z Z Z Z Z zK
    try dsimp only[lNA,lCA,lSZ,lSS] at H16
    refine sC func72 qy Z (fS (H16.wldAt 7 Z) (H16.nodup1 (i:=7) Z) η (am (H16.seen 3 Z)) (fun b hb=>H16.off 3 Z 7 Z hb) (am (H16.seen 4 Z)) (fun b hb=>H16.off 4 Z 7 Z hb) (am (H16.seen 5 Z)) (fun b hb=>H16.off 5 Z 7 Z hb) ξ ξ ξ ξ ξ ξ) (fun v5 w16 r5=>?_);obtain ⟨rfl,mm1⟩:=r5;obtain ⟨fp3,H17⟩:=H16.mutW 7 Z mm1
    try dsimp only[lNA,lCA,lSZ,lSS] at H17
    refine sA Z Z (aa (ag ?_));obtain ⟨wA1,wC1,wA2,wC2,wA3,wC3,wf1,wf2,wf3,wok1,H18⟩:=H17.openW 7 Z
    try dsimp only[lNA,lCA,lSZ,lSS] at H18
    have wok1U:=wok1;unfold Wld.Ok Shape.Ok I64ok at wok1U;have wL1:=oL (H18.mine 9 Z);have wL2:=oL (H18.mine 10 Z);have wL3:=oL (H18.mine 11 Z);refine aw (sV Z (aj aJ Z bu Z Z (At.whole (H18.box 7 Z))) (sM Z Z (sE func51 qP Z (gK η (H18.msees 9 Z) (H18.msees 10 Z) (H18.msees 11 Z) (by first | assumption | (split<;>simp))) H18 (fun w17 e17 H19=>aO ae dj Z Z Z Z H19 2 Z Z (fun w18 e18 H20=>?_)))));dsimp only[lNA,lCA,lSZ,lSS,aC] at H20;refine aa (bl (hQ _ _ (cq results19 Z (au eE Z dj Z (At.whole (H20.box 2 Z))) ?_)));rw [iW hwr hbad];exact ⟨H20.ext,_,_,_,_,_,_,Z,WldResult.out (x:=⟨if (dr z g r).1=true then 0 else 9,(dr z g r).2⟩) (H20.sub (.cons _ (.cons _ (.cons _ (.cons _ (.cons _ (.cons _ (.cons _ (.cons _ (.cons _ (.cons_cons _ (.cons_cons _ (.cons_cons _ List.Sublist.slnil))))))))))))) ⟨(by show I64ok (if (dr z g r).1=true then 0 else 9); unfold I64ok; split<;>omega),η⟩⟩
 ·refine ar (ag (ay (ah (sR 3 Z (aa (aA Z (fun c4=>?_) (fun c4=>?_)))))))
  ·refine ah (sM Z Z (sV Z (aT ci Z Z) (aO ae dj Z Z Z Z H4 2 Z Z (fun w19 e19 H21=>?_))));dsimp only[lNA,lCA,lSZ,lSS,aC] at H21;refine aa (bl (hQ _ _ (cq results19 Z (au eE Z dj Z (At.whole (H21.box 2 Z))) ?_)));rw [jO (by rw [u7 ω]; omega),u7 ω];exact ⟨H21.ext,none,0,none,0,none,0,Z,fI (by unfold I64ok; have:=uq (z:=z); (try dsimp only); omega)⟩
  ·refine ag ?_;have hwr:dt z g 0=0:=by rw [iV ω]; omega
   obtain ⟨hs0,hG,hg,_,hon⟩:=jJ hwr;refine aw (sF aJ Z ba (sV Z (aj aX Z ba Z Z (At.sub (H4.box 0 Z) 9)) (sV Z (aj az Z aW Z Z (At.whole (H4.box 1 Z))) (sE func70 nb Z (gc η (H4.sees 3 Z) (H4.sees 4 Z) (H4.sees 5 Z) η) H4 (fun w20 e20 H22=>sR 2 Z (bO 3 (j:=5) (want:=false) (t:=29) Z Z Z Z (fun hg4 kk4=>ao (wgE Z Z Z hg4) Z Z (ab az Z ts2 Z Z) (ao (wgE Z Z Z hg4) Z Z (ac tu2 Z Z (ak (H22.box 1 Z) Z)) (ao (wgE Z Z Z hg4) Z Z (cx Z Z) (kk4 _ _ (kx Z (kx Z (kx Z k0))) Z Ext.refl)))) (fun w21 e21=>?_)))))));have H23:=H22.to e21;refine sV Z (du Z Z) (sM Z Z (bO 10 (j:=10) (want:=false) (t:=41) Z Z Z Z (fun hg5 kk5=>ao (wgE Z Z Z hg5) Z Z (ab aJ Z ba Z Z) (ao (wgE Z Z Z hg5) Z Z (aj aX Z ba Z Z (At.sub (H23.box 0 Z) 9)) (ao (wgE Z Z Z hg5) Z Z (aM Z) (cJ (wgE Z Z Z hg5) Z Z (aD func71 Z lr Z) (dU η) (fun w23 e23=>ao (wgE Z Z Z hg5) Z Z (aM Z) (bO 4 (j:=15) (want:=true) (t:=40) Z Z Z Z (fun hg6 kk6=>ao (wgE Z Z Z hg6) Z Z (ab az Z ts2 Z Z) (ao (wgE Z Z Z hg6) Z Z (ac tu2 Z Z (ak ((H23.to e23).box 1 Z) Z)) (ao (wgE Z Z Z hg6) Z Z (aM Z) (ao (wgE Z Z Z hg6) Z Z (cx Z Z) (kk6 _ _ (kx Z (kx Z (kx Z (kx Z k0)))) Z Ext.refl))))) (fun w24 e24=>ao (wgE Z Z Z hg5) Z Z (bI Z Z) (kk5 _ _ (kx Z (kx Z (kx Z (kx Z (kx Z (kx Z (kx Z k0))))))) Z ((Ext.refl.trans e23).trans e24))))))))) (fun w22 e22=>?_)));have H25:=H23.to e22;refine sV Z (du Z Z) (sA Z Z (aa (cI Z (fun c5=>?_) (fun c5=>?_))))
   ·refine ah (sV Z (aT ci Z Z) (aO ae dj Z Z Z Z H25 2 Z Z (fun w25 e25 H26=>?_)));dsimp only[lNA,lCA,lSZ,lSS,aC] at H26;refine aa (bl (hQ _ _ (cq results19 Z (au eE Z dj Z (At.whole (H26.box 2 Z))) ?_)));rw [mQ hwr (by unfold dx; simpa [Bool.or_assoc] using c5)];exact ⟨H26.ext,none,0,none,0,none,0,Z,fI (by unfold I64ok; (try dsimp only); omega)⟩
   ·refine ar (ag ?_);have hbad:dx z g r=false:=by unfold dx; simpa [Bool.or_assoc] using c5
    obtain ⟨hm,hk⟩:=iP hbad;have hu:=jR hwr;obtain ⟨hwf,hdn⟩:=jy hu;obtain ⟨hw0,hw1,_,_⟩:=iI hwf;refine aw (sV Z (aj aJ Z bu Z Z (At.whole (H25.box 0 Z))) (sC func49 jG Z (dG η (H25.sees 0 Z) (H25.sees 1 Z) (H25.sees 2 Z) ξ) (fun v8 w26 r8=>?_)));obtain ⟨e26,sa4,sk4,sa5,sk5,sa6,sk6,rfl,r8⟩:=r8;obtain ⟨fp4,H27⟩:=H25.res e26 r8;obtain ⟨sf4,sf5,sf6,sq2,sok2,so4,so5,so6⟩:=jB (H27.mine 3 Z);have H28:=H27.part 3 Z [mine [.slice _ z.Groups.length _] z.Groups sf4,mine [.slice _ z.On.length _] z.On sf5,mine [.slice _ z.Tapes.length _] z.Tapes sf6] (aq so4 (aq so5 (aq so6 σ))) (by simp [blocks,mine,sq2])
    try dsimp only[lNA,lCA,lSZ,lSS] at H28
    refine bQ ae Z zeroValue34 H28 (fun b5 w27 e27 g5 H29=>aO ae bu Z Z Z Z H29 7 Z Z (fun w28 e28 H30=>?_));dsimp only[lNA,lCA,lSZ,lSS,aC] at H30;refine aa (ah (sM Z Z (sV Z (aj az Z aW Z Z (At.whole (H30.box 1 Z))) ?_)));obtain ⟨fp5,H31⟩:=H30.closeW 7 4 5 6 z Z Z Z Z Z Z Z Z Z Z zK
    try dsimp only[lNA,lCA,lSZ,lSS] at H31
    refine sC func72 qy Z (fS (H31.wldAt 7 Z) (H31.nodup1 (i:=7) Z) η (am (H31.seen 3 Z)) (fun b hb=>H31.off 3 Z 7 Z hb) (am (H31.seen 4 Z)) (fun b hb=>H31.off 4 Z 7 Z hb) (am (H31.seen 5 Z)) (fun b hb=>H31.off 5 Z 7 Z hb) ξ ξ ξ ξ ξ ξ) (fun v9 w29 r9=>?_);obtain ⟨rfl,mm2⟩:=r9;obtain ⟨fp6,H32⟩:=H31.mutW 7 Z mm2
    try dsimp only[lNA,lCA,lSZ,lSS] at H32
    refine sA Z Z (aa (ag ?_));obtain ⟨wA4,wC4,wA5,wC5,wA6,wC6,wf4,wf5,wf6,wok2,H33⟩:=H32.openW 7 Z
    try dsimp only[lNA,lCA,lSZ,lSS] at H33
    have wok2U:=wok2;unfold Wld.Ok Shape.Ok I64ok at wok2U;have wL4:=oL (H33.mine 9 Z);have wL5:=oL (H33.mine 10 Z);have wL6:=oL (H33.mine 11 Z);refine aw (sV Z (aj aJ Z bu Z Z (At.whole (H33.box 7 Z))) (sM Z Z (sE func51 qP Z (gK η (H33.msees 9 Z) (H33.msees 10 Z) (H33.msees 11 Z) (by first | assumption | (split<;>simp))) H33 (fun w30 e30 H34=>aO ae dj Z Z Z Z H34 2 Z Z (fun w31 e31 H35=>?_)))));dsimp only[lNA,lCA,lSZ,lSS,aC] at H35;refine aa (bl (hQ _ _ (cq results19 Z (au eE Z dj Z (At.whole (H35.box 2 Z))) ?_)));rw [iW hwr hbad];exact ⟨H35.ext,_,_,_,_,_,_,Z,WldResult.out (x:=⟨if (dr z g r).1=true then 0 else 9,(dr z g r).2⟩) (H35.sub (.cons _ (.cons _ (.cons _ (.cons _ (.cons _ (.cons _ (.cons _ (.cons _ (.cons _ (.cons_cons _ (.cons_cons _ (.cons_cons _ List.Sublist.slnil))))))))))))) ⟨(by show I64ok (if (dr z g r).1=true then 0 else 9); unfold I64ok; split<;>omega),η⟩⟩
end Go.Wk
namespace Go.Wk
open Rp (sz own)
section
variable {β:Type}[Rp β] {w:World}
def rowsT (vs:List View) (xss:List (List β)) (g:List Nat):Rsc:=⟨g,fun w=>bX true w (vs.map View.val) xss g,fun h k=>h.st k,fun h=>h.lt⟩
theorem sB:∀ {xss:List (List β)}{cs fp},bX true w cs xss fp→∃ vs:List View,vs.length=xss.length∧bX true w cs vs []∧bX true w (vs.map View.val) xss fp
  | [],_,_,h=>⟨[],rfl,rfl,h⟩
  | x::xss,cs,fp,⟨f1,f2,e,h1,h2⟩=>by
    obtain ⟨ad,cap,h3⟩:=ax h1
    obtain ⟨vs,e2,h4,h5⟩:=sB h2
    rw [h3] at h1
    exact ⟨⟨ad,x.length,cap⟩::vs,by simp [e2],⟨[],[],rfl,⟨h3,rfl⟩,h4⟩,⟨f1,f2,e,h1,h5⟩⟩
theorem sU:∀ {vs:List View}{xss:List (List β)}{cs f0 fp},bX true w cs vs f0→bX true w (vs.map View.val) xss fp→vs.length=xss.length→f0=[]∧bX true w cs xss fp
  | [],[],_,_,_,h,hp,_=>⟨h,hp⟩
  | [],x::xss,_,_,_,_,_,hl=>by simp at hl
  | v::vs,[],_,_,_,_,_,hl=>by simp at hl
  | v::vs,x::xss,cs,f0,fp,⟨g1,g2,e0,⟨e1,eg⟩,h2⟩,⟨f1,f2,e,h1,h3⟩,hl=>by
    obtain ⟨r1,r2⟩:=sU h2 h3 (by simpa using hl)
    refine ⟨by rw [e0,eg,r1]; rfl,⟨f1,f2,e,?_,r2⟩⟩
    rw [show cs.take (sz (List β))=[v.val] from e1]; exact h1
theorem yo {ad n cap} {xss:List (List β)}{fp} (h:own true w [.slice ad n cap] xss fp):∃ (vs:List View) (f0 f1:List Nat),vs.length=xss.length∧fp=f0++f1∧own true w [.slice ad n cap] vs f0∧bX true w (vs.map View.val) xss f1:=by
  rcases h with ⟨hf,_⟩ | ⟨e,rfl,rfl⟩ | ⟨b,o,cap',cur,T,fr,fs,h1,h2,h3,h4,h5,h6,h7,h8⟩
  · cases hf
  · exact ⟨[],[],[],rfl,rfl,.inr (.inl ⟨e,rfl,rfl⟩),rfl⟩
  · obtain ⟨vs,el,h9,h10⟩:=sB h8
    exact ⟨vs,[b],fs,el,by rw [h2]; rfl,.inr (.inr ⟨b,o,cap',cur,T,fr,[],by rw [el]; exact h1,rfl,h3,h4,by rw [el]; exact h5,h6,h7,h9⟩),h10⟩
theorem yF {ad n cap} {vs:List View}{xss:List (List β)}{f0 f1} (h:own true w [.slice ad n cap] vs f0) (hp:bX true w (vs.map View.val) xss f1) (el:vs.length=xss.length):own true w [.slice ad n cap] xss (f0++f1):=by
  rcases h with ⟨hf,_⟩ | ⟨e,rfl,rfl⟩ | ⟨b,o,cap',cur,T,fr,fs,h1,h2,h3,h4,h5,h6,h7,h8⟩
  · cases hf
  · obtain rfl:xss=[]:=List.eq_nil_of_length_eq_zero (by simpa using el.symm)
    rw [show f1=[] from hp]; exact .inr (.inl ⟨e,rfl,rfl⟩)
  · obtain ⟨e,h9⟩:=sU h8 hp el
    exact .inr (.inr ⟨b,o,cap',cur,T,fr,f1,by rw [← el]; exact h1,by rw [h2,e]; rfl,h3,h4,by rw [← el]; exact h5,h6,h7,h9⟩)
theorem pf:∀ {vs:List View}{xss:List (List β)}{f fx} {u:View}{x:List β},bX true w (vs.map View.val) xss f→own true w [u.val] x fx→vs.length=xss.length→bX true w ((vs++[u]).map View.val) (xss++[x]) (f++fx)
  | [],[],f,fx,u,x,h,hx,_=>by
    rw [show f=[] from h]
    exact ⟨fx,[],σ,hx,rfl⟩
  | [],y::xss,_,_,_,_,_,_,hl=>by simp at hl
  | v::vs,[],_,_,_,_,_,_,hl=>by simp at hl
  | v::vs,y::xss,f,fx,u,x,⟨f1,f2,e,h1,h2⟩,hx,hl=>by
    refine ⟨f1,f2++fx,by rw [e,List.append_assoc],h1,?_⟩
    exact pf (vs:=vs) h2 hx (by simpa using hl)
theorem pn:∀ {vs es:List View}{xss yss:List (List β)}{f},bX true w ((vs++es).map View.val) (xss++yss) f→vs.length=xss.length→∃ f0,bX false w (vs.map View.val) xss f0∧∀ b∈f0,b∈f
  | [],es,[],yss,f,_,_=>⟨[],rfl,σ⟩
  | [],_,y::xss,_,_,_,hl=>by simp at hl
  | v::vs,_,[],_,_,_,hl=>by simp at hl
  | v::vs,es,y::xss,yss,f,⟨f1,f2,e,h1,h2⟩,hl=>by
    obtain ⟨f0,h3,h4⟩:=pn (vs:=vs) h2 (by simpa using hl)
    refine ⟨f1++f0,⟨f1,f0,rfl,Rp.weak h1,h3⟩,fun b hb=>?_⟩
    rw [e]
    rcases List.mem_append.1 hb with hb | hb
    · exact List.mem_append.2 (.inl hb)
    · exact List.mem_append.2 (.inr (h4 b hb))
end
section
variable {β:Type}[Rp β] {M:Nat→Prop}{w0 w:World}{Δ F:List Rsc}
theorem Sep.toRows (h:Sep M w0 Δ F w) (i:Nat) {ad n cap} {xss:List (List β)}{fp} (hi:Δ[i]? = some (Wk.mine [.slice ad n cap] xss fp)) :
    ∃ (vs:List View) (f0 f1:List Nat),vs.length=xss.length∧Sep M w0 (Δ.set i (Wk.mine [.slice ad n cap] vs f0)++[gone,rowsT vs xss f1]) F w:=by
  obtain ⟨vs,f0,f1,e1,ef,h1,h2⟩:=yo (h.mine i hi)
  have hil:i<Δ.length:=(List.getElem?_eq_some_iff.1 hi).1
  have p2:(rowsT vs xss f1).φ w:=h2
  have H2:=h.part i hi [Wk.mine [.slice ad n cap] vs f0,rowsT vs xss f1] (aq h1 (aq p2 σ)) (by simp [blocks,Wk.mine,rowsT,ef])
  exact ⟨vs,f0,f1,e1,H2.perm (iJ hil)⟩
theorem Sep.ofRows (h:Sep M w0 Δ F w) (i j:Nat) {ad n cap} {vs:List View}{xss:List (List β)}{f0 f1} (hi:Δ[i]? = some (Wk.mine [.slice ad n cap] vs f0)) (hj:Δ[j]? = some (rowsT vs xss f1)) (hij:Nat.beq j i=false) (el:vs.length=xss.length) :
    ∃ fp,Sep M w0 ((Δ.set j gone).set i (Wk.mine [.slice ad n cap] xss fp)) F w:=by
  have H1:=h.join2 i j hi hj hij
  have g:((Δ.set j gone).set i (cat (Wk.mine [.slice ad n cap] vs f0) (rowsT vs xss f1)))[i]? = some (cat (Wk.mine [.slice ad n cap] vs f0) (rowsT vs xss f1)):=
    List.getElem?_set_self (by have:=(List.getElem?_eq_some_iff.1 hi).1; simpa using this)
  have hφ:(cat (Wk.mine [.slice ad n cap] vs f0) (rowsT vs xss f1)).φ w:=H1.r i g
  have hn:=H1.nodup1 g
  have H2:=H1.conv i (Wk.mine [.slice ad n cap] xss (f0++f1)) g (yF hφ.1 hφ.2 el) (fun b hb=>hb) hn
  rw [List.set_set] at H2
  exact ⟨_,H2⟩
theorem Sep.rowsSnoc (h:Sep M w0 Δ F w) (j i:Nat) {a n c} {vs:List View}{xss:List (List β)}{x:List β}{g fx} (hj:Δ[j]? = some (rowsT vs xss g)) (hi:Δ[i]? = some (Wk.mine [.slice a n c] x fx)) (hij:Nat.beq i j=false) (el:vs.length=xss.length) :
    ∃ g',Sep M w0 ((Δ.set i gone).set j (rowsT (vs++[⟨a,n,c⟩]) (xss++[x]) g')) F w:=by
  have H1:=h.join2 j i hj hi hij
  have k:((Δ.set i gone).set j (cat (rowsT vs xss g) (Wk.mine [.slice a n c] x fx)))[j]? = some (cat (rowsT vs xss g) (Wk.mine [.slice a n c] x fx)):=
    List.getElem?_set_self (by have:=(List.getElem?_eq_some_iff.1 hj).1; simpa using this)
  have hφ:(cat (rowsT vs xss g) (Wk.mine [.slice a n c] x fx)).φ w:=H1.r j k
  have hn:=H1.nodup1 k
  have ho:bX true w ((vs++[(⟨a,n,c⟩:View)]).map View.val) (xss++[x]) (g++fx):=pf hφ.1 hφ.2 el
  have H2:=H1.conv j (rowsT (vs++[(⟨a,n,c⟩:View)]) (xss++[x]) (g++fx)) k ho (fun b hb=>hb) hn
  rw [List.set_set] at H2
  exact ⟨_,H2⟩
theorem Sep.rowsHead (h:Sep M w0 Δ F w) (j:Nat) {u:View}{vs:List View}{x:List β}{xss:List (List β)}{g} (hj:Δ[j]? = some (rowsT (u::vs) (x::xss) g)) :
    ∃ a c fx g',u=⟨a,x.length,c⟩∧Sep M w0 (Δ.set j gone++[Wk.mine [.slice a x.length c] x fx,rowsT vs xss g']) F w:=by
  obtain ⟨f1,f2,e,h1,h2⟩:bX true w ((u::vs).map View.val) (x::xss) g:=h.r j hj
  have h3:own true w [u.val] x f1:=h1
  obtain ⟨a,c,e2⟩:=ax h3
  have e3:u=⟨a,x.length,c⟩:=by
    cases u
    simp only [View.val,List.cons.injEq,Value.slice.injEq,and_true] at e2
    obtain ⟨rfl,rfl,rfl⟩:=e2; rfl
  subst e3
  have p2:(rowsT vs xss f2).φ w:=h2
  exact ⟨a,c,f1,f2,rfl,h.part j hj [Wk.mine [.slice a x.length c] x f1,rowsT vs xss f2] (aq h3 (aq p2 σ)) (by simp [blocks,Wk.mine,rowsT,e])⟩
theorem Sep.rowsSees (h:Sep M w0 Δ F w) (i j:Nat) {ad n cap} {vs es:List View}{xss yss:List (List β)}{f g} (hi:Δ[i]? = some (Wk.mine [.slice ad n cap] vs f)) (hj:Δ[j]? = some (rowsT (vs++es) (xss++yss) g)) (el:vs.length=xss.length) :
    Sees w [.slice ad n cap] xss:=by
  obtain ⟨f0,h1,_⟩:=pn (h.r j hj) el
  obtain ⟨fp,h2,_⟩:=qQ (h.mine i hi) h1 el
  exact ⟨fp,h2⟩
theorem Sep.rowsSees2 (h:Sep M w0 Δ F w) (i j:Nat) {ad n cap} {us vs es:List View}{rws xss yss:List (List β)}{f g} (hi:Δ[i]? = some (Wk.mine [.slice ad n cap] vs f)) (hj:Δ[j]? = some (rowsT us rws g)) (el:vs.length=xss.length) (h1:us=vs++es) (h2:rws=xss++yss) :
    Sees w [.slice ad n cap] xss:=by
  subst h1 h2; exact h.rowsSees i j hi hj el
instance:Inhabited View:=⟨⟨none,0,0⟩⟩
theorem qz {s:Bool}{ad n cap} {us:List View}{f} (h:own s w [.slice ad n cap] us f) (k:Nat) (hk:k<us.length) :
    ∃ b o,ad=some ⟨b,o,none⟩∧w.cell? ⟨b,o+k*1,none⟩=some (us.getD k default).val:=by
  obtain ⟨b,o,cs,f,h1,h2,h3,_⟩:=fD h k hk
  rw [eG hk]
  exact ⟨b,o,h1,h2 0 us[k].val (by rw [h3.1]; rfl)⟩
theorem u4 {α:Type}{xs:List α}{k:Nat}{d:α}(h:k<xs.length):xs.drop k=xs.getD k d::xs.drop (k+1):=by
  rw [eG h]; exact List.drop_eq_getElem_cons h
theorem Sep.rowsAtK (h:Sep M w0 Δ F w) (j:Nat) {us:List View}{xss:List (List β)}{g} (k:Nat) (hj:Δ[j]? = some (rowsT (us.drop k) (xss.drop k) g)) (hk:k<xss.length) (el:us.length=xss.length) :
    ∃ a c fx g',(us.getD k default).val = .slice a (xss.getD k []).length c∧Sep M w0 (Δ.set j gone++[Wk.mine [.slice a (xss.getD k []).length c] (xss.getD k []) fx,rowsT (us.drop (k+1)) (xss.drop (k+1)) g']) F w:=by
  rw [u4 (d:=default) (show k<us.length by omega),u4 (d:=[]) hk] at hj
  obtain ⟨a,c,fx,g',e,H⟩:=h.rowsHead j hj
  exact ⟨a,c,fx,g',by rw [e]; rfl,H⟩
end
theorem qw {z:Wld}{g i row:Nat}{b:Block}:fE g i row b (gE z)=gE (fE g i row b z):=rfl
end Go.Wk
namespace Go.Wk
open Go.Proofs Rp Go.Proofs.Tryz
set_option maxRecDepth 10000
theorem jn {w:World}{x y:Int}{n s xsC:Nat}{xs:List UInt8}{xsA:Option Addr}(hx:x=n) (hy:y=s) (hn:1≤n∧n≤3∧s≤2) (hl:xs.length=n*4) (xsS:Sees w [.slice xsA xs.length xsC] xs):Ret Tryz.prog 143 #[.int .i64 x,.int .i64 y,.slice xsA xs.length xsC] w fun v w'=>Ext No w w'∧(Res w w' [v] (fH n (n+s) xs)):=by
 subst hx; subst hy;have xsL:=sL xsS;obtain ⟨xsF,xsO⟩:=xsS;refine aV func143 Z ntmps143 Z (fun Q hQ hN=>?_);have H0:=Sep.start (an xsO aP);refine ah (sA Z Z (aa (ah (ew (α:=(List UInt8)) ae Z eJ dZ H0 (fun b1 w1 e1 g1 H1=>sA Z Z (aa (ag (ah (sA Z Z (aa (ay (cp (γ:=Nat × Value × List Nat) (fun (k,vo,f)=>[(0,.int .i64 n),(1,.int .i64 s),(2,.slice xsA xs.length xsC),(7,vo),(8,.int .i64 k)]) (fun (k,vo,f) w'=>Sep No w [mine [vo] (chunks xs 4 k) f] [seen false [.slice xsA xs.length xsC] xs xsF] w'∧k≤n) (fun (k,vo,f)=>n-k) (0,_,_) ⟨Z,Z,Z,Z,Z,trivial⟩ ⟨H1,ω⟩ (fun (k,vo,f) w2 H2=>?_)))))))))))));obtain ⟨H2,hk⟩:=H2;refine ag (ah (sR 3 Z (aa (aA Z (fun c1=>?_) (fun c1=>?_)))))
 ·refine ar (ag (ay ?_));have kl:=d9 (xs:=xs) (m:=4) (q:=k);refine aw (sM Z Z (ew (α:=UInt8) ae Z bc bW H2 (fun b2 w3 e2 g2 H3=>sR 2 Z (sV Z (gu Z Z iO) (sM Z Z (sV Z (aN Z Z iO) (sV Z (gu Z Z iO) ?_)))))));have sc1:=fY (H3.seen 0 Z);obtain ⟨sf1,so1,ss1⟩:=kL (H3.seen 0 Z) (k*4) (k*4+4) _ ω ω ω (Nat.le_refl _);have H4:=H3.look1 0 Z so1 ss1;have sl1:=jf (xs:=xs) (l:=k*4) (h:=k*4+4) ω;refine sV Z (x8 bc ts5 Z Z Z (k*4) (k*4+4) ω ω ω ω sl1) ((iX ae Z bc bW Z Z Z H4 1 Z (H4.seen 1 Z) (by (try simp only [List.length_nil]); unfold maxLen; omega) (by (try simp only [List.length_nil]); omega) (fun v1 w4 fp1 H5=>?_)));obtain ⟨a1,k1,q1⟩:=ax (H5.mine 1 Z);cases q1;refine ex ae Z eJ dZ Z Z Z Z H5 (fun b3 w5 e3 g3 H6=>ip ae Z eJ dZ Z Z Z H6 0 2 1 Z Z Z Z (by unfold maxLen; omega) ω (fun v2 w6 fp2 H7=>sA Z Z (aa (aw (sM Z Z (sV Z (aN Z Z iO) (sA Z Z (aa ?_))))))));have hz:=H7.ftake 1 |>.sub (.cons_cons _ (.cons _ (.cons _ List.Sublist.slnil)))
  rw [List.nil_append,sx] at hz;refine ⟨(k+1,_,_),⟨Z,Z,Z,Z,Z,trivial⟩,⟨hz,ω⟩,θ⟩
 ·refine bd (ag ?_);obtain rfl:n=k:=by omega
  obtain ⟨pA,pC,pq⟩:=ax (H2.mine 0 Z);cases pq;obtain ⟨us0,f0,f1,hul,HT⟩:=H2.toRows 0 Z
  try dsimp only[lNA,lCA,lSZ,lSS] at HT
  have cl:(chunks xs 4 n).length=n:=d9;refine aw (ew (α:=View) ae Z eJ dZ HT (fun b4 w7 e4 g4 H8=>sM Z Z (iX ae Z eJ dZ Z Z Z H8 3 Z (H8.mine 0 Z) (by (try simp only [List.length_nil]); unfold maxLen; omega) (by (try simp only [List.length_nil]); omega) (fun v3 w8 fp3 H9=>sA Z Z (aa (ag (ah (sA Z Z (aa (ay (cp (γ:=Nat × Value × List Nat × List View × List Nat) (fun (j,vo,f2,us,ug)=>[(0,.int .i64 n),(1,.int .i64 s),(7,.slice pA (chunks xs 4 n).length pC),(9,vo),(10,.int .i64 j)]) (fun (j,vo,f2,us,ug) w'=>Sep No w [mine [.slice pA (chunks xs 4 n).length pC] us0 f0,gone,rowsT us (oy n j xs) ug,mine [vo] us f2] [seen false [.slice xsA xs.length xsC] xs xsF] w'∧j≤s∧us.length=(oy n j xs).length∧∃ es,us=us0++es) (fun (j,vo,f2,us,ug)=>s-j) (0,_,_,_,_) ⟨Z,Z,Z,Z,Z,trivial⟩ ⟨by rw [qZ]; exact H9,ω,by rw [qZ]; exact hul,⟨[],σ⟩⟩ (fun (j,vo,f2,us,ug) w9 H10=>?_))))))))))));obtain ⟨H10,hj,hul2,es,hus⟩:=H10;refine ag (ah (sR 3 Z (aa (aA Z (fun c2=>?_) (fun c2=>?_)))))
  ·refine ar (ag (ay ?_));have gl:(of n ((n:Int)+j) 0).length=n:=sr;have ca:=kg hl;have encE:jm (chunks xs 4 n) (of n ((n:Int)+j) 0) 4 (chunks xs 4 n).length=encK xs n ((n:Int)+j):=Z;have el:=mo (n:=n) (m:=j) (xs:=xs);refine aw (sR 5 Z (sV Z (aN Z Z iO) (sC func220 tu Z (oi ω) (fun v4 w10 r1=>?_))));obtain ⟨e5,r1⟩:=r1;obtain ⟨fp4,H11⟩:=H10.res e5 r1;obtain ⟨a2,k2,q2⟩:=ax (H11.mine 4 Z);cases q2;refine sC func219 uk Z (oz (n:=4) (H11.rowsSees2 0 2 Z Z hul hus Z) ⟨_,am (H11.mine 4 Z)⟩ ω ω ca ω) (fun v5 w11 r2=>?_);obtain ⟨e6,r2⟩:=r2;obtain ⟨fp5,H12⟩:=H11.res e6 r2;obtain ⟨a3,k3,q3⟩:=ax (H12.mine 5 Z);cases q3;refine ex ae Z eJ dZ Z Z Z Z H12 (fun b5 w12 e7 g5 H13=>jr (α:=View) (u:=⟨_,_,_⟩) ae Z eJ dZ Z Z Z H13 3 6 Z Z ⟨Z,Z⟩ (by unfold maxLen; omega) ω (fun vo2 w9 ofp2 HA=>?_))
   try dsimp only[lNA,lCA,lSZ,lSS] at HA
   obtain ⟨g2,HB⟩:=HA.rowsSnoc 2 5 Z Z Z hul2
   try dsimp only[lNA,lCA,lSZ,lSS] at HB
   refine sA Z Z (aa (aw (sM Z Z (sV Z (aN Z Z iO) (sA Z Z (aa ?_))))));have hz:=HB.dtake 4;rw [encE,wD] at hz;obtain ⟨es2,hus2⟩:∃ es2,us++[_]=us0++es2:=⟨es++[_],by rw [hus,List.append_assoc]⟩;exact ⟨(j+1,_,_,_,_),⟨Z,Z,Z,Z,Z,trivial⟩,⟨hz,by (try dsimp only); omega,by (try dsimp only); rw [mo,List.length_append,hul2,mo]; simp; omega,⟨es2,hus2⟩⟩,θ⟩
  ·refine bd (ah (sR 2 Z (rN hQ results143 Z ?_)));obtain rfl:j=s:=by omega
   obtain ⟨oA,oC,oq⟩:=ax (H10.mine 3 Z);cases oq;obtain ⟨fp,HZ⟩:=H10.ofRows 3 2 Z Z Z hul2
   try dsimp only[lSZ,lSS] at HZ
   rw [hul2] at HZ;have hz:=HZ.out 3 Z;rw [u5 hl] at hz;exact ⟨H10.ext,by rw [hul2,u5 hl]; exact hz⟩
set_option maxHeartbeats 2000000 in
theorem nJ {w:World}{z:Wld}{zb rC6 rC7 rC8:Nat}{fp rF6 rF7 rF8:List Nat}{g:Int}{r:Rec}{rA6 rA7 rA8:Option Addr}(o:OwnW w zb 34 z fp) (nd:fp.Nodup) (rK:r.Ok) (rO6:own false w [.slice rA6 r.Rows.length rC6] r.Rows rF6) (rD6:∀ b∈rF6,b ∉ fp) (rO7:own false w [.slice rA7 r.Data.length rC7] r.Data rF7) (rD7:∀ b∈rF7,b ∉ fp) (rO8:own false w [.slice rA8 r.Delta.length rC8] r.Delta rF8) (rD8:∀ b∈rF8,b ∉ fp) (hd:z.Down=false) (hs:z.Shape.ok=true) (hG:bG z=true) (hg:ins g 0 (z.Shape.Groups+z.Shape.Column-1)=true) (hm:fK z.Shape r=0) (hk:r.Kind=2) (hw:z.Writes≤1400000000):Ret Tryz.prog 75 #[.pointer (some ⟨zb,0,none⟩),.int .i64 g,r.val rA6 rC6 rA7 rC7 rA8 rC8] w fun v w'=>(v = .bool (dr z g r).1∧MutW w w' fp zb 34 ((dr z g r).2)):=by
 have rK2:=rK;unfold Rec.Ok at rK2
 try unfold I64ok at rK2
 try unfold maxLen at rK2
 have rN2:r.Name.size≤maxLen:=by unfold maxLen; omega
 have rL6:=oL rO6;have rL7:=oL rO7;have rL8:=oL rO8;have sbd:=aZ hs;have hdn:dH z=z.Shape.Data.toNat+z.Shape.Spare.toNat:=Z;obtain ⟨hgg,hgr,hro,hDl,hDe,hsq⟩:=fG hs hG hg hm hk;have hgi:=bD.1 hg;refine aV func75 Z ntmps75 Z (fun Q hQ hN=>?_);have H0:=(((Sep.beginW o nd).seeF (rO6) rD6).seeF (rO7) rD7).seeF (rO8) rD8
 try dsimp only[lNA,lCA,lSZ,lSS] at H0
 refine ah (bE ae Z Z H0 (fun b1 w1 e1 g1 H1=>sA Z Z (aa (ag ?_))));obtain ⟨wA1,wC1,wA2,wC2,wA3,wC3,wf1,wf2,wf3,wok1,H2⟩:=H1.openW 0 Z
 try dsimp only[lNA,lCA,lSZ,lSS] at H2
 have wok1U:=wok1;unfold Wld.Ok Shape.Ok I64ok at wok1U;have wL1:=oL (H2.mine 3 Z);have wL2:=oL (H2.mine 4 Z);have wL3:=oL (H2.mine 5 Z);refine aw (sR 2 Z (sF aJ Z ba (sV Z (aj aX Z ba Z Z (At.sub (H2.box 0 Z) 9)) (bQ ae Z zeroValue30 H2 (fun b2 w2 e2 g2 H3=>aO ae ba Z Z Z Z H3 6 Z Z (fun w3 e3 H4=>?_))))));dsimp only[lNA,lCA,lSZ,lSS,aC] at H4;refine aa (ah (sF aX Z ts2 (sLd tu2 (H4.box 6 Z) Z (sF aX Z ts2 (sLd tu2 (H4.box 6 Z) Z (sF az Z bf (sLd bc (H4.box 1 Z) Z (sC func143 pX Z (jn ω ω ω ω (H4.sees 1 Z) (n:=z.Shape.Data.toNat) (s:=z.Shape.Spare.toNat)) (fun v1 w4 r1=>?_)))))))));obtain ⟨e4,r1⟩:=r1;obtain ⟨fp1,H5⟩:=H4.res e4 r1;obtain ⟨a1,k1,q1⟩:=ax (H5.mine 7 Z);cases q1;refine sA Z Z (aa (ag (ah (sM Z Z (sF aX Z ts2 (sLd tu2 (H5.box 6 Z) Z (sV Z (gx Z Z) (aa (aA Z (fun c1=>?_) (fun c1=>?_))))))))))
 ·refine ah (sM Z Z (sV Z (aN Z Z iO) (sF aX Z ts2 (sLd tu2 (H5.box 6 Z) Z (sV Z (cQ Z Z iO) (sF az Z ts2 (sLd tu2 (H5.box 1 Z) Z (sE func144 po Z (jc ω) H5 (fun w5 e5 H6=>sA Z Z (aa ?_))))))))));have hscl:(bJ r.Delta (cauchy (8+g-z.Shape.Groups) r.Group)).length=z.Shape.Data.toNat*4:=by rw [ep]; omega
  refine bv (S:=Ext No _) (oQ [1,3,5,7,9,11,13,14,16,18]) κ κ κ Z (fun _=>Ext.refl.drawn _) (fun q2=>?_);have H7:=H6.drawn q2;refine dV Z Z (fun zw hx=>ab aX Z ts2 Z Z) (dV Z Z (fun zw hx=>ac tu2 Z Z (ak (hx.heap (H7.box 6 Z)) Z)) (dV Z Z (fun zw hx=>ab aX Z ts2 Z Z) (dV Z Z (fun zw hx=>ac tu2 Z Z (ak (hx.heap (H7.box 6 Z)) Z)) (dV Z Z (fun zw hx=>ab az Z bf Z Z) (dV Z Z (fun zw hx=>ac bc Z Z (ak (hx.heap (H7.box 1 Z)) Z)) (dM Z Z Z (dC func145 pG Z (jg (H7.sees 2 Z) ω) (fun v3 w6 r3=>?_))))))));obtain ⟨e6,r3⟩:=r3;obtain ⟨fp2,H8⟩:=H7.res e6 r3;obtain ⟨a2,k2,q3⟩:=ax (H8.mine 8 Z);cases q3;refine dC func143 pX Z (jn ω ω ω ω (H8.msees 8 Z) (n:=z.Shape.Data.toNat) (s:=z.Shape.Spare.toNat)) (fun v4 w7 r4=>?_);obtain ⟨e7,r4⟩:=r4;obtain ⟨fp3,H9⟩:=H8.res e7 r4;obtain ⟨a3,k3,q4⟩:=ax (H9.mine 9 Z);cases q4;refine bh Z ae Z Z (aY Z) (aS (ag (ah (sA Z Z (aa (ay ?_))))));obtain ⟨fp4,H10⟩:=H9.closeW 0 3 4 5 z Z Z Z Z Z Z Z Z Z Z wok1
  try dsimp only[lNA,lCA,lSZ,lSS] at H10
  have hca:8+g-z.Shape.Groups=8+(g-z.Shape.Groups):=by omega
  obtain ⟨us,f0,f1,hul,HT⟩:=H10.toRows 9 Z
  try dsimp only[lNA,lCA,lSZ,lSS] at HT
  have HC:=HT.sub (.cons_cons _ (.cons_cons _ (.cons _ (.cons _ (.cons _ (.cons _ (.cons_cons _ (.cons _ (.cons _ (.cons_cons _ (.cons _ (.cons_cons _ List.Sublist.slnil))))))))))));have hRl:(fH z.Shape.Data.toNat (z.Shape.Data.toNat+z.Shape.Spare.toNat) (bJ r.Delta (cauchy (8+g-z.Shape.Groups) r.Group))).length=dH z:=by exact i9
  have hul9:us.length=(fH z.Shape.Data.toNat (z.Shape.Data.toNat+z.Shape.Spare.toNat) (bJ r.Delta (cauchy (8+g-z.Shape.Groups) r.Group))).length:=hul;have hRe:fh z g r=(fH z.Shape.Data.toNat (z.Shape.Data.toNat+z.Shape.Spare.toNat) (bJ r.Delta (cauchy (8+g-z.Shape.Groups) r.Group))):=by rw [fh,if_neg (fun q=>by have:=bD.1 q; omega),addedL,hca]
  refine cp (γ:=Nat × Wld × List Nat × List Nat) (fun (i,zi,f,fr)=>[(0,.pointer (some ⟨zb,0,none⟩)),(1,.int .i64 g),(5,.pointer (some ⟨b1,0,none⟩)),(7,.pointer (some ⟨b2,0,none⟩)),(8,.slice a3 (fH z.Shape.Data.toNat (z.Shape.Data.toNat+z.Shape.Spare.toNat) (bJ r.Delta (cauchy (8+g-z.Shape.Groups) r.Group))).length k3),(10,.int .i64 i)]) (fun (i,zi,f,fr) w'=>Sep (· ∈ fp) w [wldR zb 34 zi f,box b1 (.cells [.int .i64 r.Kind,.int .i64 r.Seq,.string r.Name,.int .i64 r.Length,.int .i64 r.Group,.int .i64 r.Row,.slice rA6 r.Rows.length rC6,.slice rA7 r.Data.length rC7,.slice rA8 r.Delta.length rC8].toArray 47),box b2 (.cells [.int .i64 z.Shape.Groups,.int .i64 z.Shape.Column,.int .i64 z.Shape.Data,.int .i64 z.Shape.Spare,.int .i64 z.Shape.Rows,.int .i64 z.Shape.Cap,.int .i64 z.Shape.Batch,.int .i64 z.Shape.Queue,.int .i64 z.Shape.Stage].toArray 30),mine [.slice a3 (fH z.Shape.Data.toNat (z.Shape.Data.toNat+z.Shape.Spare.toNat) (bJ r.Delta (cauchy (8+g-z.Shape.Groups) r.Group))).length k3] us f0,rowsT (us.drop i) ((fH z.Shape.Data.toNat (z.Shape.Data.toNat+z.Shape.Spare.toNat) (bJ r.Delta (cauchy (8+g-z.Shape.Groups) r.Group))).drop i) fr] [seen false [.slice rA6 r.Rows.length rC6] r.Rows rF6,seen false [.slice rA7 r.Data.length rC7] r.Data rF7,seen false [.slice rA8 r.Delta.length rC8] r.Delta rF8] w'∧i≤dH z∧dr z g r=redoI (fH z.Shape.Data.toNat (z.Shape.Data.toNat+z.Shape.Spare.toNat) (bJ r.Delta (cauchy (8+g-z.Shape.Groups) r.Group))) g r (dH z-i) i zi∧zi.Shape=z.Shape∧zi.Groups.length=z.Groups.length∧(zi.Groups.getD g.toNat []).length=(z.Groups.getD g.toNat []).length∧(∀ j,i≤j→bF zi g.toNat j=bF z g.toNat j)∧zi.Writes≤z.Writes+i∧zi.Down=false) (fun (i,zi,f,fr)=>dH z-i) (0,z,_,_) ⟨Z,Z,Z,Z,Z,Z,trivial⟩ ⟨HC,by (try dsimp only); omega,(by rw [← hRe]; rfl),Z,Z,Z,fun _ _=>Z,by (try dsimp only); omega,hd⟩ (fun (i,zi,f,fr) w8 H11=>?_);obtain ⟨H11,hi,hdl,hsh,hgl,hgn,hdv,hw2,hdn2⟩:=H11;refine ag (ah (sR 2 Z (sV Z (aU eJ Z) (sV Z (bq Z Z) (aa (aA Z (fun c2=>?_) (fun c2=>?_)))))))
  ·refine ar (ag (ay (ag ?_)));have hdr:=hdv i (Nat.le_refl i);have hq1:g.toNat<zi.Groups.length:=by omega
   have hq2:i<(zi.Groups.getD g.toNat []).length:=by omega
   have hq3:r.Row.toNat<((zi.Groups.getD g.toNat []).getD i default).Blocks.length:=by
    have e:(zi.Groups.getD g.toNat []).getD i default=(z.Groups.getD g.toNat []).getD i default:=hdr;rw [e]; exact (hro i ω).1
   have hq4:(dQ zi g.toNat i r.Row.toNat).Bytes.length=4:=by
    unfold dQ; rw [hdr]; exact (hro i ω).2
   obtain ⟨wA4,wC4,wA5,wC5,wA6,wC6,wf4,wf5,wf6,wok2,H12⟩:=H11.openW 0 Z
   try dsimp only[lNA,lCA,lSZ,lSS] at H12
   have wok2U:=wok2;unfold Wld.Ok Shape.Ok I64ok at wok2U;have wL4:=oL (H12.mine 6 Z);have wL5:=oL (H12.mine 7 Z);have wL6:=oL (H12.mine 8 Z);obtain ⟨eb1,eo1,eT1,eF1,eG1,ea1,ek1,eg1,ee1,eH1⟩:=H12.focusL 6 Z g.toNat ω
   try dsimp only[lNA,lCA,lSZ,lSS] at eH1
   obtain ⟨eb2,eo2,eT2,eF2,eG2,ea2,ek2,eg2,ee2,eK1,eH2⟩:=Drive.focus eH1 9 Z i ω;have eK1U:=eK1;unfold Drive.Ok at eK1U
   try unfold I64ok at eK1U
   try unfold maxLen at eK1U
   try dsimp only[lNA,lCA,lSZ,lSS] at eH2
   refine aw (sR 2 Z (sF aJ Z df (sLd bT (eH2.box 0 Z) Z (sM Z Z (sV Z (aF bT fB Z Z ee1 g.toNat ω ω) (sV Z (ac cm Z Z (bw (eH2.holAt 6 Z) 0 Z)) (sM Z Z (sV Z (aF cm dW Z Z ee2 i ω ω) (sV Z (aj d8 Z dW Z Z (eH2.holAt 9 Z)) (bQ ae Z zeroValue54 eH2 (fun b3 w9 e8 g3 H13=>aO ae dW Z Z Z Z H13 12 Z Z (fun w10 e9 H14=>?_))))))))))));dsimp only[lNA,lCA,lSZ,lSS,aC] at H14;refine aa (ag (ag ?_));obtain ⟨eb3,eo3,eT3,eF3,eG3,ea3,ek3,eg3,ee3,eK2,eH3⟩:=Block.focus H14 11 Z r.Row.toNat ω;have eK2U:=eK2;unfold Block.Ok at eK2U
   try unfold I64ok at eK2U
   try dsimp only[lNA,lCA,lSZ,lSS] at eH3
   refine bv (S:=Ext No _) (oQ [1,3,5,7,9,11,13,15,17,19,21,23,25,26]) κ κ κ Z (fun _=>Ext.refl.drawn _) (fun q5=>?_);have H15:=eH3.drawn q5;refine dV Z Z (fun zw hx=>ab d8 Z ts4 Z Z) (dV Z Z (fun zw hx=>ac tu4 Z Z (ak (hx.heap (H15.box 12 Z)) Z)) (dM Z Z Z (cK (t:=63) Z (fun hg1=>?_) (fun hg1=>?_))))
   ·try simp only [decide_eq_true_eq,decide_eq_false_iff_not] at hg1
    refine dR 10 Z (bh Z ae Z Z (aG Z Z) (aS (dz Z (bd (aw (sM Z Z (sV Z (aN Z Z iO) (sA Z Z (aa ?_)))))))));obtain ⟨fp5,H16⟩:=Block.fill H15 11 14 Z Z Z eK2
    try dsimp only[lNA,lCA,lSZ,lSS] at H16
    obtain ⟨fp6,H17⟩:=Drive.fill H16 9 11 Z Z Z eK1
    try dsimp only[lNA,lCA,lSZ,lSS] at H17
    obtain ⟨fp7,H18⟩:=H17.fill 6 9 Z Z Z
    try dsimp only[lNA,lCA,lSZ,lSS] at H18
    obtain ⟨fp8,H19⟩:=H18.closeW 0 6 7 8 (fE g.toNat i r.Row.toNat (dQ zi g.toNat i r.Row.toNat) zi) Z Z Z Z Z Z Z Z Z Z (eT wok2)
    try dsimp only[lNA,lCA,lSZ,lSS] at H19
    rw [fb hq1 hq2 hq3] at H19;obtain ⟨ra,rc,rf,rg,hrv,H20⟩:=H19.rowsAtK 4 i Z ω hul
    try dsimp only[lNA,lCA,lSZ,lSS] at H20
    exact ⟨(i+1,zi,_,_),⟨Z,Z,Z,Z,Z,Z,trivial⟩,⟨(H20.sub (.cons_cons _ (.cons_cons _ (.cons_cons _ (.cons_cons _ (.cons _ (.cons _ (.cons _ (.cons _ (.cons _ (.cons _ (.cons _ (.cons _ (.cons _ (.cons _ (.cons _ (.cons _ (.cons_cons _ List.Sublist.slnil)))))))))))))))))),by (try dsimp only); omega,by (try dsimp only); rw [hdl,gQ ω (by first | exact rq η | exact rF η)],hsh,hgl,hgn,fun j hj=>hdv j (by (try dsimp only at hj); omega),by (try dsimp only); omega,hdn2⟩,θ⟩
   ·try simp only [decide_eq_true_eq,decide_eq_false_iff_not] at hg1
    refine aL Z (wg Z Z Z) Z Z (fun zw hx=>ab d8 Z gb Z Z) (aL Z (wg Z Z Z) Z Z (fun zw hx=>ac dg Z Z (ak (hx.heap (H15.box 12 Z)) Z)) (aL Z (wg Z Z Z) Z Z (fun zw hx=>ab az Z ts2 Z Z) (aL Z (wg Z Z Z) Z Z (fun zw hx=>ac tu2 Z Z (ak (hx.heap (H15.box 1 Z)) Z)) (aL Z (wg Z Z Z) Z Z (fun zw hx=>aF dg dX Z Z ee3 r.Row.toNat ω ω) (aL Z (wg Z Z Z) Z Z (fun zw hx=>ab eX Z ts2 Z Z) (aL Z (wg Z Z Z) Z Z (fun zw hx=>ac tu2 Z Z (bw (hx.at (H15.holAt 11 Z)) 0 Z)) (aL Z (wg Z Z Z) Z Z (fun zw hx=>ab az Z ts2 Z Z) (aL Z (wg Z Z Z) Z Z (fun zw hx=>ac tu2 Z Z (ak (hx.heap (H15.box 1 Z)) Z)) (aL Z (wg Z Z Z) Z Z (fun zw hx=>gx Z Z) (bh Z ae Z Z (aE Z Z) (aS (aA Z (fun c3=>?_) (fun c3=>?_)))))))))))))
    ·refine bd (aw (sM Z Z (sV Z (aN Z Z iO) (sA Z Z (aa ?_)))));obtain ⟨fp9,H21⟩:=Block.fill H15 11 14 Z Z Z eK2
     try dsimp only[lNA,lCA,lSZ,lSS] at H21
     obtain ⟨fp10,H22⟩:=Drive.fill H21 9 11 Z Z Z eK1
     try dsimp only[lNA,lCA,lSZ,lSS] at H22
     obtain ⟨fp11,H23⟩:=H22.fill 6 9 Z Z Z
     try dsimp only[lNA,lCA,lSZ,lSS] at H23
     obtain ⟨fp12,H24⟩:=H23.closeW 0 6 7 8 (fE g.toNat i r.Row.toNat (dQ zi g.toNat i r.Row.toNat) zi) Z Z Z Z Z Z Z Z Z Z (eT wok2)
     try dsimp only[lNA,lCA,lSZ,lSS] at H24
     rw [fb hq1 hq2 hq3] at H24;obtain ⟨ra,rc,rf,rg,hrv,H25⟩:=H24.rowsAtK 4 i Z ω hul
     try dsimp only[lNA,lCA,lSZ,lSS] at H25
     exact ⟨(i+1,zi,_,_),⟨Z,Z,Z,Z,Z,Z,trivial⟩,⟨(H25.sub (.cons_cons _ (.cons_cons _ (.cons_cons _ (.cons_cons _ (.cons _ (.cons _ (.cons _ (.cons _ (.cons _ (.cons _ (.cons _ (.cons _ (.cons _ (.cons _ (.cons _ (.cons _ (.cons_cons _ List.Sublist.slnil)))))))))))))))))),by (try dsimp only); omega,by (try dsimp only); rw [hdl,gQ ω (by first | exact rq η | exact rF η)],hsh,hgl,hgn,fun j hj=>hdv j (by (try dsimp only at hj); omega),by (try dsimp only); omega,hdn2⟩,θ⟩
    ·refine ar (ag ?_);obtain ⟨ra,rc,rf,rg,hrv,H26⟩:=H15.rowsAtK 4 i Z ω hul
     try dsimp only[lNA,lCA,lSZ,lSS] at H26
     obtain ⟨vb,vo,vad,vcell⟩:=qz (H26.mine 3 Z) i ω;rw [hrv] at vcell;obtain ⟨eb4,eo4,ee4⟩:=gw (H26.mine 3 Z) i ω;refine aw (sR 2 Z (sV Z (aF eJ bf Z Z vad i ω ω) (sV Z (ac bc Z Z vcell) (sA Z Z (aa (ag (ag ?_)))))));have hrw:((fH z.Shape.Data.toNat (z.Shape.Data.toNat+z.Shape.Spare.toNat) (bJ r.Delta (cauchy (8+g-z.Shape.Groups) r.Group))).getD i []).length=4:=by exact iF (by rw [ep]; omega) i ω
     have hq5:((((zi.Groups.getD g.toNat []).getD i default).Blocks.getD r.Row.toNat default).Bytes).length=4:=hq4;have hbl:(fc ((fH z.Shape.Data.toNat (z.Shape.Data.toNat+z.Shape.Spare.toNat) (bJ r.Delta (cauchy (8+g-z.Shape.Groups) r.Group))).getD i []) ((((zi.Groups.getD g.toNat []).getD i default).Blocks.getD r.Row.toNat default).Bytes)).length=4:=by rw [eW ω]; exact hrw
     refine aw (sM Z Z (sF aX Z ts2 (sLd tu2 (H26.box 2 Z) Z (sV Z (gx Z Z) (aa (aA Z (fun c4=>?_) (fun c4=>?_)))))))
     ·refine aw (sM Z Z (sF d8 Z gb (sLd dg (H26.box 12 Z) Z (sF az Z ts2 (sLd tu2 (H26.box 1 Z) Z (sV Z (aF dg dX Z Z ee3 r.Row.toNat ω ω) (sF eX Z bf (sV Z (ac bc Z Z (bw (H26.holAt 11 Z) 1 Z)) (sC func146 pz Z (kw ⟨_,am (H26.mine 15 Z)⟩ ⟨_,am (H26.mine 14 Z)⟩ ω) (fun v5 w11 r5=>?_))))))))));obtain ⟨e10,r5⟩:=r5;obtain ⟨fp13,H27⟩:=H26.res e10 r5;obtain ⟨a4,k4,q6⟩:=ax (H27.mine 17 Z);cases q6;refine sA Z Z (aa (ag (ag ?_)));obtain ⟨fp14,H28⟩:=Block.fill H27 11 14 Z Z Z eK2
      try dsimp only[lNA,lCA,lSZ,lSS] at H28
      obtain ⟨fp15,H29⟩:=Drive.fill H28 9 11 Z Z Z eK1
      try dsimp only[lNA,lCA,lSZ,lSS] at H29
      obtain ⟨fp16,H30⟩:=H29.fill 6 9 Z Z Z
      try dsimp only[lNA,lCA,lSZ,lSS] at H30
      obtain ⟨fp17,H31⟩:=H30.closeW 0 6 7 8 (fE g.toNat i r.Row.toNat (dQ zi g.toNat i r.Row.toNat) zi) Z Z Z Z Z Z Z Z Z Z (eT wok2)
      try dsimp only[lNA,lCA,lSZ,lSS] at H31
      rw [fb hq1 hq2 hq3] at H31;refine aw (sM Z Z (sC func147 pM Z (kz (H31.wldAt 0 Z) (H31.nodup1 (i:=0) Z) ξ ξ) (fun v6 w12 r6=>?_)));obtain ⟨rfl,mm1⟩:=r6;obtain ⟨fp18,H32⟩:=H31.mutW 0 Z mm1
      try dsimp only[lNA,lCA,lSZ,lSS] at H32
      refine sV Z (bj Z) (aa (cI Z (fun c5=>?_) (fun c5=>?_)))
      ·refine ah (rA hQ results75 Z ?_);have hnb:dl zi g i r ((fH z.Shape.Data.toNat (z.Shape.Data.toNat+z.Shape.Spare.toNat) (bJ r.Delta (cauchy (8+g-z.Shape.Groups) r.Group))).getD i [])=(fc ((fH z.Shape.Data.toNat (z.Shape.Data.toNat+z.Shape.Spare.toNat) (bJ r.Delta (cauchy (8+g-z.Shape.Groups) r.Group))).getD i []) ((((zi.Groups.getD g.toNat []).getD i default).Blocks.getD r.Row.toNat default).Bytes)):=by
        rw [dl,hsh,if_neg (fun q=>by have:=bD.1 q; omega)]
        rfl
       have hsk:dv zi g.toNat i r=false:=by first | exact li η η | exact li (by simpa using η) η
       obtain ⟨hf1,hf2,hf3⟩:=ej (b:=⟨r.Seq,dl zi g i r ((fH z.Shape.Data.toNat (z.Shape.Data.toNat+z.Shape.Spare.toNat) (bJ r.Delta (cauchy (8+g-z.Shape.Groups) r.Group))).getD i [])⟩) (row:=r.Row.toNat) hq1 hq2;have hf4:=(dD (g:=g.toNat) (i:=i) (row:=r.Row.toNat) (b:=⟨r.Seq,dl zi g i r ((fH z.Shape.Data.toNat (z.Shape.Data.toNat+z.Shape.Spare.toNat) (bJ r.Delta (cauchy (8+g-z.Shape.Groups) r.Group))).getD i [])⟩) (z:=zi)).2;have hp1:cd zi=true:=by simpa using c5
       have hz:=H32.doneW;rw [hdl,kv ω hsk hp1];rw [jZ (y:=zi) hp1,← jZ (y:=fE g.toNat i r.Row.toNat ⟨r.Seq,dl zi g i r ((fH z.Shape.Data.toNat (z.Shape.Data.toNat+z.Shape.Spare.toNat) (bJ r.Delta (cauchy (8+g-z.Shape.Groups) r.Group))).getD i [])⟩ zi) hp1] at hz;exact ⟨Z,hz⟩
      ·refine ar ?_;have hp1:cd zi=false:=by simpa using c5
       obtain ⟨z1,hz1⟩:∃ z1,z1=gE zi:=⟨_,Z⟩;have HZ:=H32;rw [ik hp1,← hz1] at HZ;have hy1:g.toNat<z1.Groups.length:=by rw [hz1]; exact hq1
       have hy2:i<(z1.Groups.getD g.toNat []).length:=by rw [hz1]; exact hq2
       have hy3:r.Row.toNat<((z1.Groups.getD g.toNat []).getD i default).Blocks.length:=by rw [hz1]; exact hq3
       have hxk:I64ok r.Seq:=by unfold I64ok; omega
       obtain ⟨wA7,wC7,wA8,wC8,wA9,wC9,wf7,wf8,wf9,wok3,H33⟩:=HZ.openW 0 Z
       try dsimp only[lNA,lCA,lSZ,lSS] at H33
       have wok3U:=wok3;unfold Wld.Ok Shape.Ok I64ok at wok3U;have wL7:=oL (H33.mine 19 Z);have wL8:=oL (H33.mine 20 Z);have wL9:=oL (H33.mine 21 Z);obtain ⟨eb5,eo5,eT4,eF4,eG4,ea4,ek4,eg4,ee5,eH4⟩:=H33.focusL 19 Z g.toNat ω
       try dsimp only[lNA,lCA,lSZ,lSS] at eH4
       obtain ⟨eb6,eo6,eT5,eF5,eG5,ea5,ek5,eg5,ee6,eK3,eH5⟩:=Drive.focus eH4 22 Z i ω;have eK3U:=eK3;unfold Drive.Ok at eK3U
       try unfold I64ok at eK3U
       try unfold maxLen at eK3U
       try dsimp only[lNA,lCA,lSZ,lSS] at eH5
       obtain ⟨eb7,eo7,ee7⟩:=gw (eH5.mine 24 Z) r.Row.toNat ω;refine bv (S:=Ext No _) (oQ [1,3,5,7,9,11,13,15,17,19,21,23,25,27,29,31,33,35,36]) κ κ κ Z (fun _=>Ext.refl.drawn _) (fun q7=>?_);have H34:=eH5.drawn q7;refine dR 2 Z (dV Z Z (fun zw hx=>ab aJ Z df Z Z) (dV Z Z (fun zw hx=>ac bT Z Z (ak (hx.heap (H34.box 0 Z)) Z)) (dM Z Z Z (dV Z Z (fun zw hx=>aF bT fB Z Z ee5 g.toNat ω ω) (dV Z Z (fun zw hx=>ac cm Z Z (bw (hx.at (H34.holAt 19 Z)) 0 Z)) (dM Z Z Z (dV Z Z (fun zw hx=>aF cm dW Z Z ee6 i ω ω) (dV Z Z (fun zw hx=>ab d8 Z gb Z Z) (dV Z Z (fun zw hx=>ac dg Z Z (bw (hx.at (H34.holAt 22 Z)) 1 Z)) (dV Z Z (fun zw hx=>ab az Z ts2 Z Z) (dV Z Z (fun zw hx=>ac tu2 Z Z (ak (hx.heap (H34.box 1 Z)) Z)) (dV Z Z (fun zw hx=>ab az Z ts2 Z Z) (dV Z Z (fun zw hx=>ac tu2 Z Z (ak (hx.heap (H34.box 1 Z)) Z)) (dM Z Z Z (dV Z Z (fun zw hx=>aT eH Z Z) (dV Z Z (fun zw hx=>aF dg dX Z Z ee7 r.Row.toNat ω ω) ?_))))))))))))))));have H36:=H34.packB 17 r.Seq Z hxk
       try dsimp only[lNA,lCA,lSZ,lSS] at H36
       refine hP Z ae dX H36 24 17 Z Z Z r.Row.toNat ω Z ee7 Z (fun w13 fp19 H35=>?_)
       try dsimp only[lNA,lCA,lSZ,lSS] at H35
       refine aS (aw (sM Z Z (sV Z (aN Z Z iO) (sA Z Z (aa ?_)))));obtain ⟨fp20,H37⟩:=Drive.fill H35 22 24 Z Z Z eK3
       try dsimp only[lNA,lCA,lSZ,lSS] at H37
       obtain ⟨fp21,H38⟩:=H37.fill 19 22 Z Z Z
       try dsimp only[lNA,lCA,lSZ,lSS] at H38
       obtain ⟨fp22,H39⟩:=H38.closeW 0 19 20 21 (fE g.toNat i r.Row.toNat ⟨r.Seq,(fc ((fH z.Shape.Data.toNat (z.Shape.Data.toNat+z.Shape.Spare.toNat) (bJ r.Delta (cauchy (8+g-z.Shape.Groups) r.Group))).getD i []) ((((zi.Groups.getD g.toNat []).getD i default).Blocks.getD r.Row.toNat default).Bytes))⟩ z1) Z Z Z Z Z Z Z Z Z Z (eT wok3)
       try dsimp only[lNA,lCA,lSZ,lSS] at H39
       have hnb:dl zi g i r ((fH z.Shape.Data.toNat (z.Shape.Data.toNat+z.Shape.Spare.toNat) (bJ r.Delta (cauchy (8+g-z.Shape.Groups) r.Group))).getD i [])=(fc ((fH z.Shape.Data.toNat (z.Shape.Data.toNat+z.Shape.Spare.toNat) (bJ r.Delta (cauchy (8+g-z.Shape.Groups) r.Group))).getD i []) ((((zi.Groups.getD g.toNat []).getD i default).Blocks.getD r.Row.toNat default).Bytes)):=by
        rw [dl,hsh,if_neg (fun q=>by have:=bD.1 q; omega)]
        rfl
       have hsk:dv zi g.toNat i r=false:=by first | exact li η η | exact li (by simpa using η) η
       obtain ⟨hf1,hf2,hf3⟩:=ej (b:=⟨r.Seq,dl zi g i r ((fH z.Shape.Data.toNat (z.Shape.Data.toNat+z.Shape.Spare.toNat) (bJ r.Delta (cauchy (8+g-z.Shape.Groups) r.Group))).getD i [])⟩) (row:=r.Row.toNat) hq1 hq2;have hf4:=(dD (g:=g.toNat) (i:=i) (row:=r.Row.toNat) (b:=⟨r.Seq,dl zi g i r ((fH z.Shape.Data.toNat (z.Shape.Data.toNat+z.Shape.Spare.toNat) (bJ r.Delta (cauchy (8+g-z.Shape.Groups) r.Group))).getD i [])⟩) (z:=zi)).2;have hz:=(H39.sub (.cons_cons _ (.cons_cons _ (.cons_cons _ (.cons_cons _ (.cons _ (.cons _ (.cons _ (.cons _ (.cons _ (.cons _ (.cons _ (.cons _ (.cons _ (.cons _ (.cons _ (.cons _ (.cons_cons _ (.cons _ (.cons _ (.cons _ (.cons _ (.cons _ (.cons _ (.cons _ (.cons _ List.Sublist.slnil))))))))))))))))))))))))));rw [hz1,qw,← jQ hp1,← hnb] at hz;exact ⟨(i+1,fP g.toNat i r.Row.toNat ⟨r.Seq,dl zi g i r ((fH z.Shape.Data.toNat (z.Shape.Data.toNat+z.Shape.Spare.toNat) (bJ r.Delta (cauchy (8+g-z.Shape.Groups) r.Group))).getD i [])⟩ zi,_,_),⟨Z,Z,Z,Z,Z,Z,trivial⟩,⟨hz,by (try dsimp only); omega,by (try dsimp only); rw [hdl,mj ω hsk hp1],by (try dsimp only); rw [gS]; exact hsh,by (try dsimp only); omega,by (try dsimp only); omega,fun j hj=>(hf3 j (by (try dsimp only at hj); omega)).trans (hdv j (by (try dsimp only at hj); omega)),by (try dsimp only); omega,by (try dsimp only); rw [qA hp1]; exact hdn2⟩,θ⟩
     ·exact absurd c4 ω
  ·refine bd (ah (rA hQ results75 Z ?_));have hz:=H11.doneW;rw [hdl,lw ω];exact ⟨Z,hz⟩
 ·refine ar (ag (ah (sA Z Z (aa (ay ?_)))));obtain ⟨fp23,H40⟩:=H5.closeW 0 3 4 5 z Z Z Z Z Z Z Z Z Z Z wok1
  try dsimp only[lNA,lCA,lSZ,lSS] at H40
  obtain ⟨us,f0,f1,hul,HT⟩:=H40.toRows 7 Z
  try dsimp only[lNA,lCA,lSZ,lSS] at HT
  have HC:=HT.sub (.cons_cons _ (.cons_cons _ (.cons _ (.cons _ (.cons _ (.cons _ (.cons_cons _ (.cons_cons _ (.cons _ (.cons_cons _ List.Sublist.slnil))))))))));have hRl:(cG z r).length=dH z:=by unfold cG; exact i9
  have hul9:us.length=(cG z r).length:=hul;have hRe:fh z g r=(cG z r):=if_pos (bD.2 ω);refine cp (γ:=Nat × Wld × List Nat × List Nat) (fun (i,zi,f,fr)=>[(0,.pointer (some ⟨zb,0,none⟩)),(1,.int .i64 g),(5,.pointer (some ⟨b1,0,none⟩)),(7,.pointer (some ⟨b2,0,none⟩)),(8,.slice a1 (cG z r).length k1),(10,.int .i64 i)]) (fun (i,zi,f,fr) w'=>Sep (· ∈ fp) w [wldR zb 34 zi f,box b1 (.cells [.int .i64 r.Kind,.int .i64 r.Seq,.string r.Name,.int .i64 r.Length,.int .i64 r.Group,.int .i64 r.Row,.slice rA6 r.Rows.length rC6,.slice rA7 r.Data.length rC7,.slice rA8 r.Delta.length rC8].toArray 47),box b2 (.cells [.int .i64 z.Shape.Groups,.int .i64 z.Shape.Column,.int .i64 z.Shape.Data,.int .i64 z.Shape.Spare,.int .i64 z.Shape.Rows,.int .i64 z.Shape.Cap,.int .i64 z.Shape.Batch,.int .i64 z.Shape.Queue,.int .i64 z.Shape.Stage].toArray 30),mine [.slice a1 (cG z r).length k1] us f0,rowsT (us.drop i) ((cG z r).drop i) fr] [seen false [.slice rA6 r.Rows.length rC6] r.Rows rF6,seen false [.slice rA7 r.Data.length rC7] r.Data rF7,seen false [.slice rA8 r.Delta.length rC8] r.Delta rF8] w'∧i≤dH z∧dr z g r=redoI (cG z r) g r (dH z-i) i zi∧zi.Shape=z.Shape∧zi.Groups.length=z.Groups.length∧(zi.Groups.getD g.toNat []).length=(z.Groups.getD g.toNat []).length∧(∀ j,i≤j→bF zi g.toNat j=bF z g.toNat j)∧zi.Writes≤z.Writes+i∧zi.Down=false) (fun (i,zi,f,fr)=>dH z-i) (0,z,_,_) ⟨Z,Z,Z,Z,Z,Z,trivial⟩ ⟨HC,by (try dsimp only); omega,(by rw [← hRe]; rfl),Z,Z,Z,fun _ _=>Z,by (try dsimp only); omega,hd⟩ (fun (i,zi,f,fr) w14 H41=>?_);obtain ⟨H41,hi,hdl,hsh,hgl,hgn,hdv,hw2,hdn2⟩:=H41;refine ag (ah (sR 2 Z (sV Z (aU eJ Z) (sV Z (bq Z Z) (aa (aA Z (fun c6=>?_) (fun c6=>?_)))))))
  ·refine ar (ag (ay (ag ?_)));have hdr:=hdv i (Nat.le_refl i);have hq1:g.toNat<zi.Groups.length:=by omega
   have hq2:i<(zi.Groups.getD g.toNat []).length:=by omega
   have hq3:r.Row.toNat<((zi.Groups.getD g.toNat []).getD i default).Blocks.length:=by
    have e:(zi.Groups.getD g.toNat []).getD i default=(z.Groups.getD g.toNat []).getD i default:=hdr;rw [e]; exact (hro i ω).1
   have hq4:(dQ zi g.toNat i r.Row.toNat).Bytes.length=4:=by
    unfold dQ; rw [hdr]; exact (hro i ω).2
   obtain ⟨wA10,wC10,wA11,wC11,wA12,wC12,wf10,wf11,wf12,wok4,H42⟩:=H41.openW 0 Z
   try dsimp only[lNA,lCA,lSZ,lSS] at H42
   have wok4U:=wok4;unfold Wld.Ok Shape.Ok I64ok at wok4U;have wL10:=oL (H42.mine 6 Z);have wL11:=oL (H42.mine 7 Z);have wL12:=oL (H42.mine 8 Z);obtain ⟨eb8,eo8,eT6,eF6,eG6,ea6,ek6,eg6,ee8,eH6⟩:=H42.focusL 6 Z g.toNat ω
   try dsimp only[lNA,lCA,lSZ,lSS] at eH6
   obtain ⟨eb9,eo9,eT7,eF7,eG7,ea7,ek7,eg7,ee9,eK4,eH7⟩:=Drive.focus eH6 9 Z i ω;have eK4U:=eK4;unfold Drive.Ok at eK4U
   try unfold I64ok at eK4U
   try unfold maxLen at eK4U
   try dsimp only[lNA,lCA,lSZ,lSS] at eH7
   refine aw (sR 2 Z (sF aJ Z df (sLd bT (eH7.box 0 Z) Z (sM Z Z (sV Z (aF bT fB Z Z ee8 g.toNat ω ω) (sV Z (ac cm Z Z (bw (eH7.holAt 6 Z) 0 Z)) (sM Z Z (sV Z (aF cm dW Z Z ee9 i ω ω) (sV Z (aj d8 Z dW Z Z (eH7.holAt 9 Z)) (bQ ae Z zeroValue54 eH7 (fun b4 w15 e13 g4 H43=>aO ae dW Z Z Z Z H43 12 Z Z (fun w16 e14 H44=>?_))))))))))));dsimp only[lNA,lCA,lSZ,lSS,aC] at H44;refine aa (ag (ag ?_));obtain ⟨eb10,eo10,eT8,eF8,eG8,ea8,ek8,eg8,ee10,eK5,eH8⟩:=Block.focus H44 11 Z r.Row.toNat ω;have eK5U:=eK5;unfold Block.Ok at eK5U
   try unfold I64ok at eK5U
   try dsimp only[lNA,lCA,lSZ,lSS] at eH8
   refine bv (S:=Ext No _) (oQ [1,3,5,7,9,11,13,15,17,19,21,23,25,26]) κ κ κ Z (fun _=>Ext.refl.drawn _) (fun q8=>?_);have H45:=eH8.drawn q8;refine dV Z Z (fun zw hx=>ab d8 Z ts4 Z Z) (dV Z Z (fun zw hx=>ac tu4 Z Z (ak (hx.heap (H45.box 12 Z)) Z)) (dM Z Z Z (cK (t:=63) Z (fun hg2=>?_) (fun hg2=>?_))))
   ·try simp only [decide_eq_true_eq,decide_eq_false_iff_not] at hg2
    refine dR 10 Z (bh Z ae Z Z (aG Z Z) (aS (dz Z (bd (aw (sM Z Z (sV Z (aN Z Z iO) (sA Z Z (aa ?_)))))))));obtain ⟨fp24,H46⟩:=Block.fill H45 11 14 Z Z Z eK5
    try dsimp only[lNA,lCA,lSZ,lSS] at H46
    obtain ⟨fp25,H47⟩:=Drive.fill H46 9 11 Z Z Z eK4
    try dsimp only[lNA,lCA,lSZ,lSS] at H47
    obtain ⟨fp26,H48⟩:=H47.fill 6 9 Z Z Z
    try dsimp only[lNA,lCA,lSZ,lSS] at H48
    obtain ⟨fp27,H49⟩:=H48.closeW 0 6 7 8 (fE g.toNat i r.Row.toNat (dQ zi g.toNat i r.Row.toNat) zi) Z Z Z Z Z Z Z Z Z Z (eT wok4)
    try dsimp only[lNA,lCA,lSZ,lSS] at H49
    rw [fb hq1 hq2 hq3] at H49;obtain ⟨ra,rc,rf,rg,hrv,H50⟩:=H49.rowsAtK 4 i Z ω hul
    try dsimp only[lNA,lCA,lSZ,lSS] at H50
    exact ⟨(i+1,zi,_,_),⟨Z,Z,Z,Z,Z,Z,trivial⟩,⟨(H50.sub (.cons_cons _ (.cons_cons _ (.cons_cons _ (.cons_cons _ (.cons _ (.cons _ (.cons _ (.cons _ (.cons _ (.cons _ (.cons _ (.cons _ (.cons _ (.cons _ (.cons _ (.cons _ (.cons_cons _ List.Sublist.slnil)))))))))))))))))),by (try dsimp only); omega,by (try dsimp only); rw [hdl,gQ ω (by first | exact rq η | exact rF η)],hsh,hgl,hgn,fun j hj=>hdv j (by (try dsimp only at hj); omega),by (try dsimp only); omega,hdn2⟩,θ⟩
   ·try simp only [decide_eq_true_eq,decide_eq_false_iff_not] at hg2
    refine aL Z (wg Z Z Z) Z Z (fun zw hx=>ab d8 Z gb Z Z) (aL Z (wg Z Z Z) Z Z (fun zw hx=>ac dg Z Z (ak (hx.heap (H45.box 12 Z)) Z)) (aL Z (wg Z Z Z) Z Z (fun zw hx=>ab az Z ts2 Z Z) (aL Z (wg Z Z Z) Z Z (fun zw hx=>ac tu2 Z Z (ak (hx.heap (H45.box 1 Z)) Z)) (aL Z (wg Z Z Z) Z Z (fun zw hx=>aF dg dX Z Z ee10 r.Row.toNat ω ω) (aL Z (wg Z Z Z) Z Z (fun zw hx=>ab eX Z ts2 Z Z) (aL Z (wg Z Z Z) Z Z (fun zw hx=>ac tu2 Z Z (bw (hx.at (H45.holAt 11 Z)) 0 Z)) (aL Z (wg Z Z Z) Z Z (fun zw hx=>ab az Z ts2 Z Z) (aL Z (wg Z Z Z) Z Z (fun zw hx=>ac tu2 Z Z (ak (hx.heap (H45.box 1 Z)) Z)) (aL Z (wg Z Z Z) Z Z (fun zw hx=>gx Z Z) (bh Z ae Z Z (aE Z Z) (aS (aA Z (fun c7=>?_) (fun c7=>?_)))))))))))))
    ·refine bd (aw (sM Z Z (sV Z (aN Z Z iO) (sA Z Z (aa ?_)))));obtain ⟨fp28,H51⟩:=Block.fill H45 11 14 Z Z Z eK5
     try dsimp only[lNA,lCA,lSZ,lSS] at H51
     obtain ⟨fp29,H52⟩:=Drive.fill H51 9 11 Z Z Z eK4
     try dsimp only[lNA,lCA,lSZ,lSS] at H52
     obtain ⟨fp30,H53⟩:=H52.fill 6 9 Z Z Z
     try dsimp only[lNA,lCA,lSZ,lSS] at H53
     obtain ⟨fp31,H54⟩:=H53.closeW 0 6 7 8 (fE g.toNat i r.Row.toNat (dQ zi g.toNat i r.Row.toNat) zi) Z Z Z Z Z Z Z Z Z Z (eT wok4)
     try dsimp only[lNA,lCA,lSZ,lSS] at H54
     rw [fb hq1 hq2 hq3] at H54;obtain ⟨ra,rc,rf,rg,hrv,H55⟩:=H54.rowsAtK 4 i Z ω hul
     try dsimp only[lNA,lCA,lSZ,lSS] at H55
     exact ⟨(i+1,zi,_,_),⟨Z,Z,Z,Z,Z,Z,trivial⟩,⟨(H55.sub (.cons_cons _ (.cons_cons _ (.cons_cons _ (.cons_cons _ (.cons _ (.cons _ (.cons _ (.cons _ (.cons _ (.cons _ (.cons _ (.cons _ (.cons _ (.cons _ (.cons _ (.cons _ (.cons_cons _ List.Sublist.slnil)))))))))))))))))),by (try dsimp only); omega,by (try dsimp only); rw [hdl,gQ ω (by first | exact rq η | exact rF η)],hsh,hgl,hgn,fun j hj=>hdv j (by (try dsimp only at hj); omega),by (try dsimp only); omega,hdn2⟩,θ⟩
    ·refine ar (ag ?_);obtain ⟨ra,rc,rf,rg,hrv,H56⟩:=H45.rowsAtK 4 i Z ω hul
     try dsimp only[lNA,lCA,lSZ,lSS] at H56
     obtain ⟨vb,vo,vad,vcell⟩:=qz (H56.mine 3 Z) i ω;rw [hrv] at vcell;obtain ⟨eb11,eo11,ee11⟩:=gw (H56.mine 3 Z) i ω;refine aw (sR 2 Z (sV Z (aF eJ bf Z Z vad i ω ω) (sV Z (ac bc Z Z vcell) (sA Z Z (aa (ag (ag ?_)))))));have hrw:((cG z r).getD i []).length=4:=by unfold cG; exact iF ω i ω
     have hq5:((((zi.Groups.getD g.toNat []).getD i default).Blocks.getD r.Row.toNat default).Bytes).length=4:=hq4;have hbl:((cG z r).getD i []).length=4:=by exact hrw
     refine aw (sM Z Z (sF aX Z ts2 (sLd tu2 (H56.box 2 Z) Z (sV Z (gx Z Z) (aa (aA Z (fun c8=>?_) (fun c8=>?_)))))))
     ·exact absurd c8 ω
     ·refine ar (ag (ag ?_));obtain ⟨fp32,H57⟩:=Block.fill H56 11 14 Z Z Z eK5
      try dsimp only[lNA,lCA,lSZ,lSS] at H57
      obtain ⟨fp33,H58⟩:=Drive.fill H57 9 11 Z Z Z eK4
      try dsimp only[lNA,lCA,lSZ,lSS] at H58
      obtain ⟨fp34,H59⟩:=H58.fill 6 9 Z Z Z
      try dsimp only[lNA,lCA,lSZ,lSS] at H59
      obtain ⟨fp35,H60⟩:=H59.closeW 0 6 7 8 (fE g.toNat i r.Row.toNat (dQ zi g.toNat i r.Row.toNat) zi) Z Z Z Z Z Z Z Z Z Z (eT wok4)
      try dsimp only[lNA,lCA,lSZ,lSS] at H60
      rw [fb hq1 hq2 hq3] at H60;refine aw (sM Z Z (sC func147 pM Z (kz (H60.wldAt 0 Z) (H60.nodup1 (i:=0) Z) ξ ξ) (fun v7 w17 r7=>?_)));obtain ⟨rfl,mm2⟩:=r7;obtain ⟨fp36,H61⟩:=H60.mutW 0 Z mm2
      try dsimp only[lNA,lCA,lSZ,lSS] at H61
      refine sV Z (bj Z) (aa (cI Z (fun c9=>?_) (fun c9=>?_)))
      ·refine ah (rA hQ results75 Z ?_);have hnb:dl zi g i r ((cG z r).getD i [])=((cG z r).getD i []):=by
        rw [dl,hsh,if_pos (bD.2 ω)]
       have hsk:dv zi g.toNat i r=false:=by first | exact li η η | exact li (by simpa using η) η
       obtain ⟨hf1,hf2,hf3⟩:=ej (b:=⟨r.Seq,dl zi g i r ((cG z r).getD i [])⟩) (row:=r.Row.toNat) hq1 hq2;have hf4:=(dD (g:=g.toNat) (i:=i) (row:=r.Row.toNat) (b:=⟨r.Seq,dl zi g i r ((cG z r).getD i [])⟩) (z:=zi)).2;have hp1:cd zi=true:=by simpa using c9
       have hz:=H61.doneW;rw [hdl,kv ω hsk hp1];rw [jZ (y:=zi) hp1,← jZ (y:=fE g.toNat i r.Row.toNat ⟨r.Seq,dl zi g i r ((cG z r).getD i [])⟩ zi) hp1] at hz;exact ⟨Z,hz⟩
      ·refine ar ?_;have hp1:cd zi=false:=by simpa using c9
       obtain ⟨z1,hz1⟩:∃ z1,z1=gE zi:=⟨_,Z⟩;have HZ:=H61;rw [ik hp1,← hz1] at HZ;have hy1:g.toNat<z1.Groups.length:=by rw [hz1]; exact hq1
       have hy2:i<(z1.Groups.getD g.toNat []).length:=by rw [hz1]; exact hq2
       have hy3:r.Row.toNat<((z1.Groups.getD g.toNat []).getD i default).Blocks.length:=by rw [hz1]; exact hq3
       have hxk:I64ok r.Seq:=by unfold I64ok; omega
       obtain ⟨wA13,wC13,wA14,wC14,wA15,wC15,wf13,wf14,wf15,wok5,H62⟩:=HZ.openW 0 Z
       try dsimp only[lNA,lCA,lSZ,lSS] at H62
       have wok5U:=wok5;unfold Wld.Ok Shape.Ok I64ok at wok5U;have wL13:=oL (H62.mine 18 Z);have wL14:=oL (H62.mine 19 Z);have wL15:=oL (H62.mine 20 Z);obtain ⟨eb12,eo12,eT9,eF9,eG9,ea9,ek9,eg9,ee12,eH9⟩:=H62.focusL 18 Z g.toNat ω
       try dsimp only[lNA,lCA,lSZ,lSS] at eH9
       obtain ⟨eb13,eo13,eT10,eF10,eG10,ea10,ek10,eg10,ee13,eK6,eH10⟩:=Drive.focus eH9 21 Z i ω;have eK6U:=eK6;unfold Drive.Ok at eK6U
       try unfold I64ok at eK6U
       try unfold maxLen at eK6U
       try dsimp only[lNA,lCA,lSZ,lSS] at eH10
       obtain ⟨eb14,eo14,ee14⟩:=gw (eH10.mine 23 Z) r.Row.toNat ω;refine bv (S:=Ext No _) (oQ [1,3,5,7,9,11,13,15,17,19,21,23,25,27,29,31,33,35,36]) κ κ κ Z (fun _=>Ext.refl.drawn _) (fun q9=>?_);have H63:=eH10.drawn q9;refine dR 2 Z (dV Z Z (fun zw hx=>ab aJ Z df Z Z) (dV Z Z (fun zw hx=>ac bT Z Z (ak (hx.heap (H63.box 0 Z)) Z)) (dM Z Z Z (dV Z Z (fun zw hx=>aF bT fB Z Z ee12 g.toNat ω ω) (dV Z Z (fun zw hx=>ac cm Z Z (bw (hx.at (H63.holAt 18 Z)) 0 Z)) (dM Z Z Z (dV Z Z (fun zw hx=>aF cm dW Z Z ee13 i ω ω) (dV Z Z (fun zw hx=>ab d8 Z gb Z Z) (dV Z Z (fun zw hx=>ac dg Z Z (bw (hx.at (H63.holAt 21 Z)) 1 Z)) (dV Z Z (fun zw hx=>ab az Z ts2 Z Z) (dV Z Z (fun zw hx=>ac tu2 Z Z (ak (hx.heap (H63.box 1 Z)) Z)) (dV Z Z (fun zw hx=>ab az Z ts2 Z Z) (dV Z Z (fun zw hx=>ac tu2 Z Z (ak (hx.heap (H63.box 1 Z)) Z)) (dM Z Z Z (dV Z Z (fun zw hx=>aT eH Z Z) (dV Z Z (fun zw hx=>aF dg dX Z Z ee14 r.Row.toNat ω ω) ?_))))))))))))))));have H65:=H63.packB 15 r.Seq Z hxk
       try dsimp only[lNA,lCA,lSZ,lSS] at H65
       refine hP Z ae dX H65 23 15 Z Z Z r.Row.toNat ω Z ee14 Z (fun w18 fp37 H64=>?_)
       try dsimp only[lNA,lCA,lSZ,lSS] at H64
       refine aS (aw (sM Z Z (sV Z (aN Z Z iO) (sA Z Z (aa ?_)))));obtain ⟨fp38,H66⟩:=Drive.fill H64 21 23 Z Z Z eK6
       try dsimp only[lNA,lCA,lSZ,lSS] at H66
       obtain ⟨fp39,H67⟩:=H66.fill 18 21 Z Z Z
       try dsimp only[lNA,lCA,lSZ,lSS] at H67
       obtain ⟨fp40,H68⟩:=H67.closeW 0 18 19 20 (fE g.toNat i r.Row.toNat ⟨r.Seq,((cG z r).getD i [])⟩ z1) Z Z Z Z Z Z Z Z Z Z (eT wok5)
       try dsimp only[lNA,lCA,lSZ,lSS] at H68
       have hnb:dl zi g i r ((cG z r).getD i [])=((cG z r).getD i []):=by
        rw [dl,hsh,if_pos (bD.2 ω)]
       have hsk:dv zi g.toNat i r=false:=by first | exact li η η | exact li (by simpa using η) η
       obtain ⟨hf1,hf2,hf3⟩:=ej (b:=⟨r.Seq,dl zi g i r ((cG z r).getD i [])⟩) (row:=r.Row.toNat) hq1 hq2;have hf4:=(dD (g:=g.toNat) (i:=i) (row:=r.Row.toNat) (b:=⟨r.Seq,dl zi g i r ((cG z r).getD i [])⟩) (z:=zi)).2;have hz:=(H68.sub (.cons_cons _ (.cons_cons _ (.cons_cons _ (.cons_cons _ (.cons _ (.cons _ (.cons _ (.cons _ (.cons _ (.cons _ (.cons _ (.cons _ (.cons _ (.cons _ (.cons _ (.cons _ (.cons_cons _ (.cons _ (.cons _ (.cons _ (.cons _ (.cons _ (.cons _ (.cons _ List.Sublist.slnil)))))))))))))))))))))))));rw [hz1,qw,← jQ hp1,← hnb] at hz;exact ⟨(i+1,fP g.toNat i r.Row.toNat ⟨r.Seq,dl zi g i r ((cG z r).getD i [])⟩ zi,_,_),⟨Z,Z,Z,Z,Z,Z,trivial⟩,⟨hz,by (try dsimp only); omega,by (try dsimp only); rw [hdl,mj ω hsk hp1],by (try dsimp only); rw [gS]; exact hsh,by (try dsimp only); omega,by (try dsimp only); omega,fun j hj=>(hf3 j (by (try dsimp only at hj); omega)).trans (hdv j (by (try dsimp only at hj); omega)),by (try dsimp only); omega,by (try dsimp only); rw [qA hp1]; exact hdn2⟩,θ⟩
  ·refine bd (ah (rA hQ results75 Z ?_));have hz:=H41.doneW;rw [hdl,lw ω];exact ⟨Z,hz⟩
end Go.Wk
namespace Go.Wk
open Go.Proofs Rp Go.Proofs.Tryz
set_option maxRecDepth 10000
theorem lS {w:World}{z:Wld}{zA9 zA10 zA11 rA6 rA7 rA8:Option Addr}{zC9 zC10 zC11 rC6 rC7 rC8:Nat}{g:Int}{r:Rec}(zK:z.Ok) (zS9:Sees w [.slice zA9 z.Groups.length zC9] z.Groups) (zS10:Sees w [.slice zA10 z.On.length zC10] z.On) (zS11:Sees w [.slice zA11 z.Tapes.length zC11] z.Tapes) (rK:r.Ok) (rS6:Sees w [.slice rA6 r.Rows.length rC6] r.Rows) (rS7:Sees w [.slice rA7 r.Data.length rC7] r.Data) (rS8:Sees w [.slice rA8 r.Delta.length rC8] r.Delta) (hb:ib z≤1048576):Ret Tryz.prog 20 #[z.val zA9 zC9 zA10 zC10 zA11 zC11,.int .i64 g,r.val rA6 rC6 rA7 rC7 rA8 rC8] w fun v w'=>Ext No w w'∧(∃ A10 C10 A11 C11 A12 C12,v=(be z g r).val A10 C10 A11 C11 A12 C12∧Res w w' [.int .i64 (be z g r).Code,.int .i64 (be z g r).Wd.Shape.Groups,.int .i64 (be z g r).Wd.Shape.Column,.int .i64 (be z g r).Wd.Shape.Data,.int .i64 (be z g r).Wd.Shape.Spare,.int .i64 (be z g r).Wd.Shape.Rows,.int .i64 (be z g r).Wd.Shape.Cap,.int .i64 (be z g r).Wd.Shape.Batch,.int .i64 (be z g r).Wd.Shape.Queue,.int .i64 (be z g r).Wd.Shape.Stage,.slice A10 (be z g r).Wd.Groups.length C10,.slice A11 (be z g r).Wd.On.length C11,.slice A12 (be z g r).Wd.Tapes.length C12,.int .i64 (be z g r).Wd.Writes,.int .i64 (be z g r).Wd.Stop,.bool (be z g r).Wd.Down] (be z g r)):=by
 have zK2:=zK;unfold Wld.Ok Shape.Ok at zK2
 try unfold I64ok at zK2
 try unfold maxLen at zK2
 have zL9:=sL zS9;obtain ⟨zF9,zO9⟩:=zS9;have zL10:=sL zS10;obtain ⟨zF10,zO10⟩:=zS10;have zL11:=sL zS11;obtain ⟨zF11,zO11⟩:=zS11;have rK2:=rK;unfold Rec.Ok at rK2
 try unfold I64ok at rK2
 try unfold maxLen at rK2
 have rN2:r.Name.size≤maxLen:=by unfold maxLen; omega
 have rL6:=sL rS6;obtain ⟨rF6,rO6⟩:=rS6;have rL7:=sL rS7;obtain ⟨rF7,rO7⟩:=rS7;have rL8:=sL rS8;obtain ⟨rF8,rO8⟩:=rS8;refine aV func20 Z ntmps20 Z (fun Q hQ hN=>?_);have H0:=Sep.start (an zO9 (an zO10 (an zO11 (an rO6 (an rO7 (an rO8 aP))))));refine ah (bE ae Z Z H0 (fun b1 w1 e1 g1 H1=>bE ae Z Z H1 (fun b2 w2 e2 g2 H2=>bQ ae Z zeroValue36 H2 (fun b3 w3 e3 g3 H3=>aa (ag (ah (sV Z (aj aJ Z bu Z Z (At.whole (H3.box 0 Z))) (sM Z Z (sE func73 vV Z (m0 η (H3.sees 0 Z) (H3.sees 1 Z) (H3.sees 2 Z)) H3 (fun w4 e4 H4=>sA Z Z (aa (ah (sR 2 Z (aa (aA Z (fun c1=>?_) (fun c1=>?_))))))))))))))))
 ·refine ah (sM Z Z (sV Z (aT ci Z Z) (aO ae dj Z Z Z Z H4 2 Z Z (fun w5 e5 H5=>?_))));dsimp only[lNA,lCA,lSZ,lSS,aC] at H5;refine aa (bl (hQ _ _ (cq results20 Z (au eE Z dj Z (At.whole (H5.box 2 Z))) ?_)));rw [jO ω];exact ⟨H5.ext,none,0,none,0,none,0,Z,fI (by unfold I64ok; have:=qO (z:=z) (g:=g) (row:=0); (try dsimp only); omega)⟩
 ·refine ar (ag (ag ?_));have hwr:dt z g 0=0:=by omega
  obtain ⟨hs0,hG,hg,_,hon⟩:=jJ hwr;have hs:=hs0;have hgi:=bD.1 hg;have hu:=jR hwr;obtain ⟨hwf,hdn⟩:=jy hu;have hfa:=sm hwf;obtain ⟨hw0,hw1,_,_⟩:=iI hwf;refine aw (sF aJ Z ba (sV Z (aj aX Z ba Z Z (At.sub (H4.box 0 Z) 9)) (sV Z (aj az Z aW Z Z (At.whole (H4.box 1 Z))) (sE func74 jI Z (ei η (H4.sees 3 Z) (H4.sees 4 Z) (H4.sees 5 Z)) H4 (fun w6 e6 H6=>sR 2 Z (bO 3 (j:=5) (want:=false) (t:=25) Z Z Z Z (fun hg1 kk1=>ao (wgE Z Z Z hg1) Z Z (ab az Z ts2 Z Z) (ao (wgE Z Z Z hg1) Z Z (ac tu2 Z Z (ak (H6.box 1 Z) Z)) (ao (wgE Z Z Z hg1) Z Z (cx Z Z) (kk1 _ _ (kx Z (kx Z (kx Z k0))) Z Ext.refl)))) (fun w7 e7=>?_)))))));have H7:=H6.to e7;refine sV Z (du Z Z) (sM Z Z (bO 11 (j:=10) (want:=false) (t:=38) Z Z Z Z (fun hg2 kk2=>ao (wgE Z Z Z hg2) Z Z (aM Z) (ao (wgE Z Z Z hg2) Z Z (ab aJ Z ba Z Z) (ao (wgE Z Z Z hg2) Z Z (ab aX Z ts2 Z Z) (ao (wgE Z Z Z hg2) Z Z (ac tu2 Z Z (ak (H7.box 0 Z) Z)) (ao (wgE Z Z Z hg2) Z Z (bq Z Z) (ao (wgE Z Z Z hg2) Z Z (aM Z) (bO 4 (j:=16) (want:=true) (t:=37) Z Z Z Z (fun hg3 kk3=>ao (wgE Z Z Z hg3) Z Z (aM Z) (ao (wgE Z Z Z hg3) Z Z (ab az Z ts2 Z Z) (ao (wgE Z Z Z hg3) Z Z (ac tu2 Z Z (ak (H7.box 1 Z) Z)) (ao (wgE Z Z Z hg3) Z Z (cx Z Z) (kk3 _ _ (kx Z (kx Z (kx Z (kx Z k0)))) Z Ext.refl))))) (fun w9 e9=>ao (wgE Z Z Z hg2) Z Z (bI Z Z) (kk2 _ _ (kx Z (kx Z (kx Z (kx Z (kx Z (kx Z (kx Z (kx Z k0)))))))) Z (Ext.refl.trans e9)))))))))) (fun w8 e8=>?_)));have H9:=H7.to e8;refine sV Z (du Z Z) (aa (cI Z (fun c2=>?_) (fun c2=>?_)))
  ·refine ah (sV Z (aT ci Z Z) (aO ae dj Z Z Z Z H9 2 Z Z (fun w10 e10 H10=>?_)));dsimp only[lNA,lCA,lSZ,lSS,aC] at H10;refine aa (bl (hQ _ _ (cq results20 Z (au eE Z dj Z (At.whole (H10.box 2 Z))) ?_)));rw [mQ hwr (by rw [mq hfa ω]; exact c2)];exact ⟨H10.ext,none,0,none,0,none,0,Z,fI (by unfold I64ok; (try dsimp only); omega)⟩
  ·refine ar (ag ?_);have hbad:dx z g r=false:=by rw [mq hfa ω]; exact c2
   obtain ⟨hm,hk⟩:=iP hbad;refine aw (sV Z (aj aJ Z bu Z Z (At.whole (H9.box 0 Z))) (sC func41 vZ Z (ng η (H9.sees 0 Z) (H9.sees 1 Z) (H9.sees 2 Z) ξ) (fun v3 w11 r3=>?_)));obtain ⟨e11,sa1,sk1,sa2,sk2,sa3,sk3,rfl,r3⟩:=r3;obtain ⟨fp1,H11⟩:=H9.res e11 r3;obtain ⟨sf1,sf2,sf3,sq1,sok1,so1,so2,so3⟩:=jB (H11.mine 3 Z);have H12:=H11.part 3 Z [mine [.slice _ z.Groups.length _] z.Groups sf1,mine [.slice _ z.On.length _] z.On sf2,mine [.slice _ z.Tapes.length _] z.Tapes sf3] (aq so1 (aq so2 (aq so3 σ))) (by simp [blocks,mine,sq1])
   try dsimp only[lNA,lCA,lSZ,lSS] at H12
   refine bQ ae Z zeroValue34 H12 (fun b4 w12 e12 g4 H13=>aO ae bu Z Z Z Z H13 7 Z Z (fun w13 e13 H14=>?_));dsimp only[lNA,lCA,lSZ,lSS,aC] at H14;refine aa (ah (sM Z Z (sV Z (aj az Z aW Z Z (At.whole (H14.box 1 Z))) ?_)));obtain ⟨fp2,H15⟩:=H14.closeW 7 4 5 6 z Z Z Z Z Z Z Z Z Z Z zK
   try dsimp only[lNA,lCA,lSZ,lSS] at H15
   refine sC func75 vI Z (nJ (H15.wldAt 7 Z) (H15.nodup1 (i:=7) Z) η (am (H15.seen 3 Z)) (fun b hb=>H15.off 3 Z 7 Z hb) (am (H15.seen 4 Z)) (fun b hb=>H15.off 4 Z 7 Z hb) (am (H15.seen 5 Z)) (fun b hb=>H15.off 5 Z 7 Z hb) ξ ξ ξ ξ ξ ξ ξ) (fun v4 w14 r4=>?_);obtain ⟨rfl,mm1⟩:=r4;obtain ⟨fp3,H16⟩:=H15.mutW 7 Z mm1
   try dsimp only[lNA,lCA,lSZ,lSS] at H16
   refine sA Z Z (aa (ag ?_));obtain ⟨wA1,wC1,wA2,wC2,wA3,wC3,wf1,wf2,wf3,wok1,H17⟩:=H16.openW 7 Z
   try dsimp only[lNA,lCA,lSZ,lSS] at H17
   have wok1U:=wok1;unfold Wld.Ok Shape.Ok I64ok at wok1U;have wL1:=oL (H17.mine 9 Z);have wL2:=oL (H17.mine 10 Z);have wL3:=oL (H17.mine 11 Z);refine aw (sV Z (aj aJ Z bu Z Z (At.whole (H17.box 7 Z))) (sM Z Z (sE func76 vA Z (nE η (H17.msees 9 Z) (H17.msees 10 Z) (H17.msees 11 Z)) H17 (fun w15 e15 H18=>aO ae dj Z Z Z Z H18 2 Z Z (fun w16 e16 H19=>?_)))));dsimp only[lNA,lCA,lSZ,lSS,aC] at H19;refine aa (bl (hQ _ _ (cq results20 Z (au eE Z dj Z (At.whole (H19.box 2 Z))) ?_)));rw [iW hwr hbad];exact ⟨H19.ext,_,_,_,_,_,_,Z,WldResult.out (x:=⟨if (dr z g r).1=true then 0 else 9,(dr z g r).2⟩) (H19.sub (.cons _ (.cons _ (.cons _ (.cons _ (.cons _ (.cons _ (.cons _ (.cons _ (.cons _ (.cons_cons _ (.cons_cons _ (.cons_cons _ List.Sublist.slnil))))))))))))) ⟨(by show I64ok (if (dr z g r).1=true then 0 else 9); unfold I64ok; split<;>omega),η⟩⟩
end Go.Wk
namespace Go.Wk
section
variable {z:Wld}{g i row:Nat}{b:Block}{s:Shape}
theorem rt {α:Type}{xs:List α}{p:α→Bool}{d:α}(h:∀ k,k<xs.length→p (xs.getD k d)=true):((List.range xs.length).all fun k=>p (xs.getD k d))=true:=by
  rw [List.all_eq_true]
  intro k hk
  exact h k (by simpa using hk)
theorem rQ {x:Drive}(h:dh s x=true) (hb:dk b=true):dh s ⟨x.Wiped,x.Blocks.set row b⟩=true:=by
  simp only [dh,Bool.and_eq_true,decide_eq_true_eq] at h
  have h2:=gX h.2
  unfold dh
  dsimp only
  rw [decide_eq_true (by rw [List.length_set]; exact h.1),Bool.true_and]
  refine rt (p:=dk) fun k hk=>?_
  rw [List.length_set] at hk
  rw [eV]
  split
  · exact hb
  · exact h2 k hk
theorem sa {xs:List Drive}{x:Drive}(h:et s xs=true) (hx:dh s x=true):et s (xs.set i x)=true:=by
  simp only [et,Bool.and_eq_true,decide_eq_true_eq] at h
  have h2:=gX h.2
  unfold et
  rw [decide_eq_true (by rw [List.length_set]; exact h.1),Bool.true_and]
  refine rt (p:=dh s) fun k hk=>?_
  rw [List.length_set] at hk
  rw [eV]
  split
  · exact hx
  · exact h2 k hk
theorem sN (h:bG z=true) (hb:dk b=true) (hg:g<z.Groups.length) (hi:i<(z.Groups.getD g []).length):bG (fE g i row b z)=true:=by
  have h0:=h
  simp only [bG,Bool.and_eq_true,decide_eq_true_eq] at h
  have h2:=gX h.2
  have h3:=h2 g hg
  have h4:dh z.Shape (bF z g i)=true:=by
    have h5:=h3
    simp only [et,Bool.and_eq_true,decide_eq_true_eq] at h5
    exact gX h5.2 i hi
  have h6:=sa (i:=i) h3 (rQ (row:=row) h4 hb)
  unfold bG fE
  dsimp only
  rw [decide_eq_true (by rw [List.length_set]; exact h.1),Bool.true_and]
  refine rt (p:=et z.Shape) fun k hk=>?_
  rw [List.length_set] at hk
  rw [eV]
  split
  · exact h6
  · exact h2 k hk
theorem sJ (h:bG z=true) (hb:dk b=true) (hg:g<z.Groups.length) (hi:i<(z.Groups.getD g []).length):bG (fP g i row b z)=true:=by
  unfold fP qg; split
  · exact h
  · exact sN h hb hg hi
end
end Go.Wk
namespace Go.Wk
section
variable {z:Wld}{g:Int}{r:Rec}{rows:List (List UInt8)}
theorem wt {i:Nat}{row:List UInt8}(h:row.length=4) (hb:(dQ z g.toNat i r.Row.toNat).Bytes.length=4):(dl z g i r row).length=4:=by
  unfold dl; split
  · exact h
  · rw [eW ω]; exact h
theorem pU {gn i row:Nat}{b:Block}:(fP gn i row b z).Tapes=z.Tapes:=by unfold fP qg; split<;>rfl
theorem kQ (hq:1≤r.Seq∧r.Seq≤1000000000) (hr0:0≤r.Row∧r.Row<z.Shape.Rows):∀ {n i:Nat}{z':Wld},z'.Shape=z.Shape→(∀ k,k<i+n→(rows.getD k []).length=4)→bG z'=true→g.toNat<z'.Groups.length→i+n≤(z'.Groups.getD g.toNat []).length →
    (redoI rows g r n i z').2.Shape=z.Shape∧bG (redoI rows g r n i z').2=true∧(redoI rows g r n i z').2.Tapes=z'.Tapes∧(redoI rows g r n i z').2.Writes≤z'.Writes+n
  | 0,_,z',hs,_,hG,_,_=>⟨hs,hG,rfl,by show z'.Writes≤z'.Writes+((0:Nat):Int); omega⟩
  | n+1,i,z',hs,hR,hG,hg,hi=>by
    obtain ⟨h1,h2⟩:=fg hG
    obtain ⟨h3,h4⟩:=h2 g.toNat hg
    obtain ⟨h5,h6⟩:=h4 i ω
    have hrow:r.Row.toNat<((z'.Groups.getD g.toNat []).getD i default).Blocks.length:=by rw [hs] at h5; omega
    have h7:=kP (h6 r.Row.toNat hrow)
    have hb:dk ⟨r.Seq,dl z' g i r (rows.getD i [])⟩=true:=by
      unfold dk
      dsimp only
      rw [bD.2 ω,decide_eq_true (wt (hR i ω) h7.2.2)]; rfl
    have hG2:=sJ (g:=g.toNat) (i:=i) (row:=r.Row.toNat) hG hb hg ω
    obtain ⟨f1,f2,_⟩:=ej (b:=⟨r.Seq,dl z' g i r (rows.getD i [])⟩) (row:=r.Row.toNat) hg (show i<(z'.Groups.getD g.toNat []).length by omega)
    have f4:=(dD (g:=g.toNat) (i:=i) (row:=r.Row.toNat) (b:=⟨r.Seq,dl z' g i r (rows.getD i [])⟩) (z:=z')).2
    have f5:(fP g.toNat i r.Row.toNat ⟨r.Seq,dl z' g i r (rows.getD i [])⟩ z').Shape=z.Shape:=by rw [gS]; exact hs
    rw [redoI]
    split
    · obtain ⟨a,b,c,d⟩:=kQ hq hr0 (n:=n) (i:=i+1) hs (fun k hk=>hR k ω) hG hg ω
      exact ⟨a,b,c,ω⟩
    · split
      · exact ⟨f5,hG2,pU,θ⟩
      · obtain ⟨a,b,c,d⟩:=kQ hq hr0 (n:=n) (i:=i+1) f5 (fun k hk=>hR k ω) hG2 ω ω
        exact ⟨a,b,by rw [c,pU],ω⟩
end
section
variable {z:Wld}{g:Int}{r:Rec}
theorem tr (hs:z.Shape.ok=true) (hG:bG z=true) (hg:ins g 0 (z.Shape.Groups+z.Shape.Column-1)=true) (hm:fK z.Shape r=0) (hk:r.Kind=2):∀ k,k<dH z→((fh z g r).getD k []).length=4:=fun k hk2=>by
  have sbd:=aZ hs
  have hd:dH z=z.Shape.Data.toNat+z.Shape.Spare.toNat:=rfl
  obtain ⟨_,_,_,h4,h5,_⟩:=fG hs hG hg hm hk
  unfold fh; split
  · unfold cG; exact iF h4 k ω
  · unfold addedL; exact iF (by rw [ep]; omega) k ω
theorem oe (hs:z.Shape.ok=true) (hG:bG z=true) (hg:ins g 0 (z.Shape.Groups+z.Shape.Column-1)=true) (hm:fK z.Shape r=0) (hk:r.Kind=2) :
    (dr z g r).2.Shape=z.Shape∧bG (dr z g r).2=true∧(dr z g r).2.Tapes=z.Tapes∧(dr z g r).2.Writes≤z.Writes+5:=by
  have sbd:=aZ hs
  have hd:dH z=z.Shape.Data.toNat+z.Shape.Spare.toNat:=rfl
  obtain ⟨h1,h2,h3,h4,h5,h6⟩:=fG hs hG hg hm hk
  have hrow:r.Row<z.Shape.Rows:=by
    have h7:=(h3 0 ω).1
    obtain ⟨_,h8⟩:=fg hG
    obtain ⟨h9,h10⟩:=h8 g.toNat h1
    have h11:=(h10 0 ω).1
    unfold bF at h7; omega
  obtain ⟨a,b,c,d⟩:=kQ (z:=z) (rows:=fh z g r) (g:=g) ⟨h6.1,h6.2.1⟩ ⟨h6.2.2.1,hrow⟩ (n:=dH z) (i:=0) (z':=z) rfl (fun k hk2=>tr hs hG hg hm hk k ω) hG h1 ω
  unfold dr
  exact ⟨a,b,c,ω⟩
end
end Go.Wk
namespace Go.Wk
open Rp (sz own)
def AllR (P:Rec→Prop) (z:Wld):Prop:=∀ t∈z.Tapes,∀ r∈t.Recs,P r
section
variable {z:Wld}{r:Rec}{P:Rec→Prop}{t:Nat}
def SeqOK (z:Wld):Prop:=AllR (fun r=>0≤r.Seq∧r.Seq≤1000000000) z
end
end Go.Wk
namespace Go.Wk
open Rp (sz own)
section
variable {P:Program}{n:Nat}{ops:Array Oper}{Q:Post}{L:Env}{w w0:World}{M:Nat→Prop}{Δ F:List Rsc}{rest:List Oper}{d:Nat}{ty:TypeId}{p:String}{af:Array Edge}{g:Option (Nat × Bool)}{α:Type}[Rp α]
theorem yQ {t e:TypeId}{x:Operand}{z:Value}{bytes m:Nat}{y:α}(hw:Wn ops n L ⟨some d,.makeSlice t x x,ty,p,af,g⟩) (hn:Nat.blt d n=true) (ht:P.underlying t=some (.slice e)) (hT:Ty P e z (sz α) bytes) (hz:∀ w,own true w z.cells.toList y [])
    (hx:evL L x=some (.int .i64 m)) (h48:bytes*m≤281474976710656) (h63:m≤maxLen) (H:Sep M w0 Δ F w)
    (k:∀ b w',Ext No w w'→w.heap.size≤b→Sep M w0 (Δ++[mine [.slice (some ⟨b,0,none⟩) (List.replicate m y).length m] (List.replicate m y) [b]]) F w'→RL P n ops Q rest ((d,.slice (some ⟨b,0,none⟩) (List.replicate m y).length m)::L) w') :
    RL P n ops Q (⟨some d,.makeSlice t x x,ty,p,af,g⟩::rest) L w:=by
  have e:(List.replicate m y).length=m:=List.length_replicate
  rw [e] at k
  exact mh hw hn ht hT hz hx h48 h63 H k
end
end Go.Wk
namespace Go.Wk
open Rp (sz own)
section
variable {z:Wld}{f g row:Int}
def RecsOK (z:Wld):Prop:=AllR (fun r=>fK z.Shape r=0) z
end
end Go.Wk
namespace Go.Wk
structure GvI (z0 z:Wld):Prop where
  sh:z.Shape=z0.Shape
  gr:z.Groups=z0.Groups
  tp:z.Tapes.length=2
  sq:SeqOK z
  rc:RecsOK z
  dn:z.Down=z0.Down
  r0:(z.Tapes.getD 0 default).Recs.length≤200
  r1:(z.Tapes.getD 1 default).Recs.length≤200
  wr:z.Writes≤z0.Writes+((z.Tapes.getD 0 default).Recs.length:Int)+((z.Tapes.getD 1 default).Recs.length:Int)
  mw:yZ z≤yZ z0+200*(z.Tapes.getD 0 default).Recs.length
  ok:z.Ok
end Go.Wk
namespace Go.Wk
open Rp (sz own)
structure TapeV where
  Wiped:Bool
  Recs:List RecV
instance:Rp TapeV:=Rp.via fun x=>(x.Wiped,x.Recs)
instance:Inhabited TapeV:=⟨⟨false,[]⟩⟩
def TapeV.Ok (x:TapeV):Prop:=True
theorem qG {s w cs} {x:TapeV}{fp} (h:own s w cs x fp):∃ (A1:Option Addr) (C1:Nat) (f1:List Nat) ,cs=[.bool x.Wiped,.slice A1 x.Recs.length C1]∧fp=f1∧x.Ok∧own s w [.slice A1 x.Recs.length C1] x.Recs f1:=by
  obtain ⟨_,_,_,_,rfl,e0,h0,k0⟩:=bS h
  obtain ⟨rfl,rfl⟩:=h0
  obtain ⟨A1,C1,rfl⟩:=ax k0
  exact ⟨A1,C1,_,rfl,by subst_vars; simp,trivial,k0⟩
theorem TapeV.own_mk {s:Bool}{w:World}{x:TapeV}{A1:Option Addr}{C1:Nat}{f1:List Nat}(ok:x.Ok) (o1:own s w [.slice A1 x.Recs.length C1] x.Recs f1):own s w [.bool x.Wiped,.slice A1 x.Recs.length C1] x (f1):=by
  have h:own s w _ (x.Wiped,x.Recs) _:=(cj mv o1)
  refine gP h ?_
  simp
structure WldV where
  Shape:Shape
  Groups:List (List Drive)
  On:List Int
  Tapes:List TapeV
  Writes:Int
  Stop:Int
  Down:Bool
instance:Rp WldV:=Rp.via fun x=>(x.Shape,x.Groups,x.On,x.Tapes,x.Writes,x.Stop,x.Down)
def WldV.val (x:WldV) (A9:Option Addr) (C9:Nat) (A10:Option Addr) (C10:Nat) (A11:Option Addr) (C11:Nat):Value := .agg #[.int .i64 x.Shape.Groups,.int .i64 x.Shape.Column,.int .i64 x.Shape.Data,.int .i64 x.Shape.Spare,.int .i64 x.Shape.Rows,.int .i64 x.Shape.Cap,.int .i64 x.Shape.Batch,.int .i64 x.Shape.Queue,.int .i64 x.Shape.Stage,.slice A9 x.Groups.length C9,.slice A10 x.On.length C10,.slice A11 x.Tapes.length C11,.int .i64 x.Writes,.int .i64 x.Stop,.bool x.Down]
def WldV.Ok (x:WldV):Prop:=x.Shape.Ok∧I64ok x.Writes∧I64ok x.Stop
theorem xh {s w cs} {x:WldV}{fp} (h:own s w cs x fp):∃ (A9:Option Addr) (C9:Nat) (A10:Option Addr) (C10:Nat) (A11:Option Addr) (C11:Nat) (f9:List Nat) (f10:List Nat) (f11:List Nat) ,cs=[.int .i64 x.Shape.Groups,.int .i64 x.Shape.Column,.int .i64 x.Shape.Data,.int .i64 x.Shape.Spare,.int .i64 x.Shape.Rows,.int .i64 x.Shape.Cap,.int .i64 x.Shape.Batch,.int .i64 x.Shape.Queue,.int .i64 x.Shape.Stage,.slice A9 x.Groups.length C9,.slice A10 x.On.length C10,.slice A11 x.Tapes.length C11,.int .i64 x.Writes,.int .i64 x.Stop,.bool x.Down]∧fp=f9++(f10++(f11))∧x.Ok∧own s w [.slice A9 x.Groups.length C9] x.Groups f9∧own s w [.slice A10 x.On.length C10] x.On f10∧own s w [.slice A11 x.Tapes.length C11] x.Tapes f11:=by
  obtain ⟨_,_,_,_,rfl,e0,h0,k0⟩:=bS h
  obtain ⟨rfl,rfl,i0⟩:=qu h0
  obtain ⟨_,_,_,_,rfl,e1,h1,k1⟩:=bS k0
  obtain ⟨A9,C9,rfl⟩:=ax h1
  obtain ⟨_,_,_,_,rfl,e2,h2,k2⟩:=bS k1
  obtain ⟨A10,C10,rfl⟩:=ax h2
  obtain ⟨_,_,_,_,rfl,e3,h3,k3⟩:=bS k2
  obtain ⟨A11,C11,rfl⟩:=ax h3
  obtain ⟨_,_,_,_,rfl,e4,h4,k4⟩:=bS k3
  obtain ⟨rfl,rfl,i4⟩:=dw h4
  obtain ⟨_,_,_,_,rfl,e5,h5,k5⟩:=bS k4
  obtain ⟨rfl,rfl,i5⟩:=dw h5
  obtain ⟨rfl,rfl⟩:=k5
  exact ⟨A9,C9,A10,C10,A11,C11,_,_,_,rfl,by subst_vars; simp,⟨i0,i4,i5⟩,h1,h2,h3⟩
theorem nf {s w A9 C9 A10 C10 A11 C11} {x:WldV}{fp} (h:own s w [.int .i64 x.Shape.Groups,.int .i64 x.Shape.Column,.int .i64 x.Shape.Data,.int .i64 x.Shape.Spare,.int .i64 x.Shape.Rows,.int .i64 x.Shape.Cap,.int .i64 x.Shape.Batch,.int .i64 x.Shape.Queue,.int .i64 x.Shape.Stage,.slice A9 x.Groups.length C9,.slice A10 x.On.length C10,.slice A11 x.Tapes.length C11,.int .i64 x.Writes,.int .i64 x.Stop,.bool x.Down] x fp):∃ (f9:List Nat) (f10:List Nat) (f11:List Nat),fp=f9++(f10++(f11))∧x.Ok∧own s w [.slice A9 x.Groups.length C9] x.Groups f9∧own s w [.slice A10 x.On.length C10] x.On f10∧own s w [.slice A11 x.Tapes.length C11] x.Tapes f11:=by
  obtain ⟨_,_,_,_,_,_,f9,f10,f11,e,ef,ok,o9,o10,o11⟩:=xh h
  simp only [List.cons.injEq,Value.slice.injEq,and_true,true_and] at e
  obtain ⟨⟨rfl,rfl⟩,⟨rfl,rfl⟩,⟨rfl,rfl⟩⟩:=e
  exact ⟨f9,f10,f11,ef,ok,o9,o10,o11⟩
theorem WldV.own_mk {s:Bool}{w:World}{x:WldV}{A9:Option Addr}{C9:Nat}{A10:Option Addr}{C10:Nat}{A11:Option Addr}{C11:Nat}{f9:List Nat}{f10:List Nat}{f11:List Nat}(ok:x.Ok) (o9:own s w [.slice A9 x.Groups.length C9] x.Groups f9) (o10:own s w [.slice A10 x.On.length C10] x.On f10) (o11:own s w [.slice A11 x.Tapes.length C11] x.Tapes f11):own s w [.int .i64 x.Shape.Groups,.int .i64 x.Shape.Column,.int .i64 x.Shape.Data,.int .i64 x.Shape.Spare,.int .i64 x.Shape.Rows,.int .i64 x.Shape.Cap,.int .i64 x.Shape.Batch,.int .i64 x.Shape.Queue,.int .i64 x.Shape.Stage,.slice A9 x.Groups.length C9,.slice A10 x.On.length C10,.slice A11 x.Tapes.length C11,.int .i64 x.Writes,.int .i64 x.Stop,.bool x.Down] x (f9++(f10++(f11))):=by
  obtain ⟨i0,i4,i5⟩:=ok
  have h:own s w _ (x.Shape,x.Groups,x.On,x.Tapes,x.Writes,x.Stop,x.Down) _:=(cj (Shape.own_mk (x:=x.Shape) i0) (cj o9 (cj o10 (cj o11 (cj (dN i4) (cj (dN i5) mv))))))
  refine gP h ?_
  simp
theorem TapeV.focus {M:Nat→Prop}{w0 w:World}{Δ F:List Rsc}(h:Sep M w0 Δ F w) (i:Nat) {ad n cap} {xs:List TapeV}{fp} (hi:Δ[i]? = some (mine [.slice ad n cap] xs fp)) (k:Nat) (hk:k<xs.length):∃ b o Ty f1 f2 A1 C1 g1,ad=some ⟨b,o,none⟩∧(xs.getD k default).Ok∧Sep M w0 (Δ.set i (hol ad n cap xs k b (o+k*sz TapeV) Ty [.bool (xs.getD k default).Wiped,.slice A1 (xs.getD k default).Recs.length C1] f1 f2)++[gone,mine [.slice A1 (xs.getD k default).Recs.length C1] (xs.getD k default).Recs g1]) F w:=by
  obtain ⟨b,o,Ty,ck,f1,f2,fk,e,hx,H⟩:=h.focus (d:=default) i hi k hk
  obtain ⟨A1,C1,g1,rfl,ef,ok,o1⟩:=qG hx
  have H2:=H.partLast [mine [.slice A1 (xs.getD k default).Recs.length C1] (xs.getD k default).Recs g1] (aq o1 σ) (by simp [blocks,mine,ef])
  exact ⟨b,o,Ty,f1,f2,A1,C1,g1,e,ok,H2⟩
theorem TapeV.fill {M:Nat→Prop}{w0 w:World}{Δ F:List Rsc}(h:Sep M w0 Δ F w) (i j1:Nat) {ad n cap k b off Ty f1 f2} {xs:List TapeV}{s0:Bool}{A1 C1 m1} {y1:List RecV}{g1} (hi:Δ[i]? = some (hol ad n cap xs k b off Ty [.bool s0,.slice A1 m1 C1] f1 f2)) (h1:Δ[j1]? = some (mine [.slice A1 m1 C1] y1 g1)) (d1:Nat.beq j1 i=false)  (ok:(⟨s0,y1⟩:TapeV).Ok):∃ fp',Sep M w0 ((Δ.set j1 gone).set i (mine [.slice ad n cap] (xs.set k (⟨s0,y1⟩:TapeV)) fp')) F w:=by
  have o1:=h.mine j1 h1
  obtain rfl:=gg o1
  have n1:j1≠i:=fun e=>by subst e; simp at d1
  have H:=h.conv j1 (mine [.bool s0,.slice A1 y1.length C1] (⟨s0,y1⟩:TapeV) (g1)) h1 (TapeV.own_mk ok o1) (fun b hb=>hb) (show (mine [.slice A1 y1.length C1] y1 g1).fp.Nodup from h.nodup1 h1)
  obtain ⟨fp',H2⟩:=H.fill i j1 (by rw [List.getElem?_set_ne n1]; exact hi) (by rw [List.getElem?_set_self (List.getElem?_eq_some_iff.1 h1).1]) d1
  rw [List.set_set] at H2
  exact ⟨fp',H2⟩
end Go.Wk
namespace Go.Wk
open Rp (sz own)
def OwnWV (w:World) (b:Nat) (T:TypeId) (z:WldV) (fp:List Nat):Prop:=
  ∃ A9 C9 A10 C10 A11 C11 f9 f10 f11,w.heap[b]? = some (.cells [.int .i64 z.Shape.Groups,.int .i64 z.Shape.Column,.int .i64 z.Shape.Data,.int .i64 z.Shape.Spare,.int .i64 z.Shape.Rows,.int .i64 z.Shape.Cap,.int .i64 z.Shape.Batch,.int .i64 z.Shape.Queue,.int .i64 z.Shape.Stage,.slice A9 z.Groups.length C9,.slice A10 z.On.length C10,.slice A11 z.Tapes.length C11,.int .i64 z.Writes,.int .i64 z.Stop,.bool z.Down].toArray T)∧own true w [.slice A9 z.Groups.length C9] z.Groups f9∧own true w [.slice A10 z.On.length C10] z.On f10∧own true w [.slice A11 z.Tapes.length C11] z.Tapes f11∧z.Ok∧fp=b::(f9++(f10++f11))
theorem OwnWV.st {w w':World}{b T z fp} (h:OwnWV w b T z fp) (k:∀ x∈fp,w'.heap[x]? = w.heap[x]?):OwnWV w' b T z fp:=by
  obtain ⟨A9,C9,A10,C10,A11,C11,f9,f10,f11,h1,h2,h3,h4,h5,h6⟩:=h
  subst h6
  exact ⟨A9,C9,A10,C10,A11,C11,f9,f10,f11,(k b σ).trans h1,Rp.st h2 fun x hx=>k x (by simp [hx]),Rp.st h3 fun x hx=>k x (by simp [hx]),Rp.st h4 fun x hx=>k x (by simp [hx]),h5,rfl⟩
theorem OwnWV.lt {w:World}{b T z fp} (h:OwnWV w b T z fp):∀ x∈fp,x<w.heap.size:=by
  obtain ⟨A9,C9,A10,C10,A11,C11,f9,f10,f11,h1,h2,h3,h4,h5,h6⟩:=h
  subst h6
  intro x hx
  simp only [List.mem_cons,List.mem_append] at hx
  rcases hx with rfl | hx | hx | hx
  · exact (Array.getElem?_eq_some_iff.1 h1).1
  · exact Rp.lt h2 x hx
  · exact Rp.lt h3 x hx
  · exact Rp.lt h4 x hx
def wldVR (b:Nat) (T:TypeId) (z:WldV) (fp:List Nat):Rsc:=⟨fp,fun w=>OwnWV w b T z fp,fun h k=>h.st k,fun h=>h.lt⟩
def MutWV (w w':World) (fp:List Nat) (b:Nat) (T:TypeId) (z:WldV):Prop:=
  Ext (· ∈ fp) w w'∧∃ fp',OwnWV w' b T z fp'∧fp'.Nodup∧∀ x∈fp',x∈fp∨w.heap.size≤x
section
variable {M:Nat→Prop}{w0 w w':World}{Δ F:List Rsc}{b:Nat}{T:TypeId}{z z':WldV}{fp:List Nat}
theorem Sep.openWV (h:Sep M w0 Δ F w) (i:Nat) (hi:Δ[i]? = some (wldVR b T z fp)) :
    ∃ A9 C9 A10 C10 A11 C11 f9 f10 f11,z.Ok∧Sep M w0 (Δ.set i (Wk.box b (.cells [.int .i64 z.Shape.Groups,.int .i64 z.Shape.Column,.int .i64 z.Shape.Data,.int .i64 z.Shape.Spare,.int .i64 z.Shape.Rows,.int .i64 z.Shape.Cap,.int .i64 z.Shape.Batch,.int .i64 z.Shape.Queue,.int .i64 z.Shape.Stage,.slice A9 z.Groups.length C9,.slice A10 z.On.length C10,.slice A11 z.Tapes.length C11,.int .i64 z.Writes,.int .i64 z.Stop,.bool z.Down].toArray T))++[gone,Wk.mine [.slice A9 z.Groups.length C9] z.Groups f9,Wk.mine [.slice A10 z.On.length C10] z.On f10,Wk.mine [.slice A11 z.Tapes.length C11] z.Tapes f11]) F w:=by
  obtain ⟨A9,C9,A10,C10,A11,C11,f9,f10,f11,h1,h2,h3,h4,h5,h6⟩:OwnWV w b T z fp:=h.r i hi
  have hil:i<Δ.length:=(List.getElem?_eq_some_iff.1 hi).1
  have p1:(Wk.box b (.cells [.int .i64 z.Shape.Groups,.int .i64 z.Shape.Column,.int .i64 z.Shape.Data,.int .i64 z.Shape.Spare,.int .i64 z.Shape.Rows,.int .i64 z.Shape.Cap,.int .i64 z.Shape.Batch,.int .i64 z.Shape.Queue,.int .i64 z.Shape.Stage,.slice A9 z.Groups.length C9,.slice A10 z.On.length C10,.slice A11 z.Tapes.length C11,.int .i64 z.Writes,.int .i64 z.Stop,.bool z.Down].toArray T)).φ w:=h1
  have H2:=h.part i hi [Wk.box b (.cells [.int .i64 z.Shape.Groups,.int .i64 z.Shape.Column,.int .i64 z.Shape.Data,.int .i64 z.Shape.Spare,.int .i64 z.Shape.Rows,.int .i64 z.Shape.Cap,.int .i64 z.Shape.Batch,.int .i64 z.Shape.Queue,.int .i64 z.Shape.Stage,.slice A9 z.Groups.length C9,.slice A10 z.On.length C10,.slice A11 z.Tapes.length C11,.int .i64 z.Writes,.int .i64 z.Stop,.bool z.Down].toArray T),Wk.mine [.slice A9 z.Groups.length C9] z.Groups f9,Wk.mine [.slice A10 z.On.length C10] z.On f10,Wk.mine [.slice A11 z.Tapes.length C11] z.Tapes f11] (aq p1 (aq h2 (aq h3 (aq h4 σ)))) (by simp [blocks,Wk.mine,Wk.box,wldVR,h6])
  exact ⟨A9,C9,A10,C10,A11,C11,f9,f10,f11,h5,H2.perm (iJ hil)⟩
theorem Sep.closeWV (h:Sep M w0 Δ F w) (i j9 j10 j11:Nat) (z:WldV) {A9 C9 A10 C10 A11 C11 f9 f10 f11 n9 n10 n11} (hi:Δ[i]? = some (Wk.box b (.cells [.int .i64 z.Shape.Groups,.int .i64 z.Shape.Column,.int .i64 z.Shape.Data,.int .i64 z.Shape.Spare,.int .i64 z.Shape.Rows,.int .i64 z.Shape.Cap,.int .i64 z.Shape.Batch,.int .i64 z.Shape.Queue,.int .i64 z.Shape.Stage,.slice A9 n9 C9,.slice A10 n10 C10,.slice A11 n11 C11,.int .i64 z.Writes,.int .i64 z.Stop,.bool z.Down].toArray T))) (h9:Δ[j9]? = some (Wk.mine [.slice A9 n9 C9] z.Groups f9)) (h10:Δ[j10]? = some (Wk.mine [.slice A10 n10 C10] z.On f10)) (h11:Δ[j11]? = some (Wk.mine [.slice A11 n11 C11] z.Tapes f11))
    (d1:Nat.beq j9 i=false) (d2:Nat.beq j10 i=false) (d3:Nat.beq j11 i=false) (d4:Nat.beq j10 j9=false) (d5:Nat.beq j11 j9=false) (d6:Nat.beq j11 j10=false) (ok:z.Ok) :
    ∃ fp,Sep M w0 ((((Δ.set j11 gone).set j10 gone).set j9 gone).set i (wldVR b T z fp)) F w:=by
  obtain rfl:=gg (h.mine j9 h9)
  obtain rfl:=gg (h.mine j10 h10)
  obtain rfl:=gg (h.mine j11 h11)
  have n1:j9≠i:=fun e=>by subst e; simp at d1
  have n2:j10≠i:=fun e=>by subst e; simp at d2
  have n3:j11≠i:=fun e=>by subst e; simp at d3
  have n4:j10≠j9:=fun e=>by subst e; simp at d4
  have n5:j11≠j9:=fun e=>by subst e; simp at d5
  have n6:j11≠j10:=fun e=>by subst e; simp at d6
  have g:∀ {L:List Rsc}{k:Nat}{a r:Rsc},L[k]? = some r→(L.set k a)[k]? = some a:=fun h=>List.getElem?_set_self (List.getElem?_eq_some_iff.1 h).1
  have H1:=h.join2 j10 j11 h10 h11 d6
  have a10:((Δ.set j11 gone).set j10 (cat (Wk.mine [.slice A10 z.On.length C10] z.On f10) (Wk.mine [.slice A11 z.Tapes.length C11] z.Tapes f11)))[j10]? = some (cat (Wk.mine [.slice A10 z.On.length C10] z.On f10) (Wk.mine [.slice A11 z.Tapes.length C11] z.Tapes f11)):=g (r:=Wk.mine [.slice A10 z.On.length C10] z.On f10) (by rw [List.getElem?_set_ne n6]; exact h10)
  have a9:((Δ.set j11 gone).set j10 (cat (Wk.mine [.slice A10 z.On.length C10] z.On f10) (Wk.mine [.slice A11 z.Tapes.length C11] z.Tapes f11)))[j9]? = some (Wk.mine [.slice A9 z.Groups.length C9] z.Groups f9):=by rw [List.getElem?_set_ne n4,List.getElem?_set_ne n5]; exact h9
  have H2:=H1.join2 j9 j10 a9 a10 d4
  rw [List.set_set] at H2
  have ai:((((Δ.set j11 gone).set j10 gone).set j9 (cat (Wk.mine [.slice A9 z.Groups.length C9] z.Groups f9) (cat (Wk.mine [.slice A10 z.On.length C10] z.On f10) (Wk.mine [.slice A11 z.Tapes.length C11] z.Tapes f11)))))[i]? = some (Wk.box b (.cells [.int .i64 z.Shape.Groups,.int .i64 z.Shape.Column,.int .i64 z.Shape.Data,.int .i64 z.Shape.Spare,.int .i64 z.Shape.Rows,.int .i64 z.Shape.Cap,.int .i64 z.Shape.Batch,.int .i64 z.Shape.Queue,.int .i64 z.Shape.Stage,.slice A9 z.Groups.length C9,.slice A10 z.On.length C10,.slice A11 z.Tapes.length C11,.int .i64 z.Writes,.int .i64 z.Stop,.bool z.Down].toArray T)):=by rw [List.getElem?_set_ne n1,List.getElem?_set_ne n2,List.getElem?_set_ne n3]; exact hi
  have b9:((((Δ.set j11 gone).set j10 gone).set j9 (cat (Wk.mine [.slice A9 z.Groups.length C9] z.Groups f9) (cat (Wk.mine [.slice A10 z.On.length C10] z.On f10) (Wk.mine [.slice A11 z.Tapes.length C11] z.Tapes f11)))))[j9]? = some (cat (Wk.mine [.slice A9 z.Groups.length C9] z.Groups f9) (cat (Wk.mine [.slice A10 z.On.length C10] z.On f10) (Wk.mine [.slice A11 z.Tapes.length C11] z.Tapes f11))):=g (r:=Wk.mine [.slice A9 z.Groups.length C9] z.Groups f9) (by rw [List.getElem?_set_ne n4,List.getElem?_set_ne n5]; exact h9)
  have H3:=H2.join2 i j9 ai b9 d1
  rw [List.set_set] at H3
  obtain ⟨q1,q2,q3,q4⟩:(cat (Wk.box b (.cells [.int .i64 z.Shape.Groups,.int .i64 z.Shape.Column,.int .i64 z.Shape.Data,.int .i64 z.Shape.Spare,.int .i64 z.Shape.Rows,.int .i64 z.Shape.Cap,.int .i64 z.Shape.Batch,.int .i64 z.Shape.Queue,.int .i64 z.Shape.Stage,.slice A9 z.Groups.length C9,.slice A10 z.On.length C10,.slice A11 z.Tapes.length C11,.int .i64 z.Writes,.int .i64 z.Stop,.bool z.Down].toArray T)) (cat (Wk.mine [.slice A9 z.Groups.length C9] z.Groups f9) (cat (Wk.mine [.slice A10 z.On.length C10] z.On f10) (Wk.mine [.slice A11 z.Tapes.length C11] z.Tapes f11)))).φ w:=H3.r i (g (r:=Wk.box b (.cells [.int .i64 z.Shape.Groups,.int .i64 z.Shape.Column,.int .i64 z.Shape.Data,.int .i64 z.Shape.Spare,.int .i64 z.Shape.Rows,.int .i64 z.Shape.Cap,.int .i64 z.Shape.Batch,.int .i64 z.Shape.Queue,.int .i64 z.Shape.Stage,.slice A9 z.Groups.length C9,.slice A10 z.On.length C10,.slice A11 z.Tapes.length C11,.int .i64 z.Writes,.int .i64 z.Stop,.bool z.Down].toArray T)) (by rw [List.getElem?_set_ne n1,List.getElem?_set_ne n2,List.getElem?_set_ne n3]; exact hi))
  have hg:=g (a:=cat (Wk.box b (.cells [.int .i64 z.Shape.Groups,.int .i64 z.Shape.Column,.int .i64 z.Shape.Data,.int .i64 z.Shape.Spare,.int .i64 z.Shape.Rows,.int .i64 z.Shape.Cap,.int .i64 z.Shape.Batch,.int .i64 z.Shape.Queue,.int .i64 z.Shape.Stage,.slice A9 z.Groups.length C9,.slice A10 z.On.length C10,.slice A11 z.Tapes.length C11,.int .i64 z.Writes,.int .i64 z.Stop,.bool z.Down].toArray T)) (cat (Wk.mine [.slice A9 z.Groups.length C9] z.Groups f9) (cat (Wk.mine [.slice A10 z.On.length C10] z.On f10) (Wk.mine [.slice A11 z.Tapes.length C11] z.Tapes f11)))) (r:=Wk.box b (.cells [.int .i64 z.Shape.Groups,.int .i64 z.Shape.Column,.int .i64 z.Shape.Data,.int .i64 z.Shape.Spare,.int .i64 z.Shape.Rows,.int .i64 z.Shape.Cap,.int .i64 z.Shape.Batch,.int .i64 z.Shape.Queue,.int .i64 z.Shape.Stage,.slice A9 z.Groups.length C9,.slice A10 z.On.length C10,.slice A11 z.Tapes.length C11,.int .i64 z.Writes,.int .i64 z.Stop,.bool z.Down].toArray T)) (L:=((Δ.set j11 gone).set j10 gone).set j9 gone) (k:=i) (by rw [List.getElem?_set_ne n1,List.getElem?_set_ne n2,List.getElem?_set_ne n3]; exact hi)
  have hn:=H3.nodup1 hg
  have H4:=H3.conv i (wldVR b T z (b::(f9++(f10++f11)))) hg ⟨A9,C9,A10,C10,A11,C11,f9,f10,f11,q1,q2,q3,q4,ok,rfl⟩ (fun x hx=>hx) hn
  rw [List.set_set] at H4
  exact ⟨_,H4⟩
end
end Go.Wk
namespace Go.Wk
open Rp (sz own)
def TapeV.t (x:TapeV):Tape:=⟨x.Wiped,x.Recs.map RecV.r⟩
def WldV.w (z:WldV):Wld:=⟨z.Shape,z.Groups,z.On,z.Tapes.map TapeV.t,z.Writes,z.Stop,z.Down⟩
def bC (ts:List TapeV):List RecV:=(ts.map TapeV.Recs).flatten
theorem n0 {w:World}:∀ {a b:List RecV}{f g:List Nat},kE w a f→kE w b g→kE w (a++b) (f++g)
  | [],b,f,g,h,k=>by rw [show f=[] from h]; exact k
  | v::a,b,f,g,⟨f1,f2,e,h1,h2⟩,k=>⟨f1,f2++g,by rw [e,List.append_assoc],h1,n0 h2 k⟩
theorem zx {a b c d g:List Nat}(h:g.Perm (b++d)):(a++c++g).Perm ((a++b)++(c++d)):=by
  rw [List.perm_iff_count] at h ⊢
  intro x
  have:=h x
  simp only [List.count_append] at this ⊢
  omega
theorem qR {w:World}:∀ {ts:List Tape}{cs fp},bX true w cs ts fp→∃ (vs:List TapeV) (f0 f1:List Nat),vs.map TapeV.t=ts∧fp.Perm (f0++f1)∧bX true w cs vs f0∧kE w (bC vs) f1
  | [],cs,fp,h=>⟨[],[],[],rfl,by rw [show fp=[] from h]; exact .refl _,rfl,rfl⟩
  | x::xs,cs,fp,⟨g1,g2,e,h1,h2⟩=>by
    obtain ⟨A,C,g,e1,eg,ok,o⟩:=eq h1
    obtain ⟨us,a0,a1,e2,e3,o1,p1⟩:=yN o
    obtain ⟨vs,b0,b1,e4,e5,o2,p2⟩:=qR h2
    have el:us.length=x.Recs.length:=by rw [← e2,List.length_map]
    refine ⟨⟨x.Wiped,us⟩::vs,a0++b0,a1++b1,by simp [TapeV.t,e2,e4],?_,⟨a0,b0,rfl,?_,o2⟩,?_⟩
    · rw [e,eg,e3]; exact zx e5
    · show own true w (cs.take (sz Tape)) _ _
      rw [e1]
      have h:=TapeV.own_mk (s:=true) (x:=⟨x.Wiped,us⟩) (A1:=A) (C1:=C) trivial (by rw [el]; exact o1)
      dsimp only at h
      rw [el] at h; exact h
    · exact n0 p1 p2
theorem xg {w:World}{ad n cap} {ts:List Tape}{fp} (h:own true w [.slice ad n cap] ts fp):∃ (vs:List TapeV) (f0 f1:List Nat),vs.map TapeV.t=ts∧fp.Perm (f0++f1)∧own true w [.slice ad n cap] vs f0∧kE w (bC vs) f1:=by
  rcases h with ⟨hf,_⟩ | ⟨e,rfl,rfl⟩ | ⟨b,o,cap',cur,T,fr,fs,h1,h2,h3,h4,h5,h6,h7,h8⟩
  · cases hf
  · exact ⟨[],[],[],rfl,.refl _,.inr (.inl ⟨e,rfl,rfl⟩),rfl⟩
  · obtain ⟨vs,f0,f1,e1,e2,h9,h10⟩:=qR h8
    have el:vs.length=ts.length:=by rw [← e1,List.length_map]
    exact ⟨vs,b::f0,f1,e1,by rw [h2]; exact e2.cons b,.inr (.inr ⟨b,o,cap',cur,T,fr,f0,by rw [el]; exact h1,rfl,h3,h4,by rw [el]; exact h5,h6,h7,h9⟩),h10⟩
theorem zF {b:Nat}{f9 f10 f11 g0 g1:List Nat}(h:f11.Perm (g0++g1)):(b::(f9++(f10++f11))).Perm ((b::(f9++(f10++g0)))++g1):=by
  rw [List.perm_iff_count] at h ⊢
  intro x
  have:=h x
  simp only [List.count_append,List.count_cons] at this ⊢
  omega
theorem OwnW.toV {w:World}{b:Nat}{T:TypeId}{z:Wld}{fp:List Nat}(h:OwnW w b T z fp):∃ (zv:WldV) (fv fq:List Nat),zv.w=z∧OwnWV w b T zv fv∧kE w (bC zv.Tapes) fq∧fp.Perm (fv++fq):=by
  obtain ⟨A9,C9,A10,C10,A11,C11,f9,f10,f11,h1,h2,h3,h4,h5,h6⟩:=h
  obtain ⟨vs,g0,g1,e1,e2,o1,p1⟩:=xg h4
  have el:vs.length=z.Tapes.length:=by rw [← e1,List.length_map]
  refine ⟨⟨z.Shape,z.Groups,z.On,vs,z.Writes,z.Stop,z.Down⟩,b::(f9++(f10++g0)),g1,?_,⟨A9,C9,A10,C10,A11,C11,f9,f10,g0,by dsimp only; rw [el]; exact h1,h2,h3,by dsimp only; rw [el]; exact o1,h5,rfl⟩,p1,?_⟩
  · unfold WldV.w; dsimp only; rw [e1]
  · rw [h6]; exact zF e2
section
variable {M:Nat→Prop}{w0 w w':World}{Δ F:List Rsc}{b:Nat}{T:TypeId}{z:Wld}{zv zv':WldV}{fp fv fq:List Nat}
theorem Sep.toWV (h:Sep M w0 Δ F w) (i:Nat) (hi:Δ[i]? = some (wldR b T z fp)):∃ (zv:WldV) (fv fq:List Nat),zv.w=z∧Sep M w0 (Δ.set i (wldVR b T zv fv)++[gone,tb (bC zv.Tapes) fq]) F w:=by
  obtain ⟨zv,fv,fq,e,o,p,hp⟩:=OwnW.toV (h.wldAt i hi)
  have hn:fp.Nodup:=h.nodup1 hi
  have hil:i<Δ.length:=(List.getElem?_eq_some_iff.1 hi).1
  have o':(wldVR b T zv fv).φ w:=o
  have p':(tb (bC zv.Tapes) fq).φ w:=p
  have H1:=h.conv i (cat (wldVR b T zv fv) (tb (bC zv.Tapes) fq)) hi ⟨o',p'⟩ (fun x hx=>hp.mem_iff.2 hx) (hp.nodup_iff.1 hn)
  have H2:=H1.part i (r:=cat (wldVR b T zv fv) (tb (bC zv.Tapes) fq)) (List.getElem?_set_self hil) [wldVR b T zv fv,tb (bC zv.Tapes) fq] (aq o' (aq p' σ)) (by simp [blocks,cat])
  have H3:=H2.perm (iJ (by simpa using hil))
  rw [List.set_set] at H3
  exact ⟨zv,fv,fq,e,H3⟩
def MutPV (w w':World) (fp:List Nat) (b:Nat) (T:TypeId) (z:WldV) (us:List RecV):Prop:=
  Ext (· ∈ fp) w w'∧∃ fp' fq,OwnWV w' b T z fp'∧kE w' us fq∧(fp'++fq).Nodup∧∀ x∈fp'++fq,x∈fp∨w.heap.size≤x
end
end Go.Wk
namespace Go.Wk
open Rp (sz own)
def mkV (z:Wld) (ts:List TapeV):WldV:=⟨z.Shape,z.Groups,z.On,ts,z.Writes,z.Stop,z.Down⟩
def MutWT (ts:List TapeV) (w w':World) (fp:List Nat) (b:Nat) (T:TypeId) (z:Wld):Prop:=MutWV w w' fp b T (mkV z ts)
def MutPT (ts:List TapeV) (w w':World) (fp:List Nat) (b:Nat) (T:TypeId) (z:Wld) (us:List RecV):Prop:=MutPV w w' fp b T (mkV z ts) us
section
variable {M:Nat→Prop}{w0 w w' w1 w2:World}{Δ F:List Rsc}{b:Nat}{T:TypeId}{z z':Wld}{zv:WldV}{ts ts':List TapeV}{fp fp1 fq:List Nat}
theorem xa (h1:zv.w=z) (h2:zv.Tapes=ts):zv=mkV z ts:=by subst h1; subst h2; rfl
theorem MutWV.t (h:MutWV w w' fp b T zv) (h1:zv.w=z) (h2:zv.Tapes=ts):MutWT ts w w' fp b T z:=by
  rw [xa h1 h2] at h; exact h
theorem MutPV.t {us:List RecV}(h:MutPV w w' fp b T zv us) (h1:zv.w=z) (h2:zv.Tapes=ts):MutPT ts w w' fp b T z us:=by
  rw [xa h1 h2] at h; exact h
end
end Go.Wk
namespace Go.Wk
section
variable {ts:List TapeV}{k:Nat}{x:RecV}
theorem yr (hk:k<ts.length) (hx:x∈(ts.getD k default).Recs):x∈bC ts:=by
  unfold bC
  rw [List.mem_flatten]
  exact ⟨(ts.getD k default).Recs,List.mem_map.2 ⟨ts.getD k default,by rw [eG hk]; exact List.getElem_mem _,rfl⟩,hx⟩
end
end Go.Wk
namespace Go.Wk
open Rp (sz own)
section
variable {M:Nat→Prop}{w0 w:World}{Δ F:List Rsc}{α:Type}[Rp α]
theorem nZ {β:Type}(L:List β) (i j:Nat) (h:i≠j) (a b c:β):((L.set i a).set j b).set i c=(L.set j b).set i c:=by
  rw [List.set_comm _ _ h,List.set_set]
end
end Go.Wk
namespace Go.Wk
open Rp (sz own)
theorem rM {w:World}:∀ {xs:List Str},(∀ x∈xs,x.b.size≤maxLen)→bX true w (xs.map fun x=>Value.string x.b) xs []
  | [],_=>rfl
  | x::xs,h=>⟨[],[],rfl,⟨by simp [sz],rfl,h x σ⟩,by simpa [sz] using rM (w:=w) (xs:=xs) fun y hy=>h y (by simp [hy])⟩
instance:Inhabited Str:=⟨⟨⟨#[]⟩⟩⟩
theorem sw {s w ad n cap} {xs:List Str}{fp} (h:own s w [.slice ad n cap] xs fp) (k:Nat) (hk:k<xs.length) :
    ∃ b o,ad=some ⟨b,o,none⟩∧w.cell? ⟨b,o+k*1,none⟩=some (.string (xs.getD k default).b):=by
  obtain ⟨b,o,cs,f,h1,h2,h3,_⟩:=fD h k hk
  rw [show xs.getD k default=xs[k] from by simp [List.getD,hk]]
  exact ⟨b,o,h1,h2 0 (.string (xs[k]).b) (by rw [h3.1]; rfl)⟩
section
variable {P:Program}{n:Nat}{ops:Array Oper}{Q:Post}{L:Env}{w w0:World}{M:Nat→Prop}{Δ F:List Rsc}{rest:List Oper}{d:Nat}{ty:TypeId}{p:String}{af:Array Edge}{g:Option (Nat × Bool)}
theorem xp {t e:TypeId}{parts:Array (Nat × Operand)}{z:Value}{bytes:Nat}(xs:List Str) (hw:Wn ops n L ⟨some d,.buildSlice t xs.length parts,ty,p,af,g⟩) (hn:Nat.blt d n=true) (ht:P.underlying t=some (.slice e)) (hT:Ty P e z 1 bytes)
    (hix:parts.toList.map (·.1)=List.range xs.length) (hv:ga L (parts.toList.map (·.2))=some (xs.map fun x=>Value.string x.b)) (hk:∀ x∈xs,x.b.size≤maxLen) (h0:0<xs.length) (hl:xs.length≤1000) (H:Sep M w0 Δ F w)
    (k:∀ b w',Ext No w w'→w.heap.size≤b→Sep M w0 (Δ++[mine [.slice (some ⟨b,0,none⟩) xs.length xs.length] xs [b]]) F w'→RL P n ops Q rest ((d,.slice (some ⟨b,0,none⟩) xs.length xs.length)::L) w') :
    RL P n ops Q (⟨some d,.buildSlice t xs.length parts,ty,p,af,g⟩::rest) L w:=by
  have hparts:∀ a,Good n a L→(parts.map fun (i,x)=>(i,a.eval x)).toList=((xs.map fun x=>Value.string x.b).zipIdx 0).map fun x=>(x.2,x.1):=fun a ha=>by
    have key:∀ (l:List (Nat × Operand)) (vs:List Value) (k:Nat),l.map (·.1)=List.range' k vs.length→ga L (l.map (·.2))=some vs→l.map (fun x=>(x.1,a.eval x.2))=(vs.zipIdx k).map fun x=>(x.2,x.1):=by
      intro l
      induction l with
      | nil=>intro vs k h1 h2; simp [ga] at h2; subst h2; rfl
      | cons x l ih=>
        intro vs k h1 h2
        simp only [List.map_cons] at h1 h2 ⊢
        unfold ga at h2
        split at h2
        · rename_i v us hv hus
          cases h2
          rw [List.length_cons,List.range'_succ] at h1
          simp only [List.cons.injEq] at h1
          rw [List.zipIdx_cons,List.map_cons,← ih us (k+1) h1.2 hus,ha.eval hv,h1.1]
        · cases h2
    rw [Array.toList_map]
    refine key parts.toList _ 0 ?_ hv
    rw [hix,List.length_map,List.range_eq_range']
  have hp:=nv (n:=n) (w:=w) (ty:=ty) (p:=p) (af:=af) (g:=g) (d:=some d) (parts:=parts) (vs:=xs.map fun x=>Value.string x.b) (len:=xs.length) ht hT ω σ hparts (by intro v hv; simp at hv; obtain ⟨x,_,rfl⟩:=hv; rfl) h0 ω
  refine nV hw rfl hn hp (k _ _ (Ext.refl.alloc _) (Nat.le_refl _) ?_)
  refine H.add (Ext.refl.alloc _) (r:=Wk.mine [.slice (some ⟨w.heap.size,0,none⟩) xs.length xs.length] xs [w.heap.size]) (.inr (.inr ⟨w.heap.size,0,_,_,e,(0,0),[],rfl,rfl,heap_alloc_new w _,fun _=>rfl,Nat.le_refl _,by unfold maxLen; omega,?_,?_⟩)) (by simp [Wk.mine]) (by simp [Wk.mine])
  · have:∀ l:List Str,(l.map fun x=>Value.string x.b).flatMap (fun v=>v.cells.toList)=l.map fun x=>Value.string x.b:=by
      intro l; induction l with
      | nil=>rfl
      | cons x l ih=>simp only [List.map_cons,List.flatMap_cons,ih]; rfl
    simp [this,sz]
  · have:∀ l:List Str,(l.map fun x=>Value.string x.b).flatMap (fun v=>v.cells.toList)=l.map fun x=>Value.string x.b:=by
      intro l; induction l with
      | nil=>rfl
      | cons x l ih=>simp only [List.map_cons,List.flatMap_cons,ih]; rfl
    simp only [this,List.drop_zero]
    exact rM hk
end
section
variable {M:Nat→Prop}{w0 w w1 w2 w':World}{Δ F:List Rsc}
theorem Sep.s2Hol {α:Type}[Rp α] (h:Sep M w0 Δ F w) {i j:Nat}(hx:h.S2 i j w1) (k:Nat) {ad:Option Addr}{n cap kk b off:Nat}{xs:List α}{T:TypeId}{ck:List Value}{f1 f2:List Nat}(hk:Δ[k]? = some (hol ad n cap xs kk b off T ck f1 f2)) {ri rj:Rsc}(hi:Δ[i]? = some ri) (hj:Δ[j]? = some rj) (d1:Nat.beq k i=false) (d2:Nat.beq k j=false):At w1 b off ck:=
  Ext.atM hx (fun hm=>by
    rcases hm with hm | hm
    · rw [go hi] at hm; exact h.apart (i:=i) (j:=k) hi hk d1 b (by simp [hol]) hm
    · rw [go hj] at hm; exact h.apart (i:=j) (j:=k) hj hk d2 b (by simp [hol]) hm) (h.holAt k hk)
theorem Sep.s2Bx (h:Sep M w0 Δ F w) {i j:Nat}(hS:h.S2 i j w1) {b:Nat}{o o':Obj}(hi:Δ[i]? = some (Wk.box b o)) (e:BoxTo w1 w2 b o'):h.S2 i j w2:=
  h.s2In hS i hi (.inl rfl) e.1 fun _ hb=>by rw [hb]; exact List.mem_cons_self ..
def rdR (vs:List RecV) (f:List Nat):Rsc:=⟨f,fun w=>RdV w f vs∧∀ b∈f,b<w.heap.size,fun h k=>⟨fun v hv=>by
    obtain ⟨g,h1,h2⟩:=h.1 v hv
    exact ⟨g,Rp.st h1 fun b hb=>k b (h2 b hb),h2⟩,fun b hb=>by
    have h7:=h.2 b hb
    have h8:=k b hb
    rw [Array.getElem?_eq_getElem h7] at h8
    exact (Array.getElem?_eq_some_iff.1 h8).1⟩,fun h=>h.2⟩
theorem pm {s:Bool}{w:World}{ft:List Nat}:∀ {vs:List TapeV}{cs f0},bX s w cs vs f0→RdV w ft (bC vs)→∃ f,bX false w cs (vs.map TapeV.t) f∧∀ b∈f,b∈f0∨b∈ft
  | [],cs,f0,h,hp=>⟨[],rfl,σ⟩
  | v::vs,cs,f0,⟨g1,g2,e,h1,h2⟩,hp=>by
    obtain ⟨A,C,g,e1,eg,ok,o⟩:=qG h1
    have hp1:RdV w ft v.Recs:=hp.sub fun x hx=>by
      show x∈v.Recs++bC vs
      exact List.mem_append_left _ hx
    have hp2:RdV w ft (bC vs):=hp.sub fun x hx=>by
      show x∈v.Recs++bC vs
      exact List.mem_append_right _ hx
    obtain ⟨f1,o1,s1⟩:=wY o hp1
    obtain ⟨f2,o2,s2⟩:=pm h2 hp2
    refine ⟨f1++f2,⟨f1,f2,rfl,?_,o2⟩,fun b hb=>?_⟩
    · show own false w (cs.take (sz TapeV)) _ _
      rw [e1]
      have h:=Tape.own_mk (s:=false) (x:=v.t) (A1:=A) (C1:=C) trivial (show own false w [.slice A (v.Recs.map RecV.r).length C] (v.Recs.map RecV.r) f1 by rw [List.length_map]; exact o1)
      have el:v.t.Recs.length=v.Recs.length:=List.length_map _
      rw [el] at h; exact h
    · rw [e,eg]
      rcases List.mem_append.1 hb with hb | hb
      · rcases s1 b hb with q | q
        · exact .inl (List.mem_append_left _ q)
        · exact .inr q
      · rcases s2 b hb with q | q
        · exact .inl (List.mem_append_right _ q)
        · exact .inr q
theorem nj {s:Bool}{w:World}{ft:List Nat}{ad n cap} {vs:List TapeV}{f0} (h:own s w [.slice ad n cap] vs f0) (hp:RdV w ft (bC vs)):∃ f,own false w [.slice ad n cap] (vs.map TapeV.t) f∧∀ b∈f,b∈f0∨b∈ft:=by
  rcases am h with ⟨hf,A,C,e,rfl,rfl⟩ | ⟨e,rfl,rfl⟩ | ⟨b,o,cap',cur,T,fr,fs,h1,h2,h3,h4,h5,h6,h7,h8⟩
  · exact ⟨[],.inl ⟨rfl,A,C,e,rfl,rfl⟩,σ⟩
  · exact ⟨[],.inr (.inl ⟨e,rfl,rfl⟩),σ⟩
  · obtain ⟨f,h9,h10⟩:=pm h8 hp
    have el:(vs.map TapeV.t).length=vs.length:=List.length_map _
    exact ⟨b::f,.inr (.inr ⟨b,o,cap',cur,T,fr,f,by rw [el]; exact h1,rfl,h3,fun q=>(by cases q),by rw [el]; exact h5,h6,h7,h9⟩),fun x hx=>(List.mem_cons.1 hx).elim (fun q => .inl (by rw [h2,q]; exact List.mem_cons_self ..)) fun q=>(h10 x q).elim (fun r => .inl (by rw [h2]; exact List.mem_cons_of_mem _ r)) .inr⟩
end
end Go.Wk
namespace Go.Wk
open Rp (sz own)
def hC {α:Type}[Rp α] (b:Nat) (T:TypeId) (x:α) (fp:List Nat):Rsc:=
  ⟨fp,fun w=>∃ cs f,w.heap[b]? = some (.cells (List.toArray cs) T)∧own true w cs x f∧fp=b::f,
   fun h k=>by
    obtain ⟨cs,f,h1,h2,h3⟩:=h
    subst h3
    exact ⟨cs,f,(k b σ).trans h1,Rp.st h2 fun c hc=>k c (by simp [hc]),rfl⟩,
   fun h c hc=>by
    obtain ⟨cs,f,h1,h2,h3⟩:=h
    subst h3
    rcases List.mem_cons.1 hc with rfl | hc
    · exact (Array.getElem?_eq_some_iff.1 h1).1
    · exact Rp.lt h2 c hc⟩
section
variable {M:Nat→Prop}{w0 w w':World}{Δ F:List Rsc}{α:Type}[Rp α]
theorem y2 {b:Nat}{f1 f2 f3:List Nat}:(b::(f1++(f2++f3))).Perm ((([b]++f3)++f2)++f1):=by
  have h1:(f1++(f2++f3)).Perm ((f3++f2)++f1):=List.perm_append_comm.trans (List.perm_append_comm.append_right f1)
  have h2:=h1.cons b
  simpa using h2
theorem Sep.close3 {β γ δ:Type}[Rp β] [Rp γ] [Rp δ] {x:α}(h:Sep M w0 Δ F w) (i j1 j2 j3:Nat) {b:Nat}{cs c1 c2 c3:List Value}{T:TypeId}{x1:β}{x2:γ}{x3:δ}{f1 f2 f3:List Nat}(hi:Δ[i]? = some (Wk.box b (.cells cs.toArray T)))
    (h1:Δ[j1]? = some (Wk.mine c1 x1 f1)) (h2:Δ[j2]? = some (Wk.mine c2 x2 f2)) (h3:Δ[j3]? = some (Wk.mine c3 x3 f3))
    (d1:Nat.beq j1 i=false) (d2:Nat.beq j2 i=false) (d3:Nat.beq j3 i=false) (d4:Nat.beq j2 j1=false) (d5:Nat.beq j3 j1=false) (d6:Nat.beq j3 j2=false)
    (ho:∀ w,own true w c1 x1 f1→own true w c2 x2 f2→own true w c3 x3 f3→own true w cs x (f1++(f2++f3))) :
    ∃ fp,Sep M w0 ((((Δ.set j3 gone).set j2 gone).set j1 gone).set i (hC b T x fp)) F w:=by
  have ne1:i≠j1:=fun e=>by subst e; simp at d1
  have ne2:i≠j2:=fun e=>by subst e; simp at d2
  have ne3:i≠j3:=fun e=>by subst e; simp at d3
  have ne4:j2≠j1:=fun e=>by subst e; simp at d4
  have ne5:j3≠j1:=fun e=>by subst e; simp at d5
  have ne6:j3≠j2:=fun e=>by subst e; simp at d6
  have hil:i<Δ.length:=(List.getElem?_eq_some_iff.1 hi).1
  have H1:=h.join2 i j3 hi h3 d3
  have g2:((Δ.set j3 gone).set i (cat (Wk.box b (.cells cs.toArray T)) (Wk.mine c3 x3 f3)))[j2]? = some (Wk.mine c2 x2 f2):=by
    rw [List.getElem?_set_ne ne2,List.getElem?_set_ne ne6]; exact h2
  have gi:((Δ.set j3 gone).set i (cat (Wk.box b (.cells cs.toArray T)) (Wk.mine c3 x3 f3)))[i]? = some (cat (Wk.box b (.cells cs.toArray T)) (Wk.mine c3 x3 f3)):=List.getElem?_set_self (by simpa using hil)
  have H2:=H1.join2 i j2 gi g2 d2
  rw [nZ _ i j2 ne2] at H2
  have g3:(((Δ.set j3 gone).set j2 gone).set i (cat (cat (Wk.box b (.cells cs.toArray T)) (Wk.mine c3 x3 f3)) (Wk.mine c2 x2 f2)))[j1]? = some (Wk.mine c1 x1 f1):=by
    rw [List.getElem?_set_ne ne1,List.getElem?_set_ne ne4,List.getElem?_set_ne ne5]; exact h1
  have gi2:(((Δ.set j3 gone).set j2 gone).set i (cat (cat (Wk.box b (.cells cs.toArray T)) (Wk.mine c3 x3 f3)) (Wk.mine c2 x2 f2)))[i]? = some (cat (cat (Wk.box b (.cells cs.toArray T)) (Wk.mine c3 x3 f3)) (Wk.mine c2 x2 f2)):=List.getElem?_set_self (by simpa using hil)
  have H3:=H2.join2 i j1 gi2 g3 d1
  rw [nZ _ i j1 ne1] at H3
  have gi3:((((Δ.set j3 gone).set j2 gone).set j1 gone).set i (cat (cat (cat (Wk.box b (.cells cs.toArray T)) (Wk.mine c3 x3 f3)) (Wk.mine c2 x2 f2)) (Wk.mine c1 x1 f1)))[i]? = some (cat (cat (cat (Wk.box b (.cells cs.toArray T)) (Wk.mine c3 x3 f3)) (Wk.mine c2 x2 f2)) (Wk.mine c1 x1 f1)):=List.getElem?_set_self (by simpa using hil)
  have hφ:(cat (cat (cat (Wk.box b (.cells cs.toArray T)) (Wk.mine c3 x3 f3)) (Wk.mine c2 x2 f2)) (Wk.mine c1 x1 f1)).φ w:=H3.r i gi3
  have hn:=H3.nodup1 gi3
  obtain ⟨⟨⟨q0,q3⟩,q2⟩,q1⟩:=hφ
  have H4:=H3.conv i (hC b T x (b::(f1++(f2++f3)))) gi3 ⟨cs,_,q0,ho w q1 q2 q3,rfl⟩ (fun c hc=>y2.mem_iff.1 hc) (y2.nodup_iff.2 hn)
  rw [List.set_set] at H4
  exact ⟨_,H4⟩
theorem Sep.open3 {x:α}{fp:List Nat}{b:Nat}{T:TypeId}(h:Sep M w0 Δ F w) (i:Nat) (hi:Δ[i]? = some (hC b T x fp)) :
    ∃ cs f,own true w cs x f∧Sep M w0 (Δ.set i (Wk.box b (.cells (List.toArray cs) T))++[gone,Wk.mine cs x f]) F w:=by
  have hφ:(hC b T x fp).φ w:=h.r i hi
  obtain ⟨cs,f,h1,h2,h3⟩:=hφ
  have hn:fp.Nodup:=h.nodup1 hi
  have hil:i<Δ.length:=(List.getElem?_eq_some_iff.1 hi).1
  subst h3
  have o':(Wk.box b (.cells cs.toArray T)).φ w:=h1
  have p':(Wk.mine cs x f).φ w:=h2
  have H1:=h.conv i (cat (Wk.box b (.cells cs.toArray T)) (Wk.mine cs x f)) hi ⟨o',p'⟩ (fun c hc=>hc) hn
  have H2:=H1.part i (r:=cat (Wk.box b (.cells cs.toArray T)) (Wk.mine cs x f)) (List.getElem?_set_self hil) [Wk.box b (.cells cs.toArray T),Wk.mine cs x f] (aq o' (aq p' σ)) (by simp [blocks,cat])
  have H3:=H2.perm (iJ (by simpa using hil))
  rw [List.set_set] at H3
  exact ⟨cs,f,h2,H3⟩
theorem Sep.res3x {β γ δ:Type}[Rp β] [Rp γ] [Rp δ] {x:α}{b:Nat}{o:Obj}(h:Sep (· = b) w0 Δ F w) (i j1 j2 j3:Nat) {cs c1 c2 c3:List Value}{x1:β}{x2:γ}{x3:δ}{f1 f2 f3:List Nat}(hi:Δ[i]? = some (Wk.box b o))
    (h1:Δ[j1]? = some (Wk.mine c1 x1 f1)) (h2:Δ[j2]? = some (Wk.mine c2 x2 f2)) (h3:Δ[j3]? = some (Wk.mine c3 x3 f3))
    (d1:Nat.beq i j1=false) (d2:Nat.beq i j2=false) (d3:Nat.beq i j3=false) (d4:Nat.beq j2 j1=false) (d5:Nat.beq j3 j1=false) (d6:Nat.beq j3 j2=false)
    (ho:∀ w,own true w c1 x1 f1→own true w c2 x2 f2→own true w c3 x3 f3→own true w cs x (f1++(f2++f3))):own true w cs x (f1++(f2++f3))∧(f1++(f2++f3)).Nodup∧∀ c∈f1++(f2++f3),w0.heap.size≤c:=by
  have n1:=h.nodup1 h1
  have n2:=h.nodup1 h2
  have n3:=h.nodup1 h3
  have fr:∀ {j:Nat}{β:Type}[Rp β] {c:List Value}{y:β}{f:List Nat},Δ[j]? = some (Wk.mine c y f)→Nat.beq i j=false→∀ c∈f,w0.heap.size≤c:=fun {j β _ c y f} hj hd a ha=>by
    rcases h.new a (bx.2 ⟨_,List.mem_of_getElem? hj,ha⟩) with e | e
    · subst e; exact absurd ha (h.apart hj hi hd a (by simp [Wk.box]))
    · exact e
  refine ⟨ho w (h.mine j1 h1) (h.mine j2 h2) (h.mine j3 h3),?_,fun a ha=>?_⟩
  · refine List.nodup_append.2 ⟨n1,List.nodup_append.2 ⟨n2,n3,fun a ha c hc e=>?_⟩,fun a ha c hc e=>?_⟩
    · subst e; exact h.apart (i:=j2) (j:=j3) h2 h3 d6 a hc ha
    · subst e
      rcases List.mem_append.1 hc with hc | hc
      · exact h.apart (i:=j1) (j:=j2) h1 h2 d4 a hc ha
      · exact h.apart (i:=j1) (j:=j3) h1 h3 d5 a hc ha
  · rcases List.mem_append.1 ha with ha | ha
    · exact fr h1 d1 a ha
    · rcases List.mem_append.1 ha with ha | ha
      · exact fr h2 d2 a ha
      · exact fr h3 d3 a ha
theorem Sep.res3 {β γ δ:Type}[Rp β] [Rp γ] [Rp δ] {x:α}{b:Nat}{o:Obj}(h:Sep (· = b) w0 Δ F w) (i j1 j2 j3:Nat) {cs c1 c2 c3:List Value}{x1:β}{x2:γ}{x3:δ}{f1 f2 f3:List Nat}(hi:Δ[i]? = some (Wk.box b o))
    (h1:Δ[j1]? = some (Wk.mine c1 x1 f1)) (h2:Δ[j2]? = some (Wk.mine c2 x2 f2)) (h3:Δ[j3]? = some (Wk.mine c3 x3 f3))
    (d1:Nat.beq i j1=false) (d2:Nat.beq i j2=false) (d3:Nat.beq i j3=false) (d4:Nat.beq j2 j1=false) (d5:Nat.beq j3 j1=false) (d6:Nat.beq j3 j2=false)
    (ho:∀ w,own true w c1 x1 f1→own true w c2 x2 f2→own true w c3 x3 f3→own true w cs x (f1++(f2++f3))):Res w0 w cs x:=⟨_,h.res3x i j1 j2 j3 hi h1 h2 h3 d1 d2 d3 d4 d5 d6 ho⟩
end
section
variable {P:Program}{n:Nat}{L:Env}{w:World}{d:Option Tmp}{ty xt yt:TypeId}{p:String}{af:Array Edge}{g:Option (Nat × Bool)}{x y:Operand}
theorem yx {a b:UInt8}(hx:evL L x=some (.int .u8 a.toNat)) (hy:evL L y=some (.int .u8 b.toNat)):Py P n L w ⟨d,.binOp .add xt x y yt,ty,p,af,g⟩ (.int .u8 (a+b).toNat):=by
  have e:((a+b).toNat:Int)=IntKind.u8.wrap ((a.toNat:Int)+(b.toNat:Int)):=by
    rw [IntKind.wrap_u8,UInt8.toNat_add]
    have h1:=a.toNat_lt
    have h2:=b.toNat_lt
    omega
  rw [e]
  exact yU hx hy
end
section
variable {M:Nat→Prop}{w0 w:World}{Δ F:List Rsc}
theorem Rec.closeB (h:Sep M w0 Δ F w) (i j1 j2 j3:Nat) {b:Nat}{T:TypeId}{v0:Int}{v1:Int}{v2:ByteArray}{v3:Int}{v4:Int}{v5:Int}{v6:List Int}{A6:Option Addr}{n6 C6:Nat}{f6:List Nat}{v7:List UInt8}{A7:Option Addr}{n7 C7:Nat}{f7:List Nat}{v8:List UInt8}{A8:Option Addr}{n8 C8:Nat}{f8:List Nat}(hi:Δ[i]? = some (Wk.box b (.cells ([.int .i64 v0,.int .i64 v1,.string v2,.int .i64 v3,.int .i64 v4,.int .i64 v5,.slice A6 n6 C6,.slice A7 n7 C7,.slice A8 n8 C8]:List Value).toArray T)))
    (h1:Δ[j1]? = some (Wk.mine [.slice A6 n6 C6] v6 f6))
    (h2:Δ[j2]? = some (Wk.mine [.slice A7 n7 C7] v7 f7))
    (h3:Δ[j3]? = some (Wk.mine [.slice A8 n8 C8] v8 f8))
    (d1:Nat.beq j1 i=false) (d2:Nat.beq j2 i=false) (d3:Nat.beq j3 i=false) (d4:Nat.beq j2 j1=false) (d5:Nat.beq j3 j1=false) (d6:Nat.beq j3 j2=false) (ok:(⟨v0,v1,v2,v3,v4,v5,v6,v7,v8⟩:Rec).Ok) :
    ∃ x fp,x=(⟨v0,v1,v2,v3,v4,v5,v6,v7,v8⟩:Rec)∧Sep M w0 ((((Δ.set j3 gone).set j2 gone).set j1 gone).set i (hC b T x fp)) F w:=by
  obtain rfl:=gg (h.mine j1 h1)
  obtain rfl:=gg (h.mine j2 h2)
  obtain rfl:=gg (h.mine j3 h3)
  obtain ⟨fp,H⟩:=h.close3 i j1 j2 j3 hi h1 h2 h3 d1 d2 d3 d4 d5 d6 (fun w o1 o2 o3=>Rec.own_mk (x:=(⟨v0,v1,v2,v3,v4,v5,v6,v7,v8⟩:Rec)) ok o1 o2 o3)
  exact ⟨_,fp,rfl,H⟩
end
def Shape.few (x:Shape):Prop := -5≤x.Groups∧x.Groups≤500 ∧ -5≤x.Column∧x.Column≤500 ∧ -5≤x.Data∧x.Data≤500 ∧ -5≤x.Spare∧x.Spare≤500 ∧ -5≤x.Rows∧x.Rows≤500 ∧ -5≤x.Cap∧x.Cap≤500 ∧ -5≤x.Batch∧x.Batch≤500 ∧ -5≤x.Queue∧x.Queue≤500 ∧ -5≤x.Stage∧x.Stage≤500
theorem vM {x:Shape}(h1:1≤x.Groups∧x.Groups≤4) (h2:0≤x.Column∧x.Column≤2) (h3:1≤x.Data∧x.Data≤3) (h4:0≤x.Spare∧x.Spare≤2) (h5:1≤x.Rows∧x.Rows≤6) (h6:1≤x.Cap∧x.Cap≤6) (h7:1≤x.Batch∧x.Batch≤4) (h8:1≤x.Queue∧x.Queue≤6) (h9:0≤x.Stage∧x.Stage≤400):x.ok=true:=by
  unfold Shape.ok cOK rOK ins
  simp [h1.1,h1.2,h2.1,h2.2,h3.1,h3.2,h4.1,h4.2,h5.1,h5.2,h6.1,h6.2,h7.1,h7.2,h8.1,h8.2,h9.1,h9.2]
theorem ey {x:Shape}(h:x.ok=true):x.few:=by
  have:=aZ h
  unfold Shape.few; omega
theorem rm {x:Shape}(h:x.few):x.Ok:=by
  unfold Shape.few at h
  unfold Shape.Ok I64ok; omega
def Rec.few (r:Rec):Prop:=r.Name.size≤9∧r.Rows.length≤20∧r.Data.length≤40∧r.Delta.length≤40 ∧ -100≤r.Kind∧r.Kind≤100 ∧ -100≤r.Seq∧r.Seq≤2000000000 ∧ -100≤r.Length∧r.Length≤2000 ∧ -100≤r.Group∧r.Group≤2000 ∧ -100≤r.Row∧r.Row≤2000
def Rec.few0 (r:Rec):Prop:=r.Name.size≤9∧r.Rows.length≤19∧r.Data.length≤40∧r.Delta.length≤39 ∧ -100≤r.Kind∧r.Kind≤100 ∧ -100≤r.Seq∧r.Seq≤2000000000 ∧ -100≤r.Length∧r.Length≤1999 ∧ -100≤r.Group∧r.Group≤2000 ∧ -100≤r.Row∧r.Row≤2000
theorem mP {r:Rec}(h:r.few0):r.few:=by
  unfold Rec.few0 at h
  unfold Rec.few; omega
theorem cu {r:Rec}(h:r.few):r.Ok:=by
  unfold Rec.few at h
  unfold Rec.Ok I64ok maxLen; omega
theorem xM {xs:List Str}{k n:Nat}(h:∀ x∈xs,x.b.size≤n):(xs.getD k default).b.size≤n:=by
  by_cases c:k<xs.length
  · rw [eG c]; exact h _ (List.getElem_mem _)
  · rw [List.getD,List.getElem?_eq_none ω]; exact Nat.zero_le _
end Go.Wk
namespace Go.Wk
open Go.Proofs Rp Go.Proofs.Tryz
set_option maxRecDepth 10000
theorem gI {w:World}{code:List UInt8}{cA:Option Addr}{cC b:Nat}{cF:List Nat}{ct:Int}(hb:w.heap[b]? = some (.cells [.slice cA code.length cC,.int .i64 ct].toArray 136)) (cO:own false w [.slice cA code.length cC] code cF) (hd:∀ x∈cF,x≠b) (hct:0≤ct∧ct≤700000) (hcl:code.length≤1048576):Ret Tryz.prog 62 #[.pointer (some ⟨b,0,none⟩)] w fun v w'=>(∃ ct':Int,(ct≤ct'∧ct'≤ct+9)∧BoxTo w w' b (.cells [.slice cA code.length cC,.int .i64 ct'].toArray 136)∧∃ x:Shape,v=x.v∧x.ok=true):=by
 refine aV func62 Z ntmps62 Z (fun Q hQ hN=>?_);have H0:=(Sep.beginBox hb).look (r:=seen false [.slice cA code.length cC] code cF) cO (fun x hx hm=>hd x hx (by simpa [blocks,Wk.box] using hm));refine ah (bQ ae Z zeroValue30 H0 (fun b1 w1 e1 g1 H1=>aa (ah (sM Z Z (cU ([2,3,1,4]) ae Z bn bg Z Z (by intro x hx; unfold I64ok; simp only [List.mem_cons,List.not_mem_nil,or_false] at hx; omega) σ σ H1 (fun b2 w2 e2 g2 H2=>sC func118 bB Z (aR (H2.box 0 Z) (am (H2.seen 0 Z)) (H2.offb 0 Z 0 Z) ω ω (am (H2.mine 2 Z)) (fun x hx e=>H2.apart (i:=0) (j:=2) Z Z Z x hx (by simp [Wk.box,e])) σ) (fun v1 w3 r1=>?_)))))));obtain ⟨⟨e3,hb1⟩,nx1,rfl,ny1⟩:=r1;have H3:=H2.putBox 0 Z e3 hb1
 try dsimp only[lNA,lCA,lSZ,lSS] at H3
 try simp only [List.mem_cons,List.not_mem_nil,or_false] at ny1
 have H3g:=H3.conv 2 gone Z trivial (by simp [gone]) (by simp [gone])
 try dsimp only[lNA,lCA,lSZ,lSS] at H3g
 have ny1B:1≤nx1∧nx1≤4:=by omega
 clear ny1
 refine sM Z Z (cU ([1,2,1,0]) ae Z bn bg Z Z (by intro x hx; unfold I64ok; simp only [List.mem_cons,List.not_mem_nil,or_false] at hx; omega) σ σ H3g (fun b3 w4 e4 g3 H4=>sC func118 bB Z (aR (H4.box 0 Z) (am (H4.seen 0 Z)) (H4.offb 0 Z 0 Z) ω ω (am (H4.mine 3 Z)) (fun x hx e=>H4.apart (i:=0) (j:=3) Z Z Z x hx (by simp [Wk.box,e])) σ) (fun v2 w5 r2=>?_)));obtain ⟨⟨e5,hb2⟩,nx2,rfl,ny2⟩:=r2;have H5:=H4.putBox 0 Z e5 hb2
 try dsimp only[lNA,lCA,lSZ,lSS] at H5
 try simp only [List.mem_cons,List.not_mem_nil,or_false] at ny2
 have H5g:=H5.conv 3 gone Z trivial (by simp [gone]) (by simp [gone])
 try dsimp only[lNA,lCA,lSZ,lSS] at H5g
 have ny2B:0≤nx2∧nx2≤2:=by omega
 clear ny2
 refine sM Z Z (cU ([2,1,3]) ae Z bn bg Z Z (by intro x hx; unfold I64ok; simp only [List.mem_cons,List.not_mem_nil,or_false] at hx; omega) σ σ H5g (fun b4 w6 e6 g4 H6=>sC func118 bB Z (aR (H6.box 0 Z) (am (H6.seen 0 Z)) (H6.offb 0 Z 0 Z) ω ω (am (H6.mine 4 Z)) (fun x hx e=>H6.apart (i:=0) (j:=4) Z Z Z x hx (by simp [Wk.box,e])) σ) (fun v3 w7 r3=>?_)));obtain ⟨⟨e7,hb3⟩,nx3,rfl,ny3⟩:=r3;have H7:=H6.putBox 0 Z e7 hb3
 try dsimp only[lNA,lCA,lSZ,lSS] at H7
 try simp only [List.mem_cons,List.not_mem_nil,or_false] at ny3
 have H7g:=H7.conv 4 gone Z trivial (by simp [gone]) (by simp [gone])
 try dsimp only[lNA,lCA,lSZ,lSS] at H7g
 have ny3B:1≤nx3∧nx3≤3:=by omega
 clear ny3
 refine sM Z Z (cU ([1,0,2]) ae Z bn bg Z Z (by intro x hx; unfold I64ok; simp only [List.mem_cons,List.not_mem_nil,or_false] at hx; omega) σ σ H7g (fun b5 w8 e8 g5 H8=>sC func118 bB Z (aR (H8.box 0 Z) (am (H8.seen 0 Z)) (H8.offb 0 Z 0 Z) ω ω (am (H8.mine 5 Z)) (fun x hx e=>H8.apart (i:=0) (j:=5) Z Z Z x hx (by simp [Wk.box,e])) σ) (fun v4 w9 r4=>?_)));obtain ⟨⟨e9,hb4⟩,nx4,rfl,ny4⟩:=r4;have H9:=H8.putBox 0 Z e9 hb4
 try dsimp only[lNA,lCA,lSZ,lSS] at H9
 try simp only [List.mem_cons,List.not_mem_nil,or_false] at ny4
 have H9g:=H9.conv 5 gone Z trivial (by simp [gone]) (by simp [gone])
 try dsimp only[lNA,lCA,lSZ,lSS] at H9g
 have ny4B:0≤nx4∧nx4≤2:=by omega
 clear ny4
 refine sM Z Z (cU ([2,3,4]) ae Z bn bg Z Z (by intro x hx; unfold I64ok; simp only [List.mem_cons,List.not_mem_nil,or_false] at hx; omega) σ σ H9g (fun b6 w10 e10 g6 H10=>sC func118 bB Z (aR (H10.box 0 Z) (am (H10.seen 0 Z)) (H10.offb 0 Z 0 Z) ω ω (am (H10.mine 6 Z)) (fun x hx e=>H10.apart (i:=0) (j:=6) Z Z Z x hx (by simp [Wk.box,e])) σ) (fun v5 w11 r5=>?_)));obtain ⟨⟨e11,hb5⟩,nx5,rfl,ny5⟩:=r5;have H11:=H10.putBox 0 Z e11 hb5
 try dsimp only[lNA,lCA,lSZ,lSS] at H11
 try simp only [List.mem_cons,List.not_mem_nil,or_false] at ny5
 have H11g:=H11.conv 6 gone Z trivial (by simp [gone]) (by simp [gone])
 try dsimp only[lNA,lCA,lSZ,lSS] at H11g
 have ny5B:2≤nx5∧nx5≤4:=by omega
 clear ny5
 refine sM Z Z (cU ([1,2,3]) ae Z bn bg Z Z (by intro x hx; unfold I64ok; simp only [List.mem_cons,List.not_mem_nil,or_false] at hx; omega) σ σ H11g (fun b7 w12 e12 g7 H12=>sC func118 bB Z (aR (H12.box 0 Z) (am (H12.seen 0 Z)) (H12.offb 0 Z 0 Z) ω ω (am (H12.mine 7 Z)) (fun x hx e=>H12.apart (i:=0) (j:=7) Z Z Z x hx (by simp [Wk.box,e])) σ) (fun v6 w13 r6=>?_)));obtain ⟨⟨e13,hb6⟩,nx6,rfl,ny6⟩:=r6;have H13:=H12.putBox 0 Z e13 hb6
 try dsimp only[lNA,lCA,lSZ,lSS] at H13
 try simp only [List.mem_cons,List.not_mem_nil,or_false] at ny6
 have H13g:=H13.conv 7 gone Z trivial (by simp [gone]) (by simp [gone])
 try dsimp only[lNA,lCA,lSZ,lSS] at H13g
 have ny6B:1≤nx6∧nx6≤3:=by omega
 clear ny6
 refine sM Z Z (cU ([1,2]) ae Z bn bg Z Z (by intro x hx; unfold I64ok; simp only [List.mem_cons,List.not_mem_nil,or_false] at hx; omega) σ σ H13g (fun b8 w14 e14 g8 H14=>sC func118 bB Z (aR (H14.box 0 Z) (am (H14.seen 0 Z)) (H14.offb 0 Z 0 Z) ω ω (am (H14.mine 8 Z)) (fun x hx e=>H14.apart (i:=0) (j:=8) Z Z Z x hx (by simp [Wk.box,e])) σ) (fun v7 w15 r7=>?_)));obtain ⟨⟨e15,hb7⟩,nx7,rfl,ny7⟩:=r7;have H15:=H14.putBox 0 Z e15 hb7
 try dsimp only[lNA,lCA,lSZ,lSS] at H15
 try simp only [List.mem_cons,List.not_mem_nil,or_false] at ny7
 have H15g:=H15.conv 8 gone Z trivial (by simp [gone]) (by simp [gone])
 try dsimp only[lNA,lCA,lSZ,lSS] at H15g
 have ny7B:1≤nx7∧nx7≤2:=by omega
 clear ny7
 refine sM Z Z (cU ([1,2,3]) ae Z bn bg Z Z (by intro x hx; unfold I64ok; simp only [List.mem_cons,List.not_mem_nil,or_false] at hx; omega) σ σ H15g (fun b9 w16 e16 g9 H16=>sC func118 bB Z (aR (H16.box 0 Z) (am (H16.seen 0 Z)) (H16.offb 0 Z 0 Z) ω ω (am (H16.mine 9 Z)) (fun x hx e=>H16.apart (i:=0) (j:=9) Z Z Z x hx (by simp [Wk.box,e])) σ) (fun v8 w17 r8=>?_)));obtain ⟨⟨e17,hb8⟩,nx8,rfl,ny8⟩:=r8;have H17:=H16.putBox 0 Z e17 hb8
 try dsimp only[lNA,lCA,lSZ,lSS] at H17
 try simp only [List.mem_cons,List.not_mem_nil,or_false] at ny8
 have H17g:=H17.conv 9 gone Z trivial (by simp [gone]) (by simp [gone])
 try dsimp only[lNA,lCA,lSZ,lSS] at H17g
 have ny8B:1≤nx8∧nx8≤3:=by omega
 clear ny8
 refine sM Z Z (cU ([60,20,100,400]) ae Z bn bg Z Z (by intro x hx; unfold I64ok; simp only [List.mem_cons,List.not_mem_nil,or_false] at hx; omega) σ σ H17g (fun b10 w18 e18 g10 H18=>sC func118 bB Z (aR (H18.box 0 Z) (am (H18.seen 0 Z)) (H18.offb 0 Z 0 Z) ω ω (am (H18.mine 10 Z)) (fun x hx e=>H18.apart (i:=0) (j:=10) Z Z Z x hx (by simp [Wk.box,e])) σ) (fun v9 w19 r9=>?_)));obtain ⟨⟨e19,hb9⟩,nx9,rfl,ny9⟩:=r9;have H19:=H18.putBox 0 Z e19 hb9
 try dsimp only[lNA,lCA,lSZ,lSS] at H19
 try simp only [List.mem_cons,List.not_mem_nil,or_false] at ny9
 have H19g:=H19.conv 10 gone Z trivial (by simp [gone]) (by simp [gone])
 try dsimp only[lNA,lCA,lSZ,lSS] at H19g
 have ny9B:20≤nx9∧nx9≤400:=by omega
 clear ny9
 refine sV Z (aT (cs:=[.int .i64 nx1,.int .i64 nx2,.int .i64 nx3,.int .i64 nx4,.int .i64 nx5,.int .i64 nx6,.int .i64 nx7,.int .i64 nx8,.int .i64 nx9]) wc Z κ) (aO ae ba Z Z Z Z H19g 1 Z Z (fun w20 e20 H20=>?_));dsimp only[lNA,lCA,lSZ,lSS,aC] at H20;refine aa (bl (hQ _ _ (cq results62 Z (au aX Z ba Z (At.whole (H20.box 1 Z))) ?_)));exact ⟨_,ω,⟨H20.ext,H20.box 0 Z⟩,⟨nx1,nx2,nx3,nx4,nx5,nx6,nx7,nx8,nx9⟩,Z,vM θ θ θ θ θ θ θ θ θ⟩
set_option maxHeartbeats 4000000 in
theorem nD {w:World}{code:List UInt8}{cA:Option Addr}{cC b:Nat}{cF:List Nat}{ct:Int}(hb:w.heap[b]? = some (.cells [.slice cA code.length cC,.int .i64 ct].toArray 136)) (cO:own false w [.slice cA code.length cC] code cF) (hd:∀ x∈cF,x≠b) (hct:0≤ct∧ct≤690000) (hcl:code.length≤1048576):Ret Tryz.prog 253 #[.pointer (some ⟨b,0,none⟩)] w fun v w'=>(∃ ct':Int,(ct≤ct'∧ct'≤ct+11)∧BoxTo w w' b (.cells [.slice cA code.length cC,.int .i64 ct'].toArray 136)∧∃ x:Shape,v=x.v∧x.few):=by
 refine aV func253 Z ntmps253 Z (fun Q hQ hN=>?_);have H0:=(Sep.beginBox hb).look (r:=seen false [.slice cA code.length cC] code cF) cO (fun x hx hm=>hd x hx (by simpa [blocks,Wk.box] using hm));refine ah (bQ ae Z zeroValue30 H0 (fun b1 w1 e1 g1 H1=>aa (ah (sM Z Z (sC func62 ne Z (gI (H1.box 0 Z) (am (H1.seen 0 Z)) (H1.offb 0 Z 0 Z) ω ω) (fun v1 w2 r1=>?_))))));obtain ⟨ct1,cb1,⟨e3,hb1⟩,sh1,rfl,hsh1⟩:=r1;have H2:=H1.putBox 0 Z e3 hb1
 try dsimp only[lNA,lCA,lSZ,lSS] at H2
 refine bQ ae Z zeroValue30 H2 (fun b2 w3 e4 g2 H3=>aO ae ba Z Z Z Z H3 2 Z Z (fun w4 e5 H4=>?_));dsimp only[lNA,lCA,lSZ,lSS,aC] at H4;refine aa (ag (ah (sM Z Z (sC func64 bk Z (aH (H4.box 0 Z) (am (H4.seen 0 Z)) (H4.offb 0 Z 0 Z) ω ω ω) (fun v2 w5 r2=>?_)))));obtain ⟨⟨e6,hb2⟩,nx1,rfl,ny1⟩:=r2;have H5:=H4.putBox 0 Z e6 hb2
 try dsimp only[lNA,lCA,lSZ,lSS] at H5
 try simp only [List.mem_cons,List.not_mem_nil,or_false] at ny1
 refine aa (ay (ah (sR 2 Z (aa (aA Z (fun c1=>?_) (fun c1=>?_))))))
 ·refine aw (sM Z Z (cU ([0,5]) ae Z bn bg Z Z (by intro x hx; unfold I64ok; simp only [List.mem_cons,List.not_mem_nil,or_false] at hx; omega) σ σ H5 (fun b3 w6 e7 g3 H6=>sC func118 bB Z (aR (H6.box 0 Z) (am (H6.seen 0 Z)) (H6.offb 0 Z 0 Z) ω ω (am (H6.mine 3 Z)) (fun x hx e=>H6.apart (i:=0) (j:=3) Z Z Z x hx (by simp [Wk.box,e])) σ) (fun v3 w7 r3=>?_))));obtain ⟨⟨e8,hb3⟩,nx2,rfl,ny2⟩:=r3;have H7:=H6.putBox 0 Z e8 hb3
  try dsimp only[lNA,lCA,lSZ,lSS] at H7
  try simp only [List.mem_cons,List.not_mem_nil,or_false] at ny2
  have H7g:=H7.conv 3 gone Z trivial (by simp [gone]) (by simp [gone])
  try dsimp only[lNA,lCA,lSZ,lSS] at H7g
  have ny2B:0≤nx2∧nx2≤5:=by omega
  clear ny2
  refine sF aX Z ts2 (bA ae ts2 Z Z Z H7g 2 Z Z (fun w8 e9 H8=>?_));dsimp only[lNA,lCA,lSZ,lSS,aC] at H8;refine aa (ah (sV Z (aj aX Z ba Z Z (At.whole (H8.box 2 Z))) (aO ae ba Z Z Z Z H8 1 Z Z (fun w9 e10 H9=>?_))));dsimp only[lNA,lCA,lSZ,lSS,aC] at H9;refine aa (bl (hQ _ _ (cq results253 Z (au aX Z ba Z (At.whole (H9.box 1 Z))) ?_)));have sfw:=ey hsh1;unfold Shape.few at sfw;exact ⟨_,ω,⟨H9.ext,H9.box 0 Z⟩,⟨nx2,sh1.Column,sh1.Data,sh1.Spare,sh1.Rows,sh1.Cap,sh1.Batch,sh1.Queue,sh1.Stage⟩,Z,by unfold Shape.few; dsimp only; omega⟩
 ·refine ah (sR 2 Z (aa (aA Z (fun c2=>?_) (fun c2=>?_))))
  ·refine aw (sM Z Z (cU ([-1,3]) ae Z bn bg Z Z (by intro x hx; unfold I64ok; simp only [List.mem_cons,List.not_mem_nil,or_false] at hx; omega) σ σ H5 (fun b4 w10 e11 g4 H10=>sC func118 bB Z (aR (H10.box 0 Z) (am (H10.seen 0 Z)) (H10.offb 0 Z 0 Z) ω ω (am (H10.mine 3 Z)) (fun x hx e=>H10.apart (i:=0) (j:=3) Z Z Z x hx (by simp [Wk.box,e])) σ) (fun v4 w11 r4=>?_))));obtain ⟨⟨e12,hb4⟩,nx3,rfl,ny3⟩:=r4;have H11:=H10.putBox 0 Z e12 hb4
   try dsimp only[lNA,lCA,lSZ,lSS] at H11
   try simp only [List.mem_cons,List.not_mem_nil,or_false] at ny3
   have H11g:=H11.conv 3 gone Z trivial (by simp [gone]) (by simp [gone])
   try dsimp only[lNA,lCA,lSZ,lSS] at H11g
   have ny3B : -1≤nx3∧nx3≤3:=by omega
   clear ny3
   refine sF aX Z ts2 (bA ae ts2 Z Z Z H11g 2 Z Z (fun w12 e13 H12=>?_));dsimp only[lNA,lCA,lSZ,lSS,aC] at H12;refine aa (ah (sV Z (aj aX Z ba Z Z (At.whole (H12.box 2 Z))) (aO ae ba Z Z Z Z H12 1 Z Z (fun w13 e14 H13=>?_))));dsimp only[lNA,lCA,lSZ,lSS,aC] at H13;refine aa (bl (hQ _ _ (cq results253 Z (au aX Z ba Z (At.whole (H13.box 1 Z))) ?_)));have sfw:=ey hsh1;unfold Shape.few at sfw;exact ⟨_,ω,⟨H13.ext,H13.box 0 Z⟩,⟨sh1.Groups,nx3,sh1.Data,sh1.Spare,sh1.Rows,sh1.Cap,sh1.Batch,sh1.Queue,sh1.Stage⟩,Z,by unfold Shape.few; dsimp only; omega⟩
  ·refine ah (sR 2 Z (aa (aA Z (fun c3=>?_) (fun c3=>?_))))
   ·refine aw (sM Z Z (cU ([0,4]) ae Z bn bg Z Z (by intro x hx; unfold I64ok; simp only [List.mem_cons,List.not_mem_nil,or_false] at hx; omega) σ σ H5 (fun b5 w14 e15 g5 H14=>sC func118 bB Z (aR (H14.box 0 Z) (am (H14.seen 0 Z)) (H14.offb 0 Z 0 Z) ω ω (am (H14.mine 3 Z)) (fun x hx e=>H14.apart (i:=0) (j:=3) Z Z Z x hx (by simp [Wk.box,e])) σ) (fun v5 w15 r5=>?_))));obtain ⟨⟨e16,hb5⟩,nx4,rfl,ny4⟩:=r5;have H15:=H14.putBox 0 Z e16 hb5
    try dsimp only[lNA,lCA,lSZ,lSS] at H15
    try simp only [List.mem_cons,List.not_mem_nil,or_false] at ny4
    have H15g:=H15.conv 3 gone Z trivial (by simp [gone]) (by simp [gone])
    try dsimp only[lNA,lCA,lSZ,lSS] at H15g
    have ny4B:0≤nx4∧nx4≤4:=by omega
    clear ny4
    refine sF aX Z ts2 (bA ae ts2 Z Z Z H15g 2 Z Z (fun w16 e17 H16=>?_));dsimp only[lNA,lCA,lSZ,lSS,aC] at H16;refine aa (ah (sV Z (aj aX Z ba Z Z (At.whole (H16.box 2 Z))) (aO ae ba Z Z Z Z H16 1 Z Z (fun w17 e18 H17=>?_))));dsimp only[lNA,lCA,lSZ,lSS,aC] at H17;refine aa (bl (hQ _ _ (cq results253 Z (au aX Z ba Z (At.whole (H17.box 1 Z))) ?_)));have sfw:=ey hsh1;unfold Shape.few at sfw;exact ⟨_,ω,⟨H17.ext,H17.box 0 Z⟩,⟨sh1.Groups,sh1.Column,nx4,sh1.Spare,sh1.Rows,sh1.Cap,sh1.Batch,sh1.Queue,sh1.Stage⟩,Z,by unfold Shape.few; dsimp only; omega⟩
   ·refine ah (sR 2 Z (aa (aA Z (fun c4=>?_) (fun c4=>?_))))
    ·refine aw (sM Z Z (cU ([-1,3]) ae Z bn bg Z Z (by intro x hx; unfold I64ok; simp only [List.mem_cons,List.not_mem_nil,or_false] at hx; omega) σ σ H5 (fun b6 w18 e19 g6 H18=>sC func118 bB Z (aR (H18.box 0 Z) (am (H18.seen 0 Z)) (H18.offb 0 Z 0 Z) ω ω (am (H18.mine 3 Z)) (fun x hx e=>H18.apart (i:=0) (j:=3) Z Z Z x hx (by simp [Wk.box,e])) σ) (fun v6 w19 r6=>?_))));obtain ⟨⟨e20,hb6⟩,nx5,rfl,ny5⟩:=r6;have H19:=H18.putBox 0 Z e20 hb6
     try dsimp only[lNA,lCA,lSZ,lSS] at H19
     try simp only [List.mem_cons,List.not_mem_nil,or_false] at ny5
     have H19g:=H19.conv 3 gone Z trivial (by simp [gone]) (by simp [gone])
     try dsimp only[lNA,lCA,lSZ,lSS] at H19g
     have ny5B : -1≤nx5∧nx5≤3:=by omega
     clear ny5
     refine sF aX Z ts2 (bA ae ts2 Z Z Z H19g 2 Z Z (fun w20 e21 H20=>?_));dsimp only[lNA,lCA,lSZ,lSS,aC] at H20;refine aa (ah (sV Z (aj aX Z ba Z Z (At.whole (H20.box 2 Z))) (aO ae ba Z Z Z Z H20 1 Z Z (fun w21 e22 H21=>?_))));dsimp only[lNA,lCA,lSZ,lSS,aC] at H21;refine aa (bl (hQ _ _ (cq results253 Z (au aX Z ba Z (At.whole (H21.box 1 Z))) ?_)));have sfw:=ey hsh1;unfold Shape.few at sfw;exact ⟨_,ω,⟨H21.ext,H21.box 0 Z⟩,⟨sh1.Groups,sh1.Column,sh1.Data,nx5,sh1.Rows,sh1.Cap,sh1.Batch,sh1.Queue,sh1.Stage⟩,Z,by unfold Shape.few; dsimp only; omega⟩
    ·refine ah (sR 2 Z (aa (aA Z (fun c5=>?_) (fun c5=>?_))))
     ·refine aw (sM Z Z (cU ([0,7,6]) ae Z bn bg Z Z (by intro x hx; unfold I64ok; simp only [List.mem_cons,List.not_mem_nil,or_false] at hx; omega) σ σ H5 (fun b7 w22 e23 g7 H22=>sC func118 bB Z (aR (H22.box 0 Z) (am (H22.seen 0 Z)) (H22.offb 0 Z 0 Z) ω ω (am (H22.mine 3 Z)) (fun x hx e=>H22.apart (i:=0) (j:=3) Z Z Z x hx (by simp [Wk.box,e])) σ) (fun v7 w23 r7=>?_))));obtain ⟨⟨e24,hb7⟩,nx6,rfl,ny6⟩:=r7;have H23:=H22.putBox 0 Z e24 hb7
      try dsimp only[lNA,lCA,lSZ,lSS] at H23
      try simp only [List.mem_cons,List.not_mem_nil,or_false] at ny6
      have H23g:=H23.conv 3 gone Z trivial (by simp [gone]) (by simp [gone])
      try dsimp only[lNA,lCA,lSZ,lSS] at H23g
      have ny6B:0≤nx6∧nx6≤7:=by omega
      clear ny6
      refine sF aX Z ts2 (bA ae ts2 Z Z Z H23g 2 Z Z (fun w24 e25 H24=>?_));dsimp only[lNA,lCA,lSZ,lSS,aC] at H24;refine aa (ah (sV Z (aj aX Z ba Z Z (At.whole (H24.box 2 Z))) (aO ae ba Z Z Z Z H24 1 Z Z (fun w25 e26 H25=>?_))));dsimp only[lNA,lCA,lSZ,lSS,aC] at H25;refine aa (bl (hQ _ _ (cq results253 Z (au aX Z ba Z (At.whole (H25.box 1 Z))) ?_)));have sfw:=ey hsh1;unfold Shape.few at sfw;exact ⟨_,ω,⟨H25.ext,H25.box 0 Z⟩,⟨sh1.Groups,sh1.Column,sh1.Data,sh1.Spare,nx6,sh1.Cap,sh1.Batch,sh1.Queue,sh1.Stage⟩,Z,by unfold Shape.few; dsimp only; omega⟩
     ·refine ah (sR 2 Z (aa (aA Z (fun c6=>?_) (fun c6=>?_))))
      ·refine aw (sM Z Z (cU ([0,7,6]) ae Z bn bg Z Z (by intro x hx; unfold I64ok; simp only [List.mem_cons,List.not_mem_nil,or_false] at hx; omega) σ σ H5 (fun b8 w26 e27 g8 H26=>sC func118 bB Z (aR (H26.box 0 Z) (am (H26.seen 0 Z)) (H26.offb 0 Z 0 Z) ω ω (am (H26.mine 3 Z)) (fun x hx e=>H26.apart (i:=0) (j:=3) Z Z Z x hx (by simp [Wk.box,e])) σ) (fun v8 w27 r8=>?_))));obtain ⟨⟨e28,hb8⟩,nx7,rfl,ny7⟩:=r8;have H27:=H26.putBox 0 Z e28 hb8
       try dsimp only[lNA,lCA,lSZ,lSS] at H27
       try simp only [List.mem_cons,List.not_mem_nil,or_false] at ny7
       have H27g:=H27.conv 3 gone Z trivial (by simp [gone]) (by simp [gone])
       try dsimp only[lNA,lCA,lSZ,lSS] at H27g
       have ny7B:0≤nx7∧nx7≤7:=by omega
       clear ny7
       refine sF aX Z ts2 (bA ae ts2 Z Z Z H27g 2 Z Z (fun w28 e29 H28=>?_));dsimp only[lNA,lCA,lSZ,lSS,aC] at H28;refine aa (ah (sV Z (aj aX Z ba Z Z (At.whole (H28.box 2 Z))) (aO ae ba Z Z Z Z H28 1 Z Z (fun w29 e30 H29=>?_))));dsimp only[lNA,lCA,lSZ,lSS,aC] at H29;refine aa (bl (hQ _ _ (cq results253 Z (au aX Z ba Z (At.whole (H29.box 1 Z))) ?_)));have sfw:=ey hsh1;unfold Shape.few at sfw;exact ⟨_,ω,⟨H29.ext,H29.box 0 Z⟩,⟨sh1.Groups,sh1.Column,sh1.Data,sh1.Spare,sh1.Rows,nx7,sh1.Batch,sh1.Queue,sh1.Stage⟩,Z,by unfold Shape.few; dsimp only; omega⟩
      ·refine ah (sR 2 Z (aa (aA Z (fun c7=>?_) (fun c7=>?_))))
       ·refine aw (sM Z Z (cU ([0,5,4]) ae Z bn bg Z Z (by intro x hx; unfold I64ok; simp only [List.mem_cons,List.not_mem_nil,or_false] at hx; omega) σ σ H5 (fun b9 w30 e31 g9 H30=>sC func118 bB Z (aR (H30.box 0 Z) (am (H30.seen 0 Z)) (H30.offb 0 Z 0 Z) ω ω (am (H30.mine 3 Z)) (fun x hx e=>H30.apart (i:=0) (j:=3) Z Z Z x hx (by simp [Wk.box,e])) σ) (fun v9 w31 r9=>?_))));obtain ⟨⟨e32,hb9⟩,nx8,rfl,ny8⟩:=r9;have H31:=H30.putBox 0 Z e32 hb9
        try dsimp only[lNA,lCA,lSZ,lSS] at H31
        try simp only [List.mem_cons,List.not_mem_nil,or_false] at ny8
        have H31g:=H31.conv 3 gone Z trivial (by simp [gone]) (by simp [gone])
        try dsimp only[lNA,lCA,lSZ,lSS] at H31g
        have ny8B:0≤nx8∧nx8≤5:=by omega
        clear ny8
        refine sF aX Z ts2 (bA ae ts2 Z Z Z H31g 2 Z Z (fun w32 e33 H32=>?_));dsimp only[lNA,lCA,lSZ,lSS,aC] at H32;refine aa (ah (sV Z (aj aX Z ba Z Z (At.whole (H32.box 2 Z))) (aO ae ba Z Z Z Z H32 1 Z Z (fun w33 e34 H33=>?_))));dsimp only[lNA,lCA,lSZ,lSS,aC] at H33;refine aa (bl (hQ _ _ (cq results253 Z (au aX Z ba Z (At.whole (H33.box 1 Z))) ?_)));have sfw:=ey hsh1;unfold Shape.few at sfw;exact ⟨_,ω,⟨H33.ext,H33.box 0 Z⟩,⟨sh1.Groups,sh1.Column,sh1.Data,sh1.Spare,sh1.Rows,sh1.Cap,nx8,sh1.Queue,sh1.Stage⟩,Z,by unfold Shape.few; dsimp only; omega⟩
       ·refine ah (sR 2 Z (aa (aA Z (fun c8=>?_) (fun c8=>?_))))
        ·refine aw (sM Z Z (cU ([0,7,6]) ae Z bn bg Z Z (by intro x hx; unfold I64ok; simp only [List.mem_cons,List.not_mem_nil,or_false] at hx; omega) σ σ H5 (fun b10 w34 e35 g10 H34=>sC func118 bB Z (aR (H34.box 0 Z) (am (H34.seen 0 Z)) (H34.offb 0 Z 0 Z) ω ω (am (H34.mine 3 Z)) (fun x hx e=>H34.apart (i:=0) (j:=3) Z Z Z x hx (by simp [Wk.box,e])) σ) (fun v10 w35 r10=>?_))));obtain ⟨⟨e36,hb10⟩,nx9,rfl,ny9⟩:=r10;have H35:=H34.putBox 0 Z e36 hb10
         try dsimp only[lNA,lCA,lSZ,lSS] at H35
         try simp only [List.mem_cons,List.not_mem_nil,or_false] at ny9
         have H35g:=H35.conv 3 gone Z trivial (by simp [gone]) (by simp [gone])
         try dsimp only[lNA,lCA,lSZ,lSS] at H35g
         have ny9B:0≤nx9∧nx9≤7:=by omega
         clear ny9
         refine sF aX Z ts2 (bA ae ts2 Z Z Z H35g 2 Z Z (fun w36 e37 H36=>?_));dsimp only[lNA,lCA,lSZ,lSS,aC] at H36;refine aa (ah (sV Z (aj aX Z ba Z Z (At.whole (H36.box 2 Z))) (aO ae ba Z Z Z Z H36 1 Z Z (fun w37 e38 H37=>?_))));dsimp only[lNA,lCA,lSZ,lSS,aC] at H37;refine aa (bl (hQ _ _ (cq results253 Z (au aX Z ba Z (At.whole (H37.box 1 Z))) ?_)));have sfw:=ey hsh1;unfold Shape.few at sfw;exact ⟨_,ω,⟨H37.ext,H37.box 0 Z⟩,⟨sh1.Groups,sh1.Column,sh1.Data,sh1.Spare,sh1.Rows,sh1.Cap,sh1.Batch,nx9,sh1.Stage⟩,Z,by unfold Shape.few; dsimp only; omega⟩
        ·refine ah (sR 2 Z (aa (aA Z (fun c9=>?_) (fun c9=>?_))))
         ·refine aw (sM Z Z (cU ([-1,401,0]) ae Z bn bg Z Z (by intro x hx; unfold I64ok; simp only [List.mem_cons,List.not_mem_nil,or_false] at hx; omega) σ σ H5 (fun b11 w38 e39 g11 H38=>sC func118 bB Z (aR (H38.box 0 Z) (am (H38.seen 0 Z)) (H38.offb 0 Z 0 Z) ω ω (am (H38.mine 3 Z)) (fun x hx e=>H38.apart (i:=0) (j:=3) Z Z Z x hx (by simp [Wk.box,e])) σ) (fun v11 w39 r11=>?_))));obtain ⟨⟨e40,hb11⟩,nx10,rfl,ny10⟩:=r11;have H39:=H38.putBox 0 Z e40 hb11
          try dsimp only[lNA,lCA,lSZ,lSS] at H39
          try simp only [List.mem_cons,List.not_mem_nil,or_false] at ny10
          have H39g:=H39.conv 3 gone Z trivial (by simp [gone]) (by simp [gone])
          try dsimp only[lNA,lCA,lSZ,lSS] at H39g
          have ny10B : -1≤nx10∧nx10≤401:=by omega
          clear ny10
          refine sF aX Z ts2 (bA ae ts2 Z Z Z H39g 2 Z Z (fun w40 e41 H40=>?_));dsimp only[lNA,lCA,lSZ,lSS,aC] at H40;refine aa (ah (sV Z (aj aX Z ba Z Z (At.whole (H40.box 2 Z))) (aO ae ba Z Z Z Z H40 1 Z Z (fun w41 e42 H41=>?_))));dsimp only[lNA,lCA,lSZ,lSS,aC] at H41;refine aa (bl (hQ _ _ (cq results253 Z (au aX Z ba Z (At.whole (H41.box 1 Z))) ?_)));have sfw:=ey hsh1;unfold Shape.few at sfw;exact ⟨_,ω,⟨H41.ext,H41.box 0 Z⟩,⟨sh1.Groups,sh1.Column,sh1.Data,sh1.Spare,sh1.Rows,sh1.Cap,sh1.Batch,sh1.Queue,nx10⟩,Z,by unfold Shape.few; dsimp only; omega⟩
         ·refine ar (ah (sV Z (aj aX Z ba Z Z (At.whole (H5.box 2 Z))) (aO ae ba Z Z Z Z H5 1 Z Z (fun w42 e43 H42=>?_))));dsimp only[lNA,lCA,lSZ,lSS,aC] at H42;refine aa (bl (hQ _ _ (cq results253 Z (au aX Z ba Z (At.whole (H42.box 1 Z))) ?_)));have sfw:=ey hsh1;unfold Shape.few at sfw;exact ⟨_,ω,⟨H42.ext,H42.box 0 Z⟩,⟨sh1.Groups,sh1.Column,sh1.Data,sh1.Spare,sh1.Rows,sh1.Cap,sh1.Batch,sh1.Queue,sh1.Stage⟩,Z,by unfold Shape.few; dsimp only; omega⟩
theorem jF {w:World}{code:List UInt8}{cA:Option Addr}{cC b:Nat}{cF:List Nat}{ct:Int}(hb:w.heap[b]? = some (.cells [.slice cA code.length cC,.int .i64 ct].toArray 136)) (cO:own false w [.slice cA code.length cC] code cF) (hd:∀ x∈cF,x≠b) (hct:0≤ct∧ct≤700000) (hcl:code.length≤1048576):Ret Tryz.prog 123 #[.pointer (some ⟨b,0,none⟩)] w fun v w'=>(∃ ct':Int,(ct≤ct'∧ct'≤ct+1)∧BoxTo w w' b (.cells [.slice cA code.length cC,.int .i64 ct'].toArray 136)∧∃ x:ByteArray,v = .string x∧x.size≤9):=by
 refine aV func123 Z ntmps123 Z (fun Q hQ hN=>?_);have H0:=(Sep.beginBox hb).look (r:=seen false [.slice cA code.length cC] code cF) cO (fun x hx hm=>hd x hx (by simpa [blocks,Wk.box] using hm));refine ah (sA Z Z (aa (ah (xp ([⟨⟨#[97]⟩⟩,⟨⟨#[98]⟩⟩,⟨⟨#[99]⟩⟩,⟨⟨#[100,49]⟩⟩,⟨⟨#[108,111,103]⟩⟩,⟨⟨#[122,122]⟩⟩]:List Str) ae Z vr sv Z Z (by decide) σ σ H0 (fun b1 w1 e1 g1 H1=>sM Z Z (sC func64 bk Z (aH (H1.box 0 Z) (am (H1.seen 0 Z)) (H1.offb 0 Z 0 Z) ω ω ω) (fun v1 w2 r1=>?_)))))));obtain ⟨⟨e2,hb1⟩,nx1,rfl,ny1⟩:=r1;have H2:=H1.putBox 0 Z e2 hb1
 try dsimp only[lNA,lCA,lSZ,lSS] at H2
 try simp only [List.mem_cons,List.not_mem_nil,or_false] at ny1
 obtain ⟨eb1,eo1,ee1,ec1⟩:=sw (H2.mine 1 Z) nx1.toNat (show _<6 by omega);refine sV Z (aF vr ts9 Z Z ee1 nx1.toNat ω (show _<6 by omega)) (sV Z (ac tu9 Z Z ec1) (rA hQ results123 Z ?_));exact ⟨_,ω,⟨H2.ext,H2.box 0 Z⟩,_,Z,xM (by decide)⟩
theorem kY {w:World}{code:List UInt8}{cA:Option Addr}{cC b:Nat}{cF:List Nat}{ct:Int}(hb:w.heap[b]? = some (.cells [.slice cA code.length cC,.int .i64 ct].toArray 136)) (cO:own false w [.slice cA code.length cC] code cF) (hd:∀ x∈cF,x≠b) (hct:0≤ct∧ct≤690000) (hcl:code.length≤1048576):Ret Tryz.prog 124 #[.pointer (some ⟨b,0,none⟩)] w fun v w'=>(∃ ct':Int,(ct≤ct'∧ct'≤ct+2)∧BoxTo w w' b (.cells [.slice cA code.length cC,.int .i64 ct'].toArray 136)∧∃ x:ByteArray,v = .string x∧x.size≤9):=by
 refine aV func124 Z ntmps124 Z (fun Q hQ hN=>?_);have H0:=(Sep.beginBox hb).look (r:=seen false [.slice cA code.length cC] code cF) cO (fun x hx hm=>hd x hx (by simpa [blocks,Wk.box] using hm));refine ah (sA Z Z (aa (ag (ah (sM Z Z (sC func67 bL Z (aQ (H0.box 0 Z) (am (H0.seen 0 Z)) (H0.offb 0 Z 0 Z) ω ω ω) (fun v1 w1 r1=>?_)))))));obtain ⟨⟨e1,hb1⟩,nx1,rfl,ny1⟩:=r1;have H1:=H0.putBox 0 Z e1 hb1
 try dsimp only[lNA,lCA,lSZ,lSS] at H1
 try simp only [List.mem_cons,List.not_mem_nil,or_false] at ny1
 refine aa (aA Z (fun c1=>?_) (fun c1=>?_))
 ·refine ah (xp ([⟨⟨#[]⟩⟩,⟨⟨#[49,97]⟩⟩,⟨⟨#[65]⟩⟩,⟨⟨#[97,98,99,100,101,102,103,104,105]⟩⟩,⟨⟨#[97,98,99,100,101,102,103,104]⟩⟩,⟨⟨#[97,32,98]⟩⟩,⟨⟨#[97,45]⟩⟩]:List Str) ae Z vr sv Z Z (by decide) σ σ H1 (fun b1 w2 e2 g1 H2=>sM Z Z (sC func64 bk Z (aH (H2.box 0 Z) (am (H2.seen 0 Z)) (H2.offb 0 Z 0 Z) ω ω ω) (fun v2 w3 r2=>?_))));obtain ⟨⟨e3,hb2⟩,nx2,rfl,ny2⟩:=r2;have H3:=H2.putBox 0 Z e3 hb2
  try dsimp only[lNA,lCA,lSZ,lSS] at H3
  try simp only [List.mem_cons,List.not_mem_nil,or_false] at ny2
  obtain ⟨eb1,eo1,ee1,ec1⟩:=sw (H3.mine 1 Z) nx2.toNat (show _<7 by omega);refine sV Z (aF vr ts9 Z Z ee1 nx2.toNat ω (show _<7 by omega)) (sV Z (ac tu9 Z Z ec1) (rA hQ results124 Z ?_));exact ⟨_,ω,⟨H3.ext,H3.box 0 Z⟩,_,Z,xM (by decide)⟩
 ·refine ar (ah (sM Z Z (sC func123 pZ Z (jF (H1.box 0 Z) (am (H1.seen 0 Z)) (H1.offb 0 Z 0 Z) ω ω) (fun v3 w4 r3=>?_))));obtain ⟨ct1,cb1,⟨e5,hb3⟩,nm1,rfl,hnm1⟩:=r3;have H4:=H1.putBox 0 Z e5 hb3
  try dsimp only[lNA,lCA,lSZ,lSS] at H4
  refine rA hQ results124 Z ?_;exact ⟨_,ω,⟨H4.ext,H4.box 0 Z⟩,_,Z,hnm1⟩
end Go.Wk
namespace Go.Wk
open Go.Proofs Rp Go.Proofs.Tryz
set_option maxRecDepth 10000
set_option maxHeartbeats 4000000 in
theorem cP {w:World}{code:List UInt8}{cA:Option Addr}{cC b:Nat}{cF:List Nat}{ct:Int}{s:Shape}(hb:w.heap[b]? = some (.cells [.slice cA code.length cC,.int .i64 ct].toArray 136)) (cO:own false w [.slice cA code.length cC] code cF) (hd:∀ x∈cF,x≠b) (hct:0≤ct∧ct≤500000) (hcl:code.length≤1048576) (hs:s.ok=true):Ret Tryz.prog 68 #[.pointer (some ⟨b,0,none⟩),s.v] w fun v w'=>(∃ ct':Int,(ct≤ct'∧ct'≤ct+100)∧BoxTo w w' b (.cells [.slice cA code.length cC,.int .i64 ct'].toArray 136)∧∃ (r:Rec) (A6:Option Addr) (C6:Nat) (A7:Option Addr) (C7:Nat) (A8:Option Addr) (C8:Nat),v=r.val A6 C6 A7 C7 A8 C8∧r.few∧Res w w' [.int .i64 r.Kind,.int .i64 r.Seq,.string r.Name,.int .i64 r.Length,.int .i64 r.Group,.int .i64 r.Row,.slice A6 r.Rows.length C6,.slice A7 r.Data.length C7,.slice A8 r.Delta.length C8] r):=by
 have sbd:=aZ hs;have hz0:(⟨#[]⟩:ByteArray).size=0:=Z;refine aV func68 Z ntmps68 Z (fun Q hQ hN=>?_);have H0:=(Sep.beginBox hb).look (r:=seen false [.slice cA code.length cC] code cF) cO (fun x hx hm=>hd x hx (by simpa [blocks,Wk.box] using hm));refine ah (bE ae Z Z H0 (fun b1 w1 e1 g1 H1=>bQ ae Z zeroValue47 H1 (fun b2 w2 e2 g2 H2=>aa (ah (sV Z (aj aX Z ba Z Z (At.whole (H2.box 1 Z))) (sE func66 cR Z (bz η) H2 (fun w3 e3 H3=>sA Z Z (aa (ah (sM Z Z (cU ([1,1,2,3,4]) ae Z bn bg Z Z (by intro x hx; unfold I64ok; simp only [List.mem_cons,List.not_mem_nil,or_false] at hx; omega) σ σ H3 (fun b3 w4 e4 g3 H4=>sC func118 bB Z (aR (H4.box 0 Z) (am (H4.seen 0 Z)) (H4.offb 0 Z 0 Z) ω ω (am (H4.mine 3 Z)) (fun x hx e=>H4.apart (i:=0) (j:=3) Z Z Z x hx (by simp [Wk.box,e])) σ) (fun v2 w5 r2=>?_)))))))))))));obtain ⟨⟨e5,hb1⟩,nx1,rfl,ny1⟩:=r2;have H5:=H4.putBox 0 Z e5 hb1
 try dsimp only[lNA,lCA,lSZ,lSS] at H5
 try simp only [List.mem_cons,List.not_mem_nil,or_false] at ny1
 have H5g:=H5.conv 3 gone Z trivial (by simp [gone]) (by simp [gone])
 try dsimp only[lNA,lCA,lSZ,lSS] at H5g
 have ny1B:1≤nx1∧nx1≤4:=by omega
 clear ny1
 refine sM Z Z (sC func64 bk Z (aH (H5g.box 0 Z) (am (H5g.seen 0 Z)) (H5g.offb 0 Z 0 Z) ω ω ω) (fun v3 w6 r3=>?_));obtain ⟨⟨e6,hb2⟩,nx2,rfl,ny2⟩:=r3;have H6:=H5g.putBox 0 Z e6 hb2
 try dsimp only[lNA,lCA,lSZ,lSS] at H6
 try simp only [List.mem_cons,List.not_mem_nil,or_false] at ny2
 refine sV Z (aN Z Z iO) (sV Z (aT dJ Z Z) (bQ ae Z zeroValue47 H6 (fun b4 w7 e7 g4 H7=>aO ae aW Z Z Z Z H7 4 Z Z (fun w8 e8 H8=>?_))));dsimp only[lNA,lCA,lSZ,lSS,aC] at H8;refine aa (hX (γ:=Int × Rec × List Nat) (fun (cc,x,fx)=>[(0,.pointer (some ⟨b,0,none⟩)),(3,.pointer (some ⟨b1,0,none⟩)),(4,.pointer (some ⟨b2,0,none⟩)),(6,.pointer (some ⟨b4,0,none⟩))]) (fun (cc,x,fx) w'=>Sep (· = b) w [box b (.cells [.slice cA code.length cC,.int .i64 cc].toArray 136),box b1 (.cells [.int .i64 s.Groups,.int .i64 s.Column,.int .i64 s.Data,.int .i64 s.Spare,.int .i64 s.Rows,.int .i64 s.Cap,.int .i64 s.Batch,.int .i64 s.Queue,.int .i64 s.Stage].toArray 30),box b2 (.cells [.int .i64 0,.int .i64 0,.string ⟨#[]⟩,.int .i64 0,.int .i64 0,.int .i64 0,.slice none 0 0,.slice none 0 0,.slice none 0 0].toArray 47),hC b4 47 x fx] [seen false [.slice cA code.length cC] code cF] w'∧ct≤cc∧cc≤ct+80∧x.few0) ?_ (fun (cc,x,fx) w9 H9=>?_))
 ·refine ah (sF az Z ts2 (sLd tu2 (H8.box 4 Z) Z (aa (ay (ah (sR 2 Z (aa (aA Z (fun c1=>?_) (fun c1=>?_)))))))))
  ·refine ag ?_
   try unfold Rec.few0 at hfx
   refine aw (sM Z Z (sC func123 pZ Z (jF (H8.box 0 Z) (am (H8.seen 0 Z)) (H8.offb 0 Z 0 Z) ω ω) (fun v4 w10 r4=>?_)));obtain ⟨ct1,cb1,⟨e10,hb3⟩,nm1,rfl,hnm1⟩:=r4;have H10:=H8.putBox 0 Z e10 hb3
   try dsimp only[lNA,lCA,lSZ,lSS] at H10
   refine sF az Z ts9 (bA ae ts9 Z Z Z H10 4 Z Z (fun w11 e11 H11=>?_));dsimp only[lNA,lCA,lSZ,lSS,aC] at H11;refine aa (ah (sR 3 Z (sC func64 bk Z (aH (H11.box 0 Z) (am (H11.seen 0 Z)) (H11.offb 0 Z 0 Z) ω ω ω) (fun v5 w12 r5=>?_))));obtain ⟨⟨e12,hb4⟩,nx3,rfl,ny3⟩:=r5;have H12:=H11.putBox 0 Z e12 hb4
   try dsimp only[lNA,lCA,lSZ,lSS] at H12
   try simp only [List.mem_cons,List.not_mem_nil,or_false] at ny3
   refine sV Z (aN Z Z iO) (sR 2 Z (sC func64 bk Z (aH (H12.box 0 Z) (am (H12.seen 0 Z)) (H12.offb 0 Z 0 Z) ω ω ω) (fun v6 w13 r6=>?_)));obtain ⟨⟨e13,hb5⟩,nx4,rfl,ny4⟩:=r6;have H13:=H12.putBox 0 Z e13 hb5
   try dsimp only[lNA,lCA,lSZ,lSS] at H13
   try simp only [List.mem_cons,List.not_mem_nil,or_false] at ny4
   refine sV Z (aN Z Z iO) (cU ([-1,(1+nx3),(1+nx4)]) ae Z bn bg Z Z (by intro x hx; unfold I64ok; simp only [List.mem_cons,List.not_mem_nil,or_false] at hx; omega) σ σ H13 (fun b5 w14 e14 g5 H14=>sC func118 bB Z (aR (H14.box 0 Z) (am (H14.seen 0 Z)) (H14.offb 0 Z 0 Z) ω ω (am (H14.mine 5 Z)) (fun x hx e=>H14.apart (i:=0) (j:=5) Z Z Z x hx (by simp [Wk.box,e])) σ) (fun v7 w15 r7=>?_)));obtain ⟨⟨e15,hb6⟩,nx5,rfl,ny5⟩:=r7;have H15:=H14.putBox 0 Z e15 hb6
   try dsimp only[lNA,lCA,lSZ,lSS] at H15
   try simp only [List.mem_cons,List.not_mem_nil,or_false] at ny5
   have H15g:=H15.conv 5 gone Z trivial (by simp [gone]) (by simp [gone])
   try dsimp only[lNA,lCA,lSZ,lSS] at H15g
   refine sF az Z ts2 (bA ae ts2 Z Z Z H15g 4 Z Z (fun w16 e16 H16=>?_));dsimp only[lNA,lCA,lSZ,lSS,aC] at H16;refine aa (ah (sF az Z ts2 (sLd tu2 (H16.box 4 Z) Z (sR 2 Z (bZ (t:=39) Z (fun hg1=>?_) (fun hg1=>?_))))))
   ·try simp only [decide_eq_true_eq,decide_eq_false_iff_not] at hg1
    refine ao (wg Z Z Z) Z Z (aM Z) (cW (wg Z Z Z) Z Z (aD func67 Z bL Z) (aQ (H16.box 0 Z) (am (H16.seen 0 Z)) (H16.offb 0 Z 0 Z) ω ω ω) (fun v8 w17 r8=>?_));obtain ⟨⟨e17,hb7⟩,nx6,rfl,ny6⟩:=r8;have H17:=H16.putBox 0 Z e17 hb7
    try dsimp only[lNA,lCA,lSZ,lSS] at H17
    try simp only [List.mem_cons,List.not_mem_nil,or_false] at ny6
    refine sV Z (aG Z Z) (aa (aA Z (fun c2=>?_) (fun c2=>?_)))
    ·refine aw (sM Z Z (sF aX Z ts2 (sLd tu2 (H17.box 1 Z) Z (sC func64 bk Z (aH (H17.box 0 Z) (am (H17.seen 0 Z)) (H17.offb 0 Z 0 Z) ω ω ω) (fun v9 w18 r9=>?_)))));obtain ⟨⟨e18,hb8⟩,nx7,rfl,ny7⟩:=r9;have H18:=H17.putBox 0 Z e18 hb8
     try dsimp only[lNA,lCA,lSZ,lSS] at H18
     try simp only [List.mem_cons,List.not_mem_nil,or_false] at ny7
     refine cU ([nx7]) ae Z bn bg Z Z (by intro x hx; unfold I64ok; simp only [List.mem_cons,List.not_mem_nil,or_false] at hx; omega) σ σ H18 (fun b6 w19 e19 g6 H19=>sF az Z bH (bA ae bH Z Z Z H19 4 Z Z (fun w20 e20 H20=>?_)));dsimp only[lNA,lCA,lSZ,lSS,aC] at H20;refine aa ?_;have H21:=H20.nilW (α:=UInt8)
     try dsimp only[lNA,lCA,lSZ,lSS] at H21
     have H22:=H21.nilW (α:=UInt8)
     try dsimp only[lNA,lCA,lSZ,lSS] at H22
     obtain ⟨cx1,fp1,hcx1,H23⟩:=Rec.closeB H22 4 6 7 8 Z Z Z Z Z Z Z Z Z Z (by unfold Rec.Ok; (try unfold I64ok); (try unfold maxLen); (try dsimp only); omega)
     try dsimp only[lNA,lCA,lSZ,lSS] at H23
     exact ⟨(_,_,_),⟨Z,Z,Z,Z,trivial⟩,H23.sub (.cons_cons _ (.cons_cons _ (.cons_cons _ (.cons _ (.cons_cons _ (.cons _ (.cons _ (.cons _ (.cons _ List.Sublist.slnil))))))))),ω,ω,(by rw [hcx1]; unfold Rec.few0; (try dsimp only); (try simp only [List.length_append,List.length_set,List.length_cons,List.length_nil,List.length_replicate]); omega)⟩
    ·refine ah (sF az Z ts2 (sLd tu2 (H17.box 4 Z) Z (sV Z (eB Z Z) (aa (aA Z (fun c3=>?_) (fun c3=>?_))))))
     ·refine aw (sM Z Z (sF az Z ts2 (sLd tu2 (H17.box 4 Z) Z (sC func65 cz Z (bp (H17.box 0 Z) (am (H17.seen 0 Z)) (H17.offb 0 Z 0 Z) ω ω ⟨(Int.toNat_of_nonneg ω).symm,ω⟩) (fun v10 w21 r10=>?_)))));obtain ⟨ct2,cb2,⟨e22,hb9⟩,ys1,yA1,yC1,rfl,yl1,yr1⟩:=r10;obtain ⟨fp2,H24⟩:=H17.resBox 0 Z e22 hb9 yr1
      try dsimp only[lNA,lCA,lSZ,lSS] at H24
      refine sF az Z bf (bA ae bf Z Z Z H24 4 Z Z (fun w22 e23 H25=>?_));dsimp only[lNA,lCA,lSZ,lSS,aC] at H25;refine aa ?_;have H26:=H25.nilW (α:=Int)
      try dsimp only[lNA,lCA,lSZ,lSS] at H26
      have H27:=H26.nilW (α:=UInt8)
      try dsimp only[lNA,lCA,lSZ,lSS] at H27
      obtain ⟨cx2,fp3,hcx2,H28⟩:=Rec.closeB H27 4 7 6 8 Z Z Z Z Z Z Z Z Z Z (by unfold Rec.Ok; (try unfold I64ok); (try unfold maxLen); (try dsimp only); omega)
      try dsimp only[lNA,lCA,lSZ,lSS] at H28
      exact ⟨(_,_,_),⟨Z,Z,Z,Z,trivial⟩,H28.sub (.cons_cons _ (.cons_cons _ (.cons_cons _ (.cons _ (.cons_cons _ (.cons _ (.cons _ (.cons _ (.cons _ List.Sublist.slnil))))))))),ω,ω,(by rw [hcx2]; unfold Rec.few0; (try dsimp only); (try simp only [List.length_append,List.length_set,List.length_cons,List.length_nil,List.length_replicate]); omega)⟩
     ·refine ar ?_;have H29:=H17.nilW (α:=Int)
      try dsimp only[lNA,lCA,lSZ,lSS] at H29
      have H30:=H29.nilW (α:=UInt8)
      try dsimp only[lNA,lCA,lSZ,lSS] at H30
      have H31:=H30.nilW (α:=UInt8)
      try dsimp only[lNA,lCA,lSZ,lSS] at H31
      obtain ⟨cx3,fp4,hcx3,H32⟩:=Rec.closeB H31 4 6 7 8 Z Z Z Z Z Z Z Z Z Z (by unfold Rec.Ok; (try unfold I64ok); (try unfold maxLen); (try dsimp only); omega)
      try dsimp only[lNA,lCA,lSZ,lSS] at H32
      exact ⟨(_,_,_),⟨Z,Z,Z,Z,trivial⟩,H32.sub (.cons_cons _ (.cons_cons _ (.cons_cons _ (.cons _ (.cons_cons _ (.cons _ (.cons _ (.cons _ (.cons _ List.Sublist.slnil))))))))),ω,ω,(by rw [hcx3]; unfold Rec.few0; (try dsimp only); (try simp only [List.length_append,List.length_set,List.length_cons,List.length_nil,List.length_replicate]); omega)⟩
   ·try simp only [decide_eq_true_eq,decide_eq_false_iff_not] at hg1
    refine sR 2 Z (sV Z (aE Z Z) (aa (dE Z (ah (sF az Z ts2 (sLd tu2 (H16.box 4 Z) Z (sV Z (eB Z Z) (aa (aA Z (fun c4=>?_) (fun c4=>?_))))))))))
    ·refine aw (sM Z Z (sF az Z ts2 (sLd tu2 (H16.box 4 Z) Z (sC func65 cz Z (bp (H16.box 0 Z) (am (H16.seen 0 Z)) (H16.offb 0 Z 0 Z) ω ω ⟨(Int.toNat_of_nonneg ω).symm,ω⟩) (fun v11 w23 r11=>?_)))));obtain ⟨ct3,cb3,⟨e25,hb10⟩,ys2,yA2,yC2,rfl,yl2,yr2⟩:=r11;obtain ⟨fp5,H33⟩:=H16.resBox 0 Z e25 hb10 yr2
     try dsimp only[lNA,lCA,lSZ,lSS] at H33
     refine sF az Z bf (bA ae bf Z Z Z H33 4 Z Z (fun w24 e26 H34=>?_));dsimp only[lNA,lCA,lSZ,lSS,aC] at H34;refine aa ?_;have H35:=H34.nilW (α:=Int)
     try dsimp only[lNA,lCA,lSZ,lSS] at H35
     have H36:=H35.nilW (α:=UInt8)
     try dsimp only[lNA,lCA,lSZ,lSS] at H36
     obtain ⟨cx4,fp6,hcx4,H37⟩:=Rec.closeB H36 4 7 6 8 Z Z Z Z Z Z Z Z Z Z (by unfold Rec.Ok; (try unfold I64ok); (try unfold maxLen); (try dsimp only); omega)
     try dsimp only[lNA,lCA,lSZ,lSS] at H37
     exact ⟨(_,_,_),⟨Z,Z,Z,Z,trivial⟩,H37.sub (.cons_cons _ (.cons_cons _ (.cons_cons _ (.cons _ (.cons_cons _ (.cons _ (.cons _ (.cons _ (.cons _ List.Sublist.slnil))))))))),ω,ω,(by rw [hcx4]; unfold Rec.few0; (try dsimp only); (try simp only [List.length_append,List.length_set,List.length_cons,List.length_nil,List.length_replicate]); omega)⟩
    ·refine ar ?_;have H38:=H16.nilW (α:=Int)
     try dsimp only[lNA,lCA,lSZ,lSS] at H38
     have H39:=H38.nilW (α:=UInt8)
     try dsimp only[lNA,lCA,lSZ,lSS] at H39
     have H40:=H39.nilW (α:=UInt8)
     try dsimp only[lNA,lCA,lSZ,lSS] at H40
     obtain ⟨cx5,fp7,hcx5,H41⟩:=Rec.closeB H40 4 6 7 8 Z Z Z Z Z Z Z Z Z Z (by unfold Rec.Ok; (try unfold I64ok); (try unfold maxLen); (try dsimp only); omega)
     try dsimp only[lNA,lCA,lSZ,lSS] at H41
     exact ⟨(_,_,_),⟨Z,Z,Z,Z,trivial⟩,H41.sub (.cons_cons _ (.cons_cons _ (.cons_cons _ (.cons _ (.cons_cons _ (.cons _ (.cons _ (.cons _ (.cons _ List.Sublist.slnil))))))))),ω,ω,(by rw [hcx5]; unfold Rec.few0; (try dsimp only); (try simp only [List.length_append,List.length_set,List.length_cons,List.length_nil,List.length_replicate]); omega)⟩
  ·refine ah (sR 2 Z (aa (aA Z (fun c5=>?_) (fun c5=>?_))))
   ·refine ag ?_
    try unfold Rec.few0 at hfx
    refine aw (sM Z Z (sF aX Z ts2 (sLd tu2 (H8.box 1 Z) Z (sC func64 bk Z (aH (H8.box 0 Z) (am (H8.seen 0 Z)) (H8.offb 0 Z 0 Z) ω ω ω) (fun v12 w25 r12=>?_)))));obtain ⟨⟨e27,hb11⟩,nx8,rfl,ny8⟩:=r12;have H42:=H8.putBox 0 Z e27 hb11
    try dsimp only[lNA,lCA,lSZ,lSS] at H42
    try simp only [List.mem_cons,List.not_mem_nil,or_false] at ny8
    refine sF az Z ts2 (bA ae ts2 Z Z Z H42 4 Z Z (fun w26 e28 H43=>?_));dsimp only[lNA,lCA,lSZ,lSS,aC] at H43;refine aa (ah (sM Z Z (sF aX Z ts2 (sLd tu2 (H43.box 1 Z) Z (sC func64 bk Z (aH (H43.box 0 Z) (am (H43.seen 0 Z)) (H43.offb 0 Z 0 Z) ω ω ω) (fun v13 w27 r13=>?_))))));obtain ⟨⟨e29,hb12⟩,nx9,rfl,ny9⟩:=r13;have H44:=H43.putBox 0 Z e29 hb12
    try dsimp only[lNA,lCA,lSZ,lSS] at H44
    try simp only [List.mem_cons,List.not_mem_nil,or_false] at ny9
    refine sF az Z ts2 (bA ae ts2 Z Z Z H44 4 Z Z (fun w28 e30 H45=>?_));dsimp only[lNA,lCA,lSZ,lSS,aC] at H45;refine aa (ah (sR 2 Z (sC func65 cz Z (bp (H45.box 0 Z) (am (H45.seen 0 Z)) (H45.offb 0 Z 0 Z) ω ω ⟨(Int.toNat_of_nonneg ω).symm,ω⟩) (fun v14 w29 r14=>?_))));obtain ⟨ct4,cb4,⟨e32,hb13⟩,ys3,yA3,yC3,rfl,yl3,yr3⟩:=r14;obtain ⟨fp8,H46⟩:=H45.resBox 0 Z e32 hb13 yr3
    try dsimp only[lNA,lCA,lSZ,lSS] at H46
    refine sF az Z bf (bA ae bf Z Z Z H46 4 Z Z (fun w30 e33 H47=>?_));dsimp only[lNA,lCA,lSZ,lSS,aC] at H47;refine aa (aw (sR 2 Z (sC func65 cz Z (bp (H47.box 0 Z) (am (H47.seen 0 Z)) (H47.offb 0 Z 0 Z) ω ω ⟨(Int.toNat_of_nonneg ω).symm,ω⟩) (fun v15 w31 r15=>?_))));obtain ⟨ct5,cb5,⟨e35,hb14⟩,ys4,yA4,yC4,rfl,yl4,yr4⟩:=r15;obtain ⟨fp9,H48⟩:=H47.resBox 0 Z e35 hb14 yr4
    try dsimp only[lNA,lCA,lSZ,lSS] at H48
    refine sF az Z bf (bA ae bf Z Z Z H48 4 Z Z (fun w32 e36 H49=>?_));dsimp only[lNA,lCA,lSZ,lSS,aC] at H49;refine aa ?_;have H50:=H49.nilW (α:=Int)
    try dsimp only[lNA,lCA,lSZ,lSS] at H50
    obtain ⟨cx6,fp10,hcx6,H51⟩:=Rec.closeB H50 4 7 5 6 Z Z Z Z Z Z Z Z Z Z (by unfold Rec.Ok; (try unfold I64ok); (try unfold maxLen); (try dsimp only); omega)
    try dsimp only[lNA,lCA,lSZ,lSS] at H51
    exact ⟨(_,_,_),⟨Z,Z,Z,Z,trivial⟩,H51.sub (.cons_cons _ (.cons_cons _ (.cons_cons _ (.cons _ (.cons_cons _ (.cons _ (.cons _ (.cons _ List.Sublist.slnil)))))))),ω,ω,(by rw [hcx6]; unfold Rec.few0; (try dsimp only); (try simp only [List.length_append,List.length_set,List.length_cons,List.length_nil,List.length_replicate]); omega)⟩
   ·refine ah (sR 2 Z (aa (aA Z (fun c6=>?_) (fun c6=>?_))))
    ·try unfold Rec.few0 at hfx
     refine aw (sM Z Z (sV Z (aj aX Z ba Z Z (At.whole (H8.box 1 Z))) (sE func116 cN Z (bM η) H8 (fun w33 e37 H52=>sC func64 bk Z (aH (H52.box 0 Z) (am (H52.seen 0 Z)) (H52.offb 0 Z 0 Z) ω ω ω) (fun v17 w34 r17=>?_)))));obtain ⟨⟨e38,hb15⟩,nx10,rfl,ny10⟩:=r17;have H53:=H52.putBox 0 Z e38 hb15
     try dsimp only[lNA,lCA,lSZ,lSS] at H53
     try simp only [List.mem_cons,List.not_mem_nil,or_false] at ny10
     refine sF az Z ts2 (bA ae ts2 Z Z Z H53 4 Z Z (fun w35 e39 H54=>?_));dsimp only[lNA,lCA,lSZ,lSS,aC] at H54;refine aa ?_;have H55:=H54.nilW (α:=Int)
     try dsimp only[lNA,lCA,lSZ,lSS] at H55
     have H56:=H55.nilW (α:=UInt8)
     try dsimp only[lNA,lCA,lSZ,lSS] at H56
     have H57:=H56.nilW (α:=UInt8)
     try dsimp only[lNA,lCA,lSZ,lSS] at H57
     obtain ⟨cx7,fp11,hcx7,H58⟩:=Rec.closeB H57 4 5 6 7 Z Z Z Z Z Z Z Z Z Z (by unfold Rec.Ok; (try unfold I64ok); (try unfold maxLen); (try dsimp only); omega)
     try dsimp only[lNA,lCA,lSZ,lSS] at H58
     exact ⟨(_,_,_),⟨Z,Z,Z,Z,trivial⟩,H58.sub (.cons_cons _ (.cons_cons _ (.cons_cons _ (.cons _ (.cons_cons _ (.cons _ (.cons _ (.cons _ List.Sublist.slnil)))))))),ω,ω,(by rw [hcx7]; unfold Rec.few0; (try dsimp only); (try simp only [List.length_append,List.length_set,List.length_cons,List.length_nil,List.length_replicate]); omega)⟩
    ·refine ah (sR 2 Z (aa (aA Z (fun c7=>?_) (fun c7=>?_))))
     ·refine ag ?_
      try unfold Rec.few0 at hfx
      refine aw (sM Z Z (sV Z (aj aX Z ba Z Z (At.whole (H8.box 1 Z))) (sE func116 cN Z (bM η) H8 (fun w36 e40 H59=>sC func64 bk Z (aH (H59.box 0 Z) (am (H59.seen 0 Z)) (H59.offb 0 Z 0 Z) ω ω ω) (fun v19 w37 r19=>?_)))));obtain ⟨⟨e41,hb16⟩,nx11,rfl,ny11⟩:=r19;have H60:=H59.putBox 0 Z e41 hb16
      try dsimp only[lNA,lCA,lSZ,lSS] at H60
      try simp only [List.mem_cons,List.not_mem_nil,or_false] at ny11
      refine sF az Z ts2 (bA ae ts2 Z Z Z H60 4 Z Z (fun w38 e42 H61=>?_));dsimp only[lNA,lCA,lSZ,lSS,aC] at H61;refine aa (ah (sM Z Z (sF aX Z ts2 (sLd tu2 (H61.box 1 Z) Z (sC func64 bk Z (aH (H61.box 0 Z) (am (H61.seen 0 Z)) (H61.offb 0 Z 0 Z) ω ω ω) (fun v20 w39 r20=>?_))))));obtain ⟨⟨e43,hb17⟩,nx12,rfl,ny12⟩:=r20;have H62:=H61.putBox 0 Z e43 hb17
      try dsimp only[lNA,lCA,lSZ,lSS] at H62
      try simp only [List.mem_cons,List.not_mem_nil,or_false] at ny12
      refine sF az Z ts2 (bA ae ts2 Z Z Z H62 4 Z Z (fun w40 e44 H63=>?_));dsimp only[lNA,lCA,lSZ,lSS,aC] at H63;refine aa (ag ?_);obtain ⟨na,hna⟩:∃ n:Nat,s.Groups+s.Column=n:=⟨(s.Groups+s.Column).toNat,ω⟩;refine aw (sV Z (aj aX Z ba Z Z (At.whole (H63.box 1 Z))) (sE func116 cN Z (mz η) H63 (fun w41 e45 H64=>mh ae Z bc bW lV Z ω (by unfold maxLen; omega) H64 (fun b7 w42 e46 g7 H65=>sF az Z bf (bA ae bf Z Z Z H65 4 Z Z (fun w43 e47 H66=>?_))))));dsimp only[lNA,lCA,lSZ,lSS,aC] at H66;refine aa (ag (ah (sA Z Z (aa (ay ?_)))));have H67:=H66.nilW (α:=Int)
      try dsimp only[lNA,lCA,lSZ,lSS] at H67
      have H68:=H67.nilW (α:=UInt8)
      try dsimp only[lNA,lCA,lSZ,lSS] at H68
      obtain ⟨cx8,fp12,hcx8,H69⟩:=Rec.closeB H68 4 6 7 5 Z Z Z Z Z Z Z Z Z Z (by unfold Rec.Ok; (try unfold I64ok); (try unfold maxLen); (try dsimp only); omega)
      try dsimp only[lNA,lCA,lSZ,lSS] at H69
      refine cp (γ:=Nat × Int × Rec × List Nat) (fun (k,cc,x,fx)=>[(0,.pointer (some ⟨b,0,none⟩)),(3,.pointer (some ⟨b1,0,none⟩)),(4,.pointer (some ⟨b2,0,none⟩)),(6,.pointer (some ⟨b4,0,none⟩)),(5,.int .i64 (s.Data*4)),(7,.int .i64 k)]) (fun (k,cc,x,fx) w'=>Sep (· = b) w [box b (.cells [.slice cA code.length cC,.int .i64 cc].toArray 136),box b1 (.cells [.int .i64 s.Groups,.int .i64 s.Column,.int .i64 s.Data,.int .i64 s.Spare,.int .i64 s.Rows,.int .i64 s.Cap,.int .i64 s.Batch,.int .i64 s.Queue,.int .i64 s.Stage].toArray 30),box b2 (.cells [.int .i64 0,.int .i64 0,.string ⟨#[]⟩,.int .i64 0,.int .i64 0,.int .i64 0,.slice none 0 0,.slice none 0 0,.slice none 0 0].toArray 47),hC b4 47 x fx] _ w'∧(k:Int)≤s.Groups+s.Column∧ct≤cc∧cc≤ct+10+3*k∧x.few0∧(x.Delta.length:Int)=s.Groups+s.Column∧x.Rows.length≤k) (fun (k,cc,x,fx)=>(s.Groups+s.Column).toNat-k) (0,_,_,_) ⟨Z,Z,Z,Z,Z,Z,trivial⟩ ⟨H69.sub (.cons_cons _ (.cons_cons _ (.cons_cons _ (.cons _ (.cons_cons _ (.cons _ (.cons _ (.cons _ List.Sublist.slnil)))))))),by (try dsimp only); omega,by (try dsimp only); omega,by (try dsimp only); omega,(by rw [hcx8]; unfold Rec.few0; (try dsimp only); (try simp only [List.length_append,List.length_set,List.length_cons,List.length_nil,List.length_replicate]); omega),(by (try dsimp only); rw [hcx8]; (try dsimp only); (try simp only [List.length_append,List.length_set,List.length_cons,List.length_nil,List.length_replicate]); omega),(by (try dsimp only); rw [hcx8]; simp)⟩ (fun (k,cc,x,fx) w44 H70=>?_);obtain ⟨H70,hk,hc1,hc2,hfx,hdl,hrl⟩:=H70;refine ag (ah (sM Z Z (sV Z (aj aX Z ba Z Z (At.whole (H70.box 1 Z))) (sE func116 cN Z (bM η) H70 (fun w45 e48 H71=>sV Z (bq Z Z) (aa (aA Z (fun c8=>?_) (fun c8=>?_))))))))
      ·refine ar (ag (ay (ag (ag ?_))));obtain ⟨bc1,bf1,bo1,H72⟩:=H71.open3 3 Z
       try dsimp only[lNA,lCA,lSZ,lSS] at H72
       obtain ⟨bA1,bC1,bA2,bC2,bA3,bC3,bg1,bg2,bg3,rfl,rfl,bk1,bw1,bw2,bw3⟩:=bN bo1;have H73:=H72.part 5 Z [mine [.slice bA1 x.Rows.length bC1] x.Rows bg1,mine [.slice bA2 x.Data.length bC2] x.Data bg2,mine [.slice bA3 x.Delta.length bC3] x.Delta bg3] (aq bw1 (aq bw2 (aq bw3 σ))) (by simp [blocks,mine])
       try dsimp only[lNA,lCA,lSZ,lSS] at H73
       have bk1U:=bk1;unfold Rec.Ok at bk1U
       try unfold I64ok at bk1U
       try unfold maxLen at bk1U
       try unfold Rec.few0 at hfx
       refine aw (sM Z Z (sF az Z ts2 (sLd tu2 (H73.box 3 Z) Z (sR 2 Z (bZ (t:=110) Z (fun hg2=>?_) (fun hg2=>?_))))))
       ·try simp only [decide_eq_true_eq,decide_eq_false_iff_not] at hg2
        refine sR 2 Z (sV Z (aG Z Z) (aa (dz Z (bd (aw (sM Z Z (sV Z (aN Z Z iO) (sA Z Z (aa ?_)))))))));obtain ⟨cx9,fp13,hcx9,H74⟩:=Rec.closeB H73 3 6 7 8 Z Z Z Z Z Z Z Z Z Z (by unfold Rec.Ok; (try unfold I64ok); (try unfold maxLen); (try dsimp only); omega)
        try dsimp only[lNA,lCA,lSZ,lSS] at H74
        exact ⟨(k+1,_,_,_),⟨Z,Z,Z,Z,Z,Z,trivial⟩,⟨H74.sub (.cons_cons _ (.cons_cons _ (.cons_cons _ (.cons_cons _ (.cons _ (.cons _ (.cons _ (.cons _ (.cons _ List.Sublist.slnil))))))))),by (try dsimp only); omega,by (try dsimp only); omega,by (try dsimp only); omega,(by rw [hcx9]; unfold Rec.few0; (try dsimp only); (try simp only [List.length_append,List.length_set,List.length_cons,List.length_nil,List.length_replicate]); omega),(by (try dsimp only); rw [hcx9]; (try dsimp only); (try simp only [List.length_append,List.length_set,List.length_cons,List.length_nil,List.length_replicate]); omega),(by (try dsimp only); rw [hcx9]; (try dsimp only); (try simp only [List.length_append,List.length_set,List.length_cons,List.length_nil,List.length_replicate]); omega)⟩,θ⟩
       ·try simp only [decide_eq_true_eq,decide_eq_false_iff_not] at hg2
        refine ao (wg Z Z Z) Z Z (aM Z) (cW (wg Z Z Z) Z Z (aD func67 Z bL Z) (aQ (H73.box 0 Z) (am (H73.seen 0 Z)) (H73.offb 0 Z 0 Z) ω ω ω) (fun v23 w46 r23=>?_));obtain ⟨⟨e49,hb18⟩,nx13,rfl,ny13⟩:=r23;have H75:=H73.putBox 0 Z e49 hb18
        try dsimp only[lNA,lCA,lSZ,lSS] at H75
        try simp only [List.mem_cons,List.not_mem_nil,or_false] at ny13
        refine sV Z (aE Z Z) (aa (aA Z (fun c9=>?_) (fun c9=>?_)))
        ·refine bd (aw (sM Z Z (sV Z (aN Z Z iO) (sA Z Z (aa ?_)))));obtain ⟨cx10,fp14,hcx10,H76⟩:=Rec.closeB H75 3 6 7 8 Z Z Z Z Z Z Z Z Z Z (by unfold Rec.Ok; (try unfold I64ok); (try unfold maxLen); (try dsimp only); omega)
         try dsimp only[lNA,lCA,lSZ,lSS] at H76
         exact ⟨(k+1,_,_,_),⟨Z,Z,Z,Z,Z,Z,trivial⟩,⟨H76.sub (.cons_cons _ (.cons_cons _ (.cons_cons _ (.cons_cons _ (.cons _ (.cons _ (.cons _ (.cons _ (.cons _ List.Sublist.slnil))))))))),by (try dsimp only); omega,by (try dsimp only); omega,by (try dsimp only); omega,(by rw [hcx10]; unfold Rec.few0; (try dsimp only); (try simp only [List.length_append,List.length_set,List.length_cons,List.length_nil,List.length_replicate]); omega),(by (try dsimp only); rw [hcx10]; (try dsimp only); (try simp only [List.length_append,List.length_set,List.length_cons,List.length_nil,List.length_replicate]); omega),(by (try dsimp only); rw [hcx10]; (try dsimp only); (try simp only [List.length_append,List.length_set,List.length_cons,List.length_nil,List.length_replicate]); omega)⟩,θ⟩
        ·refine ar (ag ?_);obtain ⟨eb1,eo1,ee1,ec1,em1⟩:=pp (H75.mine 8 Z) k ω;refine bv (S:=H75.S2 0 0) (oQ [1,3,5,7,8,11,13,15,16]) κ κ κ Z (fun _=>show H75.S2 0 0 _ from Ext.refl.drawn _) (fun q1=>?_);have H77:=H75.drawn q1;refine dV Z Z (fun zw hx=>ab az Z bf Z Z) (dV Z Z (fun zw hx=>ac bc Z Z (ak (H75.s2Box hx 3 Z Z Z Z Z) Z)) (dR 2 Z (bi Z ae Z Z (aD func64 Z bk Z) (aH (H77.box 0 Z) (am (H77.seen 0 Z)) (H77.offb 0 Z 0 Z) ω ω ω) (fun hS _ _ r _=>H75.s2Bx hS Z r.1) (fun v24 w47 r24=>?_))));obtain ⟨⟨e50,hb19⟩,nx14,rfl,ny14⟩:=r24;have H78:=H77.putBox 0 Z e50 hb19
         try dsimp only[lNA,lCA,lSZ,lSS] at H78
         try simp only [List.mem_cons,List.not_mem_nil,or_false] at ny14
         refine dV Z Z (fun zw hx=>gD tu2 tu5 Z) (dV Z Z (fun zw hx=>yx (a:=1) Z Z) (dV Z Z (fun zw hx=>aF bc ts5 Z Z ee1 k ω ω) (xQ Z ae ts5 Z H78 8 Z k ω Z ee1 Z jv (fun _ _ _ hr=>absurd Z hr) (fun w48 fp15 e51 H79=>aS (ah (sM Z Z (sC func67 bL Z (aQ (H79.box 0 Z) (am (H79.seen 0 Z)) (H79.offb 0 Z 0 Z) ω ω ω) (fun v25 w49 r25=>?_))))))));obtain ⟨⟨e52,hb20⟩,nx15,rfl,ny15⟩:=r25;have H80:=H79.putBox 0 Z e52 hb20
         try dsimp only[lNA,lCA,lSZ,lSS] at H80
         try simp only [List.mem_cons,List.not_mem_nil,or_false] at ny15
         refine aa (aA Z (fun c10=>?_) (fun c10=>?_))
         ·refine aw (sF az Z bH (sLd bn (H80.box 3 Z) Z (sM Z Z (cU ([(k:Int)]) ae Z bn bg Z Z (by intro x hx; unfold I64ok; simp only [List.mem_cons,List.not_mem_nil,or_false] at hx; omega) σ σ H80 (fun b8 w50 e53 g8 H81=>iX ae Z bn bg Z Z Z H81 6 Z (H81.mine 9 Z) (by (try simp only [List.length_append,List.length_nil,List.length_cons]); unfold maxLen; omega) (by (try simp only [List.length_append,List.length_nil,List.length_cons]); omega) (fun v26 w51 fp16 H82=>sV Z (ab az Z bH Z Z) ?_))))));obtain ⟨a1,k1,q2⟩:=ax (H82.mine 6 Z);cases q2;refine bA ae bH Z Z Z H82 3 Z Z (fun w52 e54 H83=>?_);dsimp only[lNA,lCA,lSZ,lSS,aC] at H83;refine aa (aw (sM Z Z (sV Z (aN Z Z iO) (sA Z Z (aa ?_)))));obtain ⟨cx11,fp17,hcx11,H84⟩:=Rec.closeB H83 3 6 7 8 Z Z Z Z Z Z Z Z Z Z (by unfold Rec.Ok; (try unfold I64ok); (try unfold maxLen); (try dsimp only); omega)
          try dsimp only[lNA,lCA,lSZ,lSS] at H84
          exact ⟨(k+1,_,_,_),⟨Z,Z,Z,Z,Z,Z,trivial⟩,⟨H84.sub (.cons_cons _ (.cons_cons _ (.cons_cons _ (.cons_cons _ (.cons _ (.cons _ (.cons _ (.cons _ (.cons _ (.cons _ List.Sublist.slnil)))))))))),by (try dsimp only); omega,by (try dsimp only); omega,by (try dsimp only); omega,(by rw [hcx11]; unfold Rec.few0; (try dsimp only); (try simp only [List.length_append,List.length_set,List.length_cons,List.length_nil,List.length_replicate]); omega),(by (try dsimp only); rw [hcx11]; (try dsimp only); (try simp only [List.length_append,List.length_set,List.length_cons,List.length_nil,List.length_replicate]); omega),(by (try dsimp only); rw [hcx11]; (try dsimp only); (try simp only [List.length_append,List.length_set,List.length_cons,List.length_nil,List.length_replicate]); omega)⟩,θ⟩
         ·refine ar (aw (sM Z Z (sV Z (aN Z Z iO) (sA Z Z (aa ?_)))));obtain ⟨cx12,fp18,hcx12,H85⟩:=Rec.closeB H80 3 6 7 8 Z Z Z Z Z Z Z Z Z Z (by unfold Rec.Ok; (try unfold I64ok); (try unfold maxLen); (try dsimp only); omega)
          try dsimp only[lNA,lCA,lSZ,lSS] at H85
          exact ⟨(k+1,_,_,_),⟨Z,Z,Z,Z,Z,Z,trivial⟩,⟨H85.sub (.cons_cons _ (.cons_cons _ (.cons_cons _ (.cons_cons _ (.cons _ (.cons _ (.cons _ (.cons _ (.cons _ List.Sublist.slnil))))))))),by (try dsimp only); omega,by (try dsimp only); omega,by (try dsimp only); omega,(by rw [hcx12]; unfold Rec.few0; (try dsimp only); (try simp only [List.length_append,List.length_set,List.length_cons,List.length_nil,List.length_replicate]); omega),(by (try dsimp only); rw [hcx12]; (try dsimp only); (try simp only [List.length_append,List.length_set,List.length_cons,List.length_nil,List.length_replicate]); omega),(by (try dsimp only); rw [hcx12]; (try dsimp only); (try simp only [List.length_append,List.length_set,List.length_cons,List.length_nil,List.length_replicate]); omega)⟩,θ⟩
      ·refine bd ?_;obtain ⟨bc2,bf2,bo2,H86⟩:=H71.open3 3 Z
       try dsimp only[lNA,lCA,lSZ,lSS] at H86
       obtain ⟨bA4,bC4,bA5,bC5,bA6,bC6,bg4,bg5,bg6,rfl,rfl,bk2,bw4,bw5,bw6⟩:=bN bo2;have H87:=H86.part 5 Z [mine [.slice bA4 x.Rows.length bC4] x.Rows bg4,mine [.slice bA5 x.Data.length bC5] x.Data bg5,mine [.slice bA6 x.Delta.length bC6] x.Delta bg6] (aq bw4 (aq bw5 (aq bw6 σ))) (by simp [blocks,mine])
       try dsimp only[lNA,lCA,lSZ,lSS] at H87
       have bk2U:=bk2;unfold Rec.Ok at bk2U
       try unfold I64ok at bk2U
       try unfold maxLen at bk2U
       try unfold Rec.few0 at hfx
       refine aw (sR 2 Z (sC func65 cz Z (bp (H87.box 0 Z) (am (H87.seen 0 Z)) (H87.offb 0 Z 0 Z) ω ω ⟨(Int.toNat_of_nonneg ω).symm,ω⟩) (fun v27 w53 r26=>?_)));obtain ⟨ct6,cb6,⟨e56,hb21⟩,ys5,yA5,yC5,rfl,yl5,yr5⟩:=r26;obtain ⟨fp19,H88⟩:=H87.resBox 0 Z e56 hb21 yr5
       try dsimp only[lNA,lCA,lSZ,lSS] at H88
       refine sF az Z bf (bA ae bf Z Z Z H88 3 Z Z (fun w54 e57 H89=>?_));dsimp only[lNA,lCA,lSZ,lSS,aC] at H89;refine aa ?_;obtain ⟨cx13,fp20,hcx13,H90⟩:=Rec.closeB H89 3 6 9 8 Z Z Z Z Z Z Z Z Z Z (by unfold Rec.Ok; (try unfold I64ok); (try unfold maxLen); (try dsimp only); omega)
       try dsimp only[lNA,lCA,lSZ,lSS] at H90
       exact ⟨(_,_,_),⟨Z,Z,Z,Z,trivial⟩,H90.sub (.cons_cons _ (.cons_cons _ (.cons_cons _ (.cons_cons _ (.cons _ (.cons _ (.cons _ (.cons _ (.cons _ (.cons _ List.Sublist.slnil)))))))))),ω,ω,(by rw [hcx13]; unfold Rec.few0; (try dsimp only); (try simp only [List.length_append,List.length_set,List.length_cons,List.length_nil,List.length_replicate]); omega)⟩
     ·refine ar ?_;have H91:=H8.nilW (α:=Int)
      try dsimp only[lNA,lCA,lSZ,lSS] at H91
      have H92:=H91.nilW (α:=UInt8)
      try dsimp only[lNA,lCA,lSZ,lSS] at H92
      have H93:=H92.nilW (α:=UInt8)
      try dsimp only[lNA,lCA,lSZ,lSS] at H93
      obtain ⟨cx14,fp21,hcx14,H94⟩:=Rec.closeB H93 4 5 6 7 Z Z Z Z Z Z Z Z Z Z (by unfold Rec.Ok; (try unfold I64ok); (try unfold maxLen); (try dsimp only); omega)
      try dsimp only[lNA,lCA,lSZ,lSS] at H94
      exact ⟨(_,_,_),⟨Z,Z,Z,Z,trivial⟩,H94.sub (.cons_cons _ (.cons_cons _ (.cons_cons _ (.cons _ (.cons_cons _ (.cons _ (.cons _ (.cons _ List.Sublist.slnil)))))))),ω,ω,(by rw [hcx14]; unfold Rec.few0; (try dsimp only); (try simp only [List.length_append,List.length_set,List.length_cons,List.length_nil,List.length_replicate]); omega)⟩
 ·obtain ⟨H9,hc1,hc2,hfx⟩:=H9;refine ag (ah (sM Z Z (sC func67 bL Z (aQ (H9.box 0 Z) (am (H9.seen 0 Z)) (H9.offb 0 Z 0 Z) ω ω ω) (fun v28 w55 r27=>?_))));obtain ⟨⟨e58,hb22⟩,nx16,rfl,ny16⟩:=r27;have H95:=H9.putBox 0 Z e58 hb22
  try dsimp only[lNA,lCA,lSZ,lSS] at H95
  try simp only [List.mem_cons,List.not_mem_nil,or_false] at ny16
  refine aa (aA Z (fun c11=>?_) (fun c11=>?_))
  ·refine ah (sM Z Z (sC func64 bk Z (aH (H95.box 0 Z) (am (H95.seen 0 Z)) (H95.offb 0 Z 0 Z) ω ω ω) (fun v29 w56 r28=>?_)));obtain ⟨⟨e59,hb23⟩,nx17,rfl,ny17⟩:=r28;have H96:=H95.putBox 0 Z e59 hb23
   try dsimp only[lNA,lCA,lSZ,lSS] at H96
   try simp only [List.mem_cons,List.not_mem_nil,or_false] at ny17
   refine aa (ay (ah (sR 2 Z (aa (aA Z (fun c12=>?_) (fun c12=>?_))))))
   ·obtain ⟨bc3,bf3,bo3,H97⟩:=H96.open3 3 Z
    try dsimp only[lNA,lCA,lSZ,lSS] at H97
    obtain ⟨bA7,bC7,bA8,bC8,bA9,bC9,bg7,bg8,bg9,rfl,rfl,bk3,bw7,bw8,bw9⟩:=bN bo3;have H98:=H97.part 5 Z [mine [.slice bA7 x.Rows.length bC7] x.Rows bg7,mine [.slice bA8 x.Data.length bC8] x.Data bg8,mine [.slice bA9 x.Delta.length bC9] x.Delta bg9] (aq bw7 (aq bw8 (aq bw9 σ))) (by simp [blocks,mine])
    try dsimp only[lNA,lCA,lSZ,lSS] at H98
    have bk3U:=bk3;unfold Rec.Ok at bk3U
    try unfold I64ok at bk3U
    try unfold maxLen at bk3U
    try unfold Rec.few0 at hfx
    refine aw (sM Z Z (cU ([0,5,1,2,3,4]) ae Z bn bg Z Z (by intro x hx; unfold I64ok; simp only [List.mem_cons,List.not_mem_nil,or_false] at hx; omega) σ σ H98 (fun b9 w57 e60 g9 H99=>sC func118 bB Z (aR (H99.box 0 Z) (am (H99.seen 0 Z)) (H99.offb 0 Z 0 Z) ω ω (am (H99.mine 9 Z)) (fun x hx e=>H99.apart (i:=0) (j:=9) Z Z Z x hx (by simp [Wk.box,e])) σ) (fun v30 w58 r29=>?_))));obtain ⟨⟨e61,hb24⟩,nx18,rfl,ny18⟩:=r29;have H100:=H99.putBox 0 Z e61 hb24
    try dsimp only[lNA,lCA,lSZ,lSS] at H100
    try simp only [List.mem_cons,List.not_mem_nil,or_false] at ny18
    have H100g:=H100.conv 9 gone Z trivial (by simp [gone]) (by simp [gone])
    try dsimp only[lNA,lCA,lSZ,lSS] at H100g
    have ny18B:0≤nx18∧nx18≤5:=by omega
    clear ny18
    refine sF az Z ts2 (bA ae ts2 Z Z Z H100g 3 Z Z (fun w59 e62 H101=>?_));dsimp only[lNA,lCA,lSZ,lSS,aC] at H101;refine aa (ag ?_);obtain ⟨cx15,fp22,hcx15,H102⟩:=Rec.closeB H101 3 6 7 8 Z Z Z Z Z Z Z Z Z Z (by unfold Rec.Ok; (try unfold I64ok); (try unfold maxLen); (try dsimp only); omega)
    try dsimp only[lNA,lCA,lSZ,lSS] at H102
    have hfw1:cx15.few:=(by rw [hcx15]; unfold Rec.few; (try dsimp only); (try simp only [List.length_append,List.length_set,List.length_cons,List.length_nil,List.length_replicate]); omega);obtain ⟨bc4,bf4,bo4,H103⟩:=H102.open3 3 Z
    try dsimp only[lNA,lCA,lSZ,lSS] at H103
    obtain ⟨bA10,bC10,bA11,bC11,bA12,bC12,bg10,bg11,bg12,rfl,rfl,bk4,bw10,bw11,bw12⟩:=bN bo4;have H104:=H103.part 11 Z [mine [.slice bA10 cx15.Rows.length bC10] cx15.Rows bg10,mine [.slice bA11 cx15.Data.length bC11] cx15.Data bg11,mine [.slice bA12 cx15.Delta.length bC12] cx15.Delta bg12] (aq bw10 (aq bw11 (aq bw12 σ))) (by simp [blocks,mine])
    try dsimp only[lNA,lCA,lSZ,lSS] at H104
    have bk4U:=bk4;unfold Rec.Ok at bk4U
    try unfold I64ok at bk4U
    try unfold maxLen at bk4U
    refine aw (sV Z (aj az Z aW Z Z (At.whole (H104.box 3 Z))) (aO ae aW Z Z Z Z H104 2 Z Z (fun w60 e63 H105=>?_)));dsimp only[lNA,lCA,lSZ,lSS,aC] at H105;refine aa (bl (hQ _ _ (cq results68 Z (au az Z aW Z (At.whole (H105.box 2 Z))) ?_)));exact ⟨_,ω,⟨H105.ext,H105.box 0 Z⟩,cx15,_,_,_,_,_,_,Z,hfw1,H105.res3 0 12 13 14 Z Z Z Z Z Z Z Z Z Z (fun w o1 o2 o3=>Rec.own_mk (cu hfw1) o1 o2 o3)⟩
   ·refine ah (sR 2 Z (aa (aA Z (fun c13=>?_) (fun c13=>?_))))
    ·obtain ⟨bc5,bf5,bo5,H106⟩:=H96.open3 3 Z
     try dsimp only[lNA,lCA,lSZ,lSS] at H106
     obtain ⟨bA13,bC13,bA14,bC14,bA15,bC15,bg13,bg14,bg15,rfl,rfl,bk5,bw13,bw14,bw15⟩:=bN bo5;have H107:=H106.part 5 Z [mine [.slice bA13 x.Rows.length bC13] x.Rows bg13,mine [.slice bA14 x.Data.length bC14] x.Data bg14,mine [.slice bA15 x.Delta.length bC15] x.Delta bg15] (aq bw13 (aq bw14 (aq bw15 σ))) (by simp [blocks,mine])
     try dsimp only[lNA,lCA,lSZ,lSS] at H107
     have bk5U:=bk5;unfold Rec.Ok at bk5U
     try unfold I64ok at bk5U
     try unfold maxLen at bk5U
     try unfold Rec.few0 at hfx
     refine aw (sM Z Z (cU ([0,1000000000,1000000001]) ae Z bn bg Z Z (by intro x hx; unfold I64ok; simp only [List.mem_cons,List.not_mem_nil,or_false] at hx; omega) σ σ H107 (fun b10 w61 e64 g10 H108=>sC func118 bB Z (aR (H108.box 0 Z) (am (H108.seen 0 Z)) (H108.offb 0 Z 0 Z) ω ω (am (H108.mine 9 Z)) (fun x hx e=>H108.apart (i:=0) (j:=9) Z Z Z x hx (by simp [Wk.box,e])) σ) (fun v31 w62 r30=>?_))));obtain ⟨⟨e65,hb25⟩,nx19,rfl,ny19⟩:=r30;have H109:=H108.putBox 0 Z e65 hb25
     try dsimp only[lNA,lCA,lSZ,lSS] at H109
     try simp only [List.mem_cons,List.not_mem_nil,or_false] at ny19
     have H109g:=H109.conv 9 gone Z trivial (by simp [gone]) (by simp [gone])
     try dsimp only[lNA,lCA,lSZ,lSS] at H109g
     have ny19B:0≤nx19∧nx19≤1000000001:=by omega
     clear ny19
     refine sF az Z ts2 (bA ae ts2 Z Z Z H109g 3 Z Z (fun w63 e66 H110=>?_));dsimp only[lNA,lCA,lSZ,lSS,aC] at H110;refine aa (ag ?_);obtain ⟨cx16,fp23,hcx16,H111⟩:=Rec.closeB H110 3 6 7 8 Z Z Z Z Z Z Z Z Z Z (by unfold Rec.Ok; (try unfold I64ok); (try unfold maxLen); (try dsimp only); omega)
     try dsimp only[lNA,lCA,lSZ,lSS] at H111
     have hfw2:cx16.few:=(by rw [hcx16]; unfold Rec.few; (try dsimp only); (try simp only [List.length_append,List.length_set,List.length_cons,List.length_nil,List.length_replicate]); omega);obtain ⟨bc6,bf6,bo6,H112⟩:=H111.open3 3 Z
     try dsimp only[lNA,lCA,lSZ,lSS] at H112
     obtain ⟨bA16,bC16,bA17,bC17,bA18,bC18,bg16,bg17,bg18,rfl,rfl,bk6,bw16,bw17,bw18⟩:=bN bo6;have H113:=H112.part 11 Z [mine [.slice bA16 cx16.Rows.length bC16] cx16.Rows bg16,mine [.slice bA17 cx16.Data.length bC17] cx16.Data bg17,mine [.slice bA18 cx16.Delta.length bC18] cx16.Delta bg18] (aq bw16 (aq bw17 (aq bw18 σ))) (by simp [blocks,mine])
     try dsimp only[lNA,lCA,lSZ,lSS] at H113
     have bk6U:=bk6;unfold Rec.Ok at bk6U
     try unfold I64ok at bk6U
     try unfold maxLen at bk6U
     refine aw (sV Z (aj az Z aW Z Z (At.whole (H113.box 3 Z))) (aO ae aW Z Z Z Z H113 2 Z Z (fun w64 e67 H114=>?_)));dsimp only[lNA,lCA,lSZ,lSS,aC] at H114;refine aa (bl (hQ _ _ (cq results68 Z (au az Z aW Z (At.whole (H114.box 2 Z))) ?_)));exact ⟨_,ω,⟨H114.ext,H114.box 0 Z⟩,cx16,_,_,_,_,_,_,Z,hfw2,H114.res3 0 12 13 14 Z Z Z Z Z Z Z Z Z Z (fun w o1 o2 o3=>Rec.own_mk (cu hfw2) o1 o2 o3)⟩
    ·refine ah (sR 2 Z (aa (aA Z (fun c14=>?_) (fun c14=>?_))))
     ·obtain ⟨bc7,bf7,bo7,H115⟩:=H96.open3 3 Z
      try dsimp only[lNA,lCA,lSZ,lSS] at H115
      obtain ⟨bA19,bC19,bA20,bC20,bA21,bC21,bg19,bg20,bg21,rfl,rfl,bk7,bw19,bw20,bw21⟩:=bN bo7;have H116:=H115.part 5 Z [mine [.slice bA19 x.Rows.length bC19] x.Rows bg19,mine [.slice bA20 x.Data.length bC20] x.Data bg20,mine [.slice bA21 x.Delta.length bC21] x.Delta bg21] (aq bw19 (aq bw20 (aq bw21 σ))) (by simp [blocks,mine])
      try dsimp only[lNA,lCA,lSZ,lSS] at H116
      have bk7U:=bk7;unfold Rec.Ok at bk7U
      try unfold I64ok at bk7U
      try unfold maxLen at bk7U
      try unfold Rec.few0 at hfx
      refine aw (sM Z Z (sC func124 ul Z (kY (H116.box 0 Z) (am (H116.seen 0 Z)) (H116.offb 0 Z 0 Z) ω ω) (fun v32 w65 r31=>?_)));obtain ⟨ct7,cb7,⟨e69,hb26⟩,nm2,rfl,hnm2⟩:=r31;have H117:=H116.putBox 0 Z e69 hb26
      try dsimp only[lNA,lCA,lSZ,lSS] at H117
      refine sF az Z ts9 (bA ae ts9 Z Z Z H117 3 Z Z (fun w66 e70 H118=>?_));dsimp only[lNA,lCA,lSZ,lSS,aC] at H118;refine aa (ag ?_);obtain ⟨cx17,fp24,hcx17,H119⟩:=Rec.closeB H118 3 6 7 8 Z Z Z Z Z Z Z Z Z Z (by unfold Rec.Ok; (try unfold I64ok); (try unfold maxLen); (try dsimp only); omega)
      try dsimp only[lNA,lCA,lSZ,lSS] at H119
      have hfw3:cx17.few:=(by rw [hcx17]; unfold Rec.few; (try dsimp only); (try simp only [List.length_append,List.length_set,List.length_cons,List.length_nil,List.length_replicate]); omega);obtain ⟨bc8,bf8,bo8,H120⟩:=H119.open3 3 Z
      try dsimp only[lNA,lCA,lSZ,lSS] at H120
      obtain ⟨bA22,bC22,bA23,bC23,bA24,bC24,bg22,bg23,bg24,rfl,rfl,bk8,bw22,bw23,bw24⟩:=bN bo8;have H121:=H120.part 10 Z [mine [.slice bA22 cx17.Rows.length bC22] cx17.Rows bg22,mine [.slice bA23 cx17.Data.length bC23] cx17.Data bg23,mine [.slice bA24 cx17.Delta.length bC24] cx17.Delta bg24] (aq bw22 (aq bw23 (aq bw24 σ))) (by simp [blocks,mine])
      try dsimp only[lNA,lCA,lSZ,lSS] at H121
      have bk8U:=bk8;unfold Rec.Ok at bk8U
      try unfold I64ok at bk8U
      try unfold maxLen at bk8U
      refine aw (sV Z (aj az Z aW Z Z (At.whole (H121.box 3 Z))) (aO ae aW Z Z Z Z H121 2 Z Z (fun w67 e71 H122=>?_)));dsimp only[lNA,lCA,lSZ,lSS,aC] at H122;refine aa (bl (hQ _ _ (cq results68 Z (au az Z aW Z (At.whole (H122.box 2 Z))) ?_)));exact ⟨_,ω,⟨H122.ext,H122.box 0 Z⟩,cx17,_,_,_,_,_,_,Z,hfw3,H122.res3 0 11 12 13 Z Z Z Z Z Z Z Z Z Z (fun w o1 o2 o3=>Rec.own_mk (cu hfw3) o1 o2 o3)⟩
     ·refine ah (sR 2 Z (aa (aA Z (fun c15=>?_) (fun c15=>?_))))
      ·obtain ⟨bc9,bf9,bo9,H123⟩:=H96.open3 3 Z
       try dsimp only[lNA,lCA,lSZ,lSS] at H123
       obtain ⟨bA25,bC25,bA26,bC26,bA27,bC27,bg25,bg26,bg27,rfl,rfl,bk9,bw25,bw26,bw27⟩:=bN bo9;have H124:=H123.part 5 Z [mine [.slice bA25 x.Rows.length bC25] x.Rows bg25,mine [.slice bA26 x.Data.length bC26] x.Data bg26,mine [.slice bA27 x.Delta.length bC27] x.Delta bg27] (aq bw25 (aq bw26 (aq bw27 σ))) (by simp [blocks,mine])
       try dsimp only[lNA,lCA,lSZ,lSS] at H124
       have bk9U:=bk9;unfold Rec.Ok at bk9U
       try unfold I64ok at bk9U
       try unfold maxLen at bk9U
       try unfold Rec.few0 at hfx
       refine aw (sM Z Z (sF az Z ts2 (sLd tu2 (H124.box 3 Z) Z (sV Z (aN Z Z iO) (cU ([0,-2,1000,(x.Length+1)]) ae Z bn bg Z Z (by intro x hx; unfold I64ok; simp only [List.mem_cons,List.not_mem_nil,or_false] at hx; omega) σ σ H124 (fun b11 w68 e72 g11 H125=>sC func118 bB Z (aR (H125.box 0 Z) (am (H125.seen 0 Z)) (H125.offb 0 Z 0 Z) ω ω (am (H125.mine 9 Z)) (fun x hx e=>H125.apart (i:=0) (j:=9) Z Z Z x hx (by simp [Wk.box,e])) σ) (fun v33 w69 r32=>?_)))))));obtain ⟨⟨e73,hb27⟩,nx20,rfl,ny20⟩:=r32;have H126:=H125.putBox 0 Z e73 hb27
       try dsimp only[lNA,lCA,lSZ,lSS] at H126
       try simp only [List.mem_cons,List.not_mem_nil,or_false] at ny20
       have H126g:=H126.conv 9 gone Z trivial (by simp [gone]) (by simp [gone])
       try dsimp only[lNA,lCA,lSZ,lSS] at H126g
       refine sF az Z ts2 (bA ae ts2 Z Z Z H126g 3 Z Z (fun w70 e74 H127=>?_));dsimp only[lNA,lCA,lSZ,lSS,aC] at H127;refine aa (ag ?_);obtain ⟨cx18,fp25,hcx18,H128⟩:=Rec.closeB H127 3 6 7 8 Z Z Z Z Z Z Z Z Z Z (by unfold Rec.Ok; (try unfold I64ok); (try unfold maxLen); (try dsimp only); omega)
       try dsimp only[lNA,lCA,lSZ,lSS] at H128
       have hfw4:cx18.few:=(by rw [hcx18]; unfold Rec.few; (try dsimp only); (try simp only [List.length_append,List.length_set,List.length_cons,List.length_nil,List.length_replicate]); omega);obtain ⟨bc10,bf10,bo10,H129⟩:=H128.open3 3 Z
       try dsimp only[lNA,lCA,lSZ,lSS] at H129
       obtain ⟨bA28,bC28,bA29,bC29,bA30,bC30,bg28,bg29,bg30,rfl,rfl,bk10,bw28,bw29,bw30⟩:=bN bo10;have H130:=H129.part 11 Z [mine [.slice bA28 cx18.Rows.length bC28] cx18.Rows bg28,mine [.slice bA29 cx18.Data.length bC29] cx18.Data bg29,mine [.slice bA30 cx18.Delta.length bC30] cx18.Delta bg30] (aq bw28 (aq bw29 (aq bw30 σ))) (by simp [blocks,mine])
       try dsimp only[lNA,lCA,lSZ,lSS] at H130
       have bk10U:=bk10;unfold Rec.Ok at bk10U
       try unfold I64ok at bk10U
       try unfold maxLen at bk10U
       refine aw (sV Z (aj az Z aW Z Z (At.whole (H130.box 3 Z))) (aO ae aW Z Z Z Z H130 2 Z Z (fun w71 e75 H131=>?_)));dsimp only[lNA,lCA,lSZ,lSS,aC] at H131;refine aa (bl (hQ _ _ (cq results68 Z (au az Z aW Z (At.whole (H131.box 2 Z))) ?_)));exact ⟨_,ω,⟨H131.ext,H131.box 0 Z⟩,cx18,_,_,_,_,_,_,Z,hfw4,H131.res3 0 12 13 14 Z Z Z Z Z Z Z Z Z Z (fun w o1 o2 o3=>Rec.own_mk (cu hfw4) o1 o2 o3)⟩
      ·refine ah (sR 2 Z (aa (aA Z (fun c16=>?_) (fun c16=>?_))))
       ·obtain ⟨bc11,bf11,bo11,H132⟩:=H96.open3 3 Z
        try dsimp only[lNA,lCA,lSZ,lSS] at H132
        obtain ⟨bA31,bC31,bA32,bC32,bA33,bC33,bg31,bg32,bg33,rfl,rfl,bk11,bw31,bw32,bw33⟩:=bN bo11;have H133:=H132.part 5 Z [mine [.slice bA31 x.Rows.length bC31] x.Rows bg31,mine [.slice bA32 x.Data.length bC32] x.Data bg32,mine [.slice bA33 x.Delta.length bC33] x.Delta bg33] (aq bw31 (aq bw32 (aq bw33 σ))) (by simp [blocks,mine])
        try dsimp only[lNA,lCA,lSZ,lSS] at H133
        have bk11U:=bk11;unfold Rec.Ok at bk11U
        try unfold I64ok at bk11U
        try unfold maxLen at bk11U
        try unfold Rec.few0 at hfx
        refine bv (S:=H133.S2 0 0) (oQ [1,3,5,7,8,10,12,15,16]) κ κ κ Z (fun _=>show H133.S2 0 0 _ from Ext.refl.drawn _) (fun q3=>?_);have H134:=H133.drawn q3;refine dM Z Z Z (dV Z Z (fun zw hx=>ab aX Z ts2 Z Z) (dV Z Z (fun zw hx=>ac tu2 Z Z (ak (H133.s2Box hx 1 Z Z Z Z Z) Z)) (dV Z Z (fun zw hx=>aj aX Z ba Z Z (At.whole (H133.s2Box hx 1 Z Z Z Z Z))) (bi Z ae Z Z (aD func116 Z cN Z) (bM η) (fun hS _ _ r _=>H133.s2Call hS r.1) (fun v34 w72 r33=>?_)))));obtain ⟨e76,rfl⟩:=r33;have H135:=H134.to e76;refine nA ([-1,s.Groups,(s.Groups+s.Column)]) Z ae Z bn bg Z Z (by intro x hx; unfold I64ok; simp only [List.mem_cons,List.not_mem_nil,or_false] at hx; omega) σ σ H135 (fun _ h e=>H133.s2Call h e) (fun b12 w73 e77 g12 H136=>bi Z ae Z Z (aD func118 Z bB Z) (aR (H136.box 0 Z) (am (H136.seen 0 Z)) (H136.offb 0 Z 0 Z) ω ω (am (H136.mine 9 Z)) (fun x hx e=>H136.apart (i:=0) (j:=9) Z Z Z x hx (by simp [Wk.box,e])) σ) (fun hS _ _ r _=>H133.s2Bx hS Z r.1) (fun v35 w74 r34=>?_));obtain ⟨⟨e78,hb28⟩,nx21,rfl,ny21⟩:=r34;have H137:=H136.putBox 0 Z e78 hb28
        try dsimp only[lNA,lCA,lSZ,lSS] at H137
        try simp only [List.mem_cons,List.not_mem_nil,or_false] at ny21
        have H137g:=H137.conv 9 gone Z trivial (by simp [gone]) (by simp [gone])
        try dsimp only[lNA,lCA,lSZ,lSS] at H137g
        refine dV Z Z (fun zw hx=>ab az Z ts2 Z Z) (bR Z ae ts2 Z Z Z H137g 3 Z Z (fun _ _ _ hr=>absurd Z hr) (fun w75 e79 H138=>?_));dsimp only[lNA,lCA,lSZ,lSS,aC] at H138;refine aS (ag ?_);obtain ⟨cx19,fp26,hcx19,H139⟩:=Rec.closeB H138 3 6 7 8 Z Z Z Z Z Z Z Z Z Z (by unfold Rec.Ok; (try unfold I64ok); (try unfold maxLen); (try dsimp only); omega)
        try dsimp only[lNA,lCA,lSZ,lSS] at H139
        have hfw5:cx19.few:=(by rw [hcx19]; unfold Rec.few; (try dsimp only); (try simp only [List.length_append,List.length_set,List.length_cons,List.length_nil,List.length_replicate]); omega);obtain ⟨bc12,bf12,bo12,H140⟩:=H139.open3 3 Z
        try dsimp only[lNA,lCA,lSZ,lSS] at H140
        obtain ⟨bA34,bC34,bA35,bC35,bA36,bC36,bg34,bg35,bg36,rfl,rfl,bk12,bw34,bw35,bw36⟩:=bN bo12;have H141:=H140.part 11 Z [mine [.slice bA34 cx19.Rows.length bC34] cx19.Rows bg34,mine [.slice bA35 cx19.Data.length bC35] cx19.Data bg35,mine [.slice bA36 cx19.Delta.length bC36] cx19.Delta bg36] (aq bw34 (aq bw35 (aq bw36 σ))) (by simp [blocks,mine])
        try dsimp only[lNA,lCA,lSZ,lSS] at H141
        have bk12U:=bk12;unfold Rec.Ok at bk12U
        try unfold I64ok at bk12U
        try unfold maxLen at bk12U
        refine aw (sV Z (aj az Z aW Z Z (At.whole (H141.box 3 Z))) (aO ae aW Z Z Z Z H141 2 Z Z (fun w76 e80 H142=>?_)));dsimp only[lNA,lCA,lSZ,lSS,aC] at H142;refine aa (bl (hQ _ _ (cq results68 Z (au az Z aW Z (At.whole (H142.box 2 Z))) ?_)));exact ⟨_,ω,⟨H142.ext,H142.box 0 Z⟩,cx19,_,_,_,_,_,_,Z,hfw5,H142.res3 0 12 13 14 Z Z Z Z Z Z Z Z Z Z (fun w o1 o2 o3=>Rec.own_mk (cu hfw5) o1 o2 o3)⟩
       ·refine ah (sR 2 Z (aa (aA Z (fun c17=>?_) (fun c17=>?_))))
        ·obtain ⟨bc13,bf13,bo13,H143⟩:=H96.open3 3 Z
         try dsimp only[lNA,lCA,lSZ,lSS] at H143
         obtain ⟨bA37,bC37,bA38,bC38,bA39,bC39,bg37,bg38,bg39,rfl,rfl,bk13,bw37,bw38,bw39⟩:=bN bo13;have H144:=H143.part 5 Z [mine [.slice bA37 x.Rows.length bC37] x.Rows bg37,mine [.slice bA38 x.Data.length bC38] x.Data bg38,mine [.slice bA39 x.Delta.length bC39] x.Delta bg39] (aq bw37 (aq bw38 (aq bw39 σ))) (by simp [blocks,mine])
         try dsimp only[lNA,lCA,lSZ,lSS] at H144
         have bk13U:=bk13;unfold Rec.Ok at bk13U
         try unfold I64ok at bk13U
         try unfold maxLen at bk13U
         try unfold Rec.few0 at hfx
         refine aw (sM Z Z (sF aX Z ts2 (sLd tu2 (H144.box 1 Z) Z (cU ([-1,s.Rows]) ae Z bn bg Z Z (by intro x hx; unfold I64ok; simp only [List.mem_cons,List.not_mem_nil,or_false] at hx; omega) σ σ H144 (fun b13 w77 e81 g13 H145=>sC func118 bB Z (aR (H145.box 0 Z) (am (H145.seen 0 Z)) (H145.offb 0 Z 0 Z) ω ω (am (H145.mine 9 Z)) (fun x hx e=>H145.apart (i:=0) (j:=9) Z Z Z x hx (by simp [Wk.box,e])) σ) (fun v36 w78 r35=>?_))))));obtain ⟨⟨e82,hb29⟩,nx22,rfl,ny22⟩:=r35;have H146:=H145.putBox 0 Z e82 hb29
         try dsimp only[lNA,lCA,lSZ,lSS] at H146
         try simp only [List.mem_cons,List.not_mem_nil,or_false] at ny22
         have H146g:=H146.conv 9 gone Z trivial (by simp [gone]) (by simp [gone])
         try dsimp only[lNA,lCA,lSZ,lSS] at H146g
         refine sF az Z ts2 (bA ae ts2 Z Z Z H146g 3 Z Z (fun w79 e83 H147=>?_));dsimp only[lNA,lCA,lSZ,lSS,aC] at H147;refine aa (ag ?_);obtain ⟨cx20,fp27,hcx20,H148⟩:=Rec.closeB H147 3 6 7 8 Z Z Z Z Z Z Z Z Z Z (by unfold Rec.Ok; (try unfold I64ok); (try unfold maxLen); (try dsimp only); omega)
         try dsimp only[lNA,lCA,lSZ,lSS] at H148
         have hfw6:cx20.few:=(by rw [hcx20]; unfold Rec.few; (try dsimp only); (try simp only [List.length_append,List.length_set,List.length_cons,List.length_nil,List.length_replicate]); omega);obtain ⟨bc14,bf14,bo14,H149⟩:=H148.open3 3 Z
         try dsimp only[lNA,lCA,lSZ,lSS] at H149
         obtain ⟨bA40,bC40,bA41,bC41,bA42,bC42,bg40,bg41,bg42,rfl,rfl,bk14,bw40,bw41,bw42⟩:=bN bo14;have H150:=H149.part 11 Z [mine [.slice bA40 cx20.Rows.length bC40] cx20.Rows bg40,mine [.slice bA41 cx20.Data.length bC41] cx20.Data bg41,mine [.slice bA42 cx20.Delta.length bC42] cx20.Delta bg42] (aq bw40 (aq bw41 (aq bw42 σ))) (by simp [blocks,mine])
         try dsimp only[lNA,lCA,lSZ,lSS] at H150
         have bk14U:=bk14;unfold Rec.Ok at bk14U
         try unfold I64ok at bk14U
         try unfold maxLen at bk14U
         refine aw (sV Z (aj az Z aW Z Z (At.whole (H150.box 3 Z))) (aO ae aW Z Z Z Z H150 2 Z Z (fun w80 e84 H151=>?_)));dsimp only[lNA,lCA,lSZ,lSS,aC] at H151;refine aa (bl (hQ _ _ (cq results68 Z (au az Z aW Z (At.whole (H151.box 2 Z))) ?_)));exact ⟨_,ω,⟨H151.ext,H151.box 0 Z⟩,cx20,_,_,_,_,_,_,Z,hfw6,H151.res3 0 12 13 14 Z Z Z Z Z Z Z Z Z Z (fun w o1 o2 o3=>Rec.own_mk (cu hfw6) o1 o2 o3)⟩
        ·refine ah (sR 2 Z (aa (aA Z (fun c18=>?_) (fun c18=>?_))))
         ·obtain ⟨bc15,bf15,bo15,H152⟩:=H96.open3 3 Z
          try dsimp only[lNA,lCA,lSZ,lSS] at H152
          obtain ⟨bA43,bC43,bA44,bC44,bA45,bC45,bg43,bg44,bg45,rfl,rfl,bk15,bw43,bw44,bw45⟩:=bN bo15;have H153:=H152.part 5 Z [mine [.slice bA43 x.Rows.length bC43] x.Rows bg43,mine [.slice bA44 x.Data.length bC44] x.Data bg44,mine [.slice bA45 x.Delta.length bC45] x.Delta bg45] (aq bw43 (aq bw44 (aq bw45 σ))) (by simp [blocks,mine])
          try dsimp only[lNA,lCA,lSZ,lSS] at H153
          have bk15U:=bk15;unfold Rec.Ok at bk15U
          try unfold I64ok at bk15U
          try unfold maxLen at bk15U
          try unfold Rec.few0 at hfx
          refine bv (S:=H153.S2 0 6) (oQ [1,3,5,7,9,10,12,14,16,19,20]) κ κ κ Z (fun _=>show H153.S2 0 6 _ from Ext.refl.drawn _) (fun q4=>?_);have H154:=H153.drawn q4;refine dV Z Z (fun zw hx=>ab az Z bH Z Z) (dV Z Z (fun zw hx=>ac bn Z Z (ak (H153.s2Box hx 3 Z Z Z Z Z) Z)) (dM Z Z Z (dV Z Z (fun zw hx=>ab aX Z ts2 Z Z) (dV Z Z (fun zw hx=>ac tu2 Z Z (ak (H153.s2Box hx 1 Z Z Z Z Z) Z)) (nA ([0,-1,s.Rows]) Z ae Z bn bg Z Z (by intro x hx; unfold I64ok; simp only [List.mem_cons,List.not_mem_nil,or_false] at hx; omega) σ σ H154 (fun _ h e=>H153.s2Call h e) (fun b14 w81 e85 g14 H155=>bi Z ae Z Z (aD func118 Z bB Z) (aR (H155.box 0 Z) (am (H155.seen 0 Z)) (H155.offb 0 Z 0 Z) ω ω (am (H155.mine 9 Z)) (fun x hx e=>H155.apart (i:=0) (j:=9) Z Z Z x hx (by simp [Wk.box,e])) σ) (fun hS _ _ r _=>H153.s2Bx hS Z r.1) (fun v37 w82 r36=>?_)))))));obtain ⟨⟨e86,hb30⟩,nx23,rfl,ny23⟩:=r36;have H156:=H155.putBox 0 Z e86 hb30
          try dsimp only[lNA,lCA,lSZ,lSS] at H156
          try simp only [List.mem_cons,List.not_mem_nil,or_false] at ny23
          have H156g:=H156.conv 9 gone Z trivial (by simp [gone]) (by simp [gone])
          try dsimp only[lNA,lCA,lSZ,lSS] at H156g
          refine nA ([nx23]) Z ae Z bn bg Z Z (by intro x hx; unfold I64ok; simp only [List.mem_cons,List.not_mem_nil,or_false] at hx; omega) σ σ H156g (fun _ h e=>H153.s2Call h e) (fun b15 w83 e87 g15 H157=>xG Z ae Z bn bg Z Z Z H157 6 Z (H157.mine 10 Z) (by (try simp only [List.length_append,List.length_nil,List.length_cons]); unfold maxLen; omega) (by (try simp only [List.length_append,List.length_nil,List.length_cons]); omega) (fun _ h e=>H153.s2In h 6 Z (.inr Z) e (fun _ hb=>hb)) (fun v38 w84 fp28 H158=>dV Z Z (fun zw hx=>ab az Z bH Z Z) ?_));obtain ⟨a2,k2,q5⟩:=ax (H158.mine 6 Z);cases q5;refine bR Z ae bH Z Z Z H158 3 Z Z (fun _ _ _ hr=>absurd Z hr) (fun w85 e88 H159=>?_);dsimp only[lNA,lCA,lSZ,lSS,aC] at H159;refine aS (ag ?_);obtain ⟨cx21,fp29,hcx21,H160⟩:=Rec.closeB H159 3 6 7 8 Z Z Z Z Z Z Z Z Z Z (by unfold Rec.Ok; (try unfold I64ok); (try unfold maxLen); (try dsimp only); omega)
          try dsimp only[lNA,lCA,lSZ,lSS] at H160
          have hfw7:cx21.few:=(by rw [hcx21]; unfold Rec.few; (try dsimp only); (try simp only [List.length_append,List.length_set,List.length_cons,List.length_nil,List.length_replicate]); omega);obtain ⟨bc16,bf16,bo16,H161⟩:=H160.open3 3 Z
          try dsimp only[lNA,lCA,lSZ,lSS] at H161
          obtain ⟨bA46,bC46,bA47,bC47,bA48,bC48,bg46,bg47,bg48,rfl,rfl,bk16,bw46,bw47,bw48⟩:=bN bo16;have H162:=H161.part 12 Z [mine [.slice bA46 cx21.Rows.length bC46] cx21.Rows bg46,mine [.slice bA47 cx21.Data.length bC47] cx21.Data bg47,mine [.slice bA48 cx21.Delta.length bC48] cx21.Delta bg48] (aq bw46 (aq bw47 (aq bw48 σ))) (by simp [blocks,mine])
          try dsimp only[lNA,lCA,lSZ,lSS] at H162
          have bk16U:=bk16;unfold Rec.Ok at bk16U
          try unfold I64ok at bk16U
          try unfold maxLen at bk16U
          refine aw (sV Z (aj az Z aW Z Z (At.whole (H162.box 3 Z))) (aO ae aW Z Z Z Z H162 2 Z Z (fun w86 e89 H163=>?_)));dsimp only[lNA,lCA,lSZ,lSS,aC] at H163;refine aa (bl (hQ _ _ (cq results68 Z (au az Z aW Z (At.whole (H163.box 2 Z))) ?_)));exact ⟨_,ω,⟨H163.ext,H163.box 0 Z⟩,cx21,_,_,_,_,_,_,Z,hfw7,H163.res3 0 13 14 15 Z Z Z Z Z Z Z Z Z Z (fun w o1 o2 o3=>Rec.own_mk (cu hfw7) o1 o2 o3)⟩
         ·refine ah (sR 2 Z (aa (aA Z (fun c19=>?_) (fun c19=>?_))))
          ·obtain ⟨bc17,bf17,bo17,H164⟩:=H96.open3 3 Z
           try dsimp only[lNA,lCA,lSZ,lSS] at H164
           obtain ⟨bA49,bC49,bA50,bC50,bA51,bC51,bg49,bg50,bg51,rfl,rfl,bk17,bw49,bw50,bw51⟩:=bN bo17;have H165:=H164.part 5 Z [mine [.slice bA49 x.Rows.length bC49] x.Rows bg49,mine [.slice bA50 x.Data.length bC50] x.Data bg50,mine [.slice bA51 x.Delta.length bC51] x.Delta bg51] (aq bw49 (aq bw50 (aq bw51 σ))) (by simp [blocks,mine])
           try dsimp only[lNA,lCA,lSZ,lSS] at H165
           have bk17U:=bk17;unfold Rec.Ok at bk17U
           try unfold I64ok at bk17U
           try unfold maxLen at bk17U
           try unfold Rec.few0 at hfx
           refine aw (sF az Z bf (sLd bc (H165.box 3 Z) Z (ex ae Z bc bW Z Z Z Z H165 (fun b16 w87 e90 g16 H166=>jr ae Z bc bW Z Z Z H166 8 9 Z Z (jv (x:=1)) (by (try simp only [List.length_append,List.length_nil,List.length_cons]); unfold maxLen; omega) (by (try simp only [List.length_append,List.length_nil,List.length_cons]); omega) (fun v39 w88 fp30 H167=>sV Z (ab az Z bf Z Z) ?_)))));obtain ⟨a3,k3,q6⟩:=ax (H167.mine 8 Z);cases q6;refine bA ae bf Z Z Z H167 3 Z Z (fun w89 e91 H168=>?_);dsimp only[lNA,lCA,lSZ,lSS,aC] at H168;refine aa (ag ?_);obtain ⟨cx22,fp31,hcx22,H169⟩:=Rec.closeB H168 3 6 7 8 Z Z Z Z Z Z Z Z Z Z (by unfold Rec.Ok; (try unfold I64ok); (try unfold maxLen); (try dsimp only); omega)
           try dsimp only[lNA,lCA,lSZ,lSS] at H169
           have hfw8:cx22.few:=(by rw [hcx22]; unfold Rec.few; (try dsimp only); (try simp only [List.length_append,List.length_set,List.length_cons,List.length_nil,List.length_replicate]); omega);obtain ⟨bc18,bf18,bo18,H170⟩:=H169.open3 3 Z
           try dsimp only[lNA,lCA,lSZ,lSS] at H170
           obtain ⟨bA52,bC52,bA53,bC53,bA54,bC54,bg52,bg53,bg54,rfl,rfl,bk18,bw52,bw53,bw54⟩:=bN bo18;have H171:=H170.part 11 Z [mine [.slice bA52 cx22.Rows.length bC52] cx22.Rows bg52,mine [.slice bA53 cx22.Data.length bC53] cx22.Data bg53,mine [.slice bA54 cx22.Delta.length bC54] cx22.Delta bg54] (aq bw52 (aq bw53 (aq bw54 σ))) (by simp [blocks,mine])
           try dsimp only[lNA,lCA,lSZ,lSS] at H171
           have bk18U:=bk18;unfold Rec.Ok at bk18U
           try unfold I64ok at bk18U
           try unfold maxLen at bk18U
           refine aw (sV Z (aj az Z aW Z Z (At.whole (H171.box 3 Z))) (aO ae aW Z Z Z Z H171 2 Z Z (fun w90 e92 H172=>?_)));dsimp only[lNA,lCA,lSZ,lSS,aC] at H172;refine aa (bl (hQ _ _ (cq results68 Z (au az Z aW Z (At.whole (H172.box 2 Z))) ?_)));exact ⟨_,ω,⟨H172.ext,H172.box 0 Z⟩,cx22,_,_,_,_,_,_,Z,hfw8,H172.res3 0 12 13 14 Z Z Z Z Z Z Z Z Z Z (fun w o1 o2 o3=>Rec.own_mk (cu hfw8) o1 o2 o3)⟩
          ·refine ar (ag ?_);obtain ⟨bc19,bf19,bo19,H173⟩:=H96.open3 3 Z
           try dsimp only[lNA,lCA,lSZ,lSS] at H173
           obtain ⟨bA55,bC55,bA56,bC56,bA57,bC57,bg55,bg56,bg57,rfl,rfl,bk19,bw55,bw56,bw57⟩:=bN bo19;have H174:=H173.part 5 Z [mine [.slice bA55 x.Rows.length bC55] x.Rows bg55,mine [.slice bA56 x.Data.length bC56] x.Data bg56,mine [.slice bA57 x.Delta.length bC57] x.Delta bg57] (aq bw55 (aq bw56 (aq bw57 σ))) (by simp [blocks,mine])
           try dsimp only[lNA,lCA,lSZ,lSS] at H174
           have bk19U:=bk19;unfold Rec.Ok at bk19U
           try unfold I64ok at bk19U
           try unfold maxLen at bk19U
           refine aw (sV Z (aj az Z aW Z Z (At.whole (H174.box 3 Z))) (aO ae aW Z Z Z Z H174 2 Z Z (fun w91 e93 H175=>?_)));dsimp only[lNA,lCA,lSZ,lSS,aC] at H175;refine aa (bl (hQ _ _ (cq results68 Z (au az Z aW Z (At.whole (H175.box 2 Z))) ?_)));exact ⟨_,ω,⟨H175.ext,H175.box 0 Z⟩,x,_,_,_,_,_,_,Z,(mP hfx),H175.res3 0 6 7 8 Z Z Z Z Z Z Z Z Z Z (fun w o1 o2 o3=>Rec.own_mk (cu (mP hfx)) o1 o2 o3)⟩
  ·refine ar (ag ?_);obtain ⟨bc20,bf20,bo20,H176⟩:=H95.open3 3 Z
   try dsimp only[lNA,lCA,lSZ,lSS] at H176
   obtain ⟨bA58,bC58,bA59,bC59,bA60,bC60,bg58,bg59,bg60,rfl,rfl,bk20,bw58,bw59,bw60⟩:=bN bo20;have H177:=H176.part 5 Z [mine [.slice bA58 x.Rows.length bC58] x.Rows bg58,mine [.slice bA59 x.Data.length bC59] x.Data bg59,mine [.slice bA60 x.Delta.length bC60] x.Delta bg60] (aq bw58 (aq bw59 (aq bw60 σ))) (by simp [blocks,mine])
   try dsimp only[lNA,lCA,lSZ,lSS] at H177
   have bk20U:=bk20;unfold Rec.Ok at bk20U
   try unfold I64ok at bk20U
   try unfold maxLen at bk20U
   refine aw (sV Z (aj az Z aW Z Z (At.whole (H177.box 3 Z))) (aO ae aW Z Z Z Z H177 2 Z Z (fun w92 e94 H178=>?_)));dsimp only[lNA,lCA,lSZ,lSS,aC] at H178;refine aa (bl (hQ _ _ (cq results68 Z (au az Z aW Z (At.whole (H178.box 2 Z))) ?_)));exact ⟨_,ω,⟨H178.ext,H178.box 0 Z⟩,x,_,_,_,_,_,_,Z,(mP hfx),H178.res3 0 6 7 8 Z Z Z Z Z Z Z Z Z Z (fun w o1 o2 o3=>Rec.own_mk (cu (mP hfx)) o1 o2 o3)⟩
end Go.Wk
