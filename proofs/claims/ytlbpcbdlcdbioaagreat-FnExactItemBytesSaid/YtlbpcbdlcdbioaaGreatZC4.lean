/-
  Laws on walking, and the functions walked, each once: what this claim comes to.
-/
import Derived.Test.YtlbpcbdlcdbioaaGreatZC3
set_option linter.unusedVariables false
set_option linter.unusedSimpArgs false
namespace Go.Wk
open Rp (sz own)
theorem jo {α:Type}:∀ {l m:List α},l.Nodup→(∀ x∈l,x∈m)→l.length≤m.length
  | [],_,_,_=>Nat.zero_le _
  | a::l,m,h,hs=>by
    rw [List.nodup_cons] at h
    obtain ⟨s,t,rfl⟩:=List.append_of_mem (hs a (List.mem_cons_self ..))
    have:=jo (l:=l) (m:=s++t) h.2 fun x hx=>by
      have h1:=hs x (List.mem_cons_of_mem _ hx)
      rw [List.mem_append,List.mem_cons] at h1
      rw [List.mem_append]
      rcases h1 with h1 | rfl | h1
      · exact .inl h1
      · exact absurd hx h.1
      · exact .inr h1
    simp only [List.length_append,List.length_cons] at this ⊢
    omega
def nxV (b:Bool) (q:RecV × Nat):Value := .tuple (match b with
  | false => #[.bool false]
  | true => #[.bool true,.string q.1.r.Name,.agg q.1.cs.toArray])
section
variable {P:Program}{n:Nat}{ops:Array Oper}{Q:Post}{L:Env}{w w0:World}{M:Nat→Prop}{Δ F:List Rsc}{rest:List Oper}{d:Nat}{ty:TypeId}{p:String}{af:Array Edge}{g:Option (Nat × Bool)}
theorem EC {x:Operand}{b:Bool}{q:RecV × Nat}{o:Option Tmp}(hx:evL L x=some (nxV b q)):Py P n L w ⟨o,.extract x 0,ty,p,af,g⟩ (.bool b):=by
  cases b
  · exact qj hx rfl
  · exact qj hx rfl
theorem CC {x:Operand}{r b c:Nat}{ps ds:List (RecV × Nat)}(hw:Wn ops n L ⟨some d,.next x false,ty,p,af,g⟩) (hn:Nat.blt d n=true) (hx:evL L x=some (.pointer (some ⟨r,0,none⟩))) (H:Sep M w0 Δ F w)
    (i j:Nat) (hi:Δ[i]? = some (box r (.mapIter (some b) c (cH ds) c))) (hj:Δ[j]? = some (box b (.map (fH ps) c))) (ok:MapOK ps c) (hds:∀ q∈ds,q∈ps)
    (k:∀ bb q ds' w',(bb=false→ds=ds'∧∀ q∈ps,q∈ds)→(bb=true→ds++[q]=ds'∧q∈ps∧q ∉ ds)→Sep M w0 (Δ.set i (box r (.mapIter (some b) c (cH ds') c))) F w'→RL P n ops Q rest ((d,nxV bb q)::L) w') :
    RL P n ops Q (⟨some d,.next x false,ty,p,af,g⟩::rest) L w:=
  C5 (s:=0) hw hn hx H i j hi hj ok hds
    (fun h=>k false default ds w (fun _=>⟨rfl,h⟩) (fun h=>by cases h) (by rw [n5 hi]; exact H))
    (fun q w' h1 h2 h3=>k true q _ w' (fun h=>by cases h) (fun _=>⟨rfl,h1,h2⟩) h3)
end
section
variable {z:Wld}{vs us:List RecV}{ps ds:List (RecV × Nat)}{c k:Nat}
theorem sr (h:k<vs.length):(vs.map RecV.r).take (k+1)=(vs.map RecV.r).take k++[(vs.getD k default).r]:=by
  rw [List.take_add_one,List.getElem?_map,List.getElem?_eq_getElem h,cf h]; rfl
theorem AW:MapIs ((vs.map RecV.r).take 0) []:=MapIs.nil
theorem B5 (h:MapIs ((vs.map RecV.r).take k) ps) (hk:k<vs.length) (hr:(vs.getD k default).r.Kind≠1):MapIs ((vs.map RecV.r).take (k+1)) ps:=by
  rw [sr hk]; exact h.skip hr
theorem Dr (h:MapIs ((vs.map RecV.r).take k) ps) (ok:MapOK ps c) (hk:k<vs.length) (hr:(vs.getD k default).r.Kind=1):MapIs ((vs.map RecV.r).take (k+1)) (fJ (vs.getD k default) c ps):=by
  rw [sr hk]; exact h.put ok.names hr
theorem Er (ok:MapOK ps c) (h:∀ p∈ps,p.1∈vs) (hk:k<vs.length):∀ p∈fJ (vs.getD k default) c ps,p.1∈vs:=fun p hp=>by
  rcases uZ ok.names hp with e | ⟨h1,_⟩
  · rw [e,cf hk]; exact List.getElem_mem _
  · exact h p h1
theorem Dz (h1:∀ q∈ds,q∈ps) (h2:∀ p∈ps,p.1∈vs) (hp:us.Perm (gU ds)):∀ v∈us,v∈vs:=fun v hv=>by
  have:=hp.mem_iff.1 hv
  unfold gU at this
  obtain ⟨q,hq,e⟩:=List.mem_map.1 (List.mem_filter.1 this).1
  rw [← e]; exact h2 q (h1 q hq)
theorem sX:∀ {us:List RecV},Ord nLt nameV us→Ord nLt dt (us.map RecV.r)
  | [],_ => .nil
  | _ :: _,.cons h1 h2 => .cons (fun y hy=>by
      obtain ⟨v,hv,e⟩:=List.mem_map.1 hy
      rw [← e]; exact h1 v hv) (sX h2)
theorem CI (hM:vs.map RecV.r=bZ z) (mi:MapIs ((vs.map RecV.r).take vs.length) ps) (ok:MapOK ps c) (hd:ds.Nodup) (h1:∀ q∈ds,q∈ps) (h2:∀ q∈ps,q∈ds) (hp:us.Perm (gU ds)) (ho:Ord nLt nameV us):us.map RecV.r=ey z:=by
  rw [List.take_of_length_le (by simp),hM] at mi
  exact zY ((hp.map RecV.r).trans (AG mi ok hd h1 h2)) (sX ho)
end
theorem D1 {P:Program}{fn:Func}{R:Value→World→Prop}{L:Env}{w:World}{t y:Nat}{uy:TypeId}{x:Addr}{v v2:Value}(hr:fn.results = #[.cell t uy,.tmp y]) (hu:look L t=some (.pointer (some x))) (hl:(loadVar uy x).run P w = .ok v w) (hy:look L y=some v2) (h:R (.tuple #[v,v2]) w):fin P fn R .ret L w:=fun _ a hg=>
  ⟨_,by have h1:=hg.cov t _ hu; have h2:=hg.cov y _ hy; simp only [Array.getD_eq_getD_getElem?] at h1 h2; simp [results,hr,h1,h2,asAddr,hl],h⟩
def nmP (nm:ByteArray) (r:Rec):Bool:=r.Name.toList == nm.toList
section
variable {z:Wld}{nm:ByteArray}{r:Rec}
theorem zS:nmP nm r=true↔r.Name=nm:=by unfold nmP; rw [beq_iff_eq,qh]
theorem vh (h:cF (nmP nm) (ey z)<0):itO z nm=false∧itR z nm=default:=by
  refine EH fun r hr e=>?_
  have h1:(ey z).any (nmP nm)=true:=List.any_eq_true.2 ⟨r,hr,zS.2 e⟩
  rw [← gW,decide_eq_true_eq] at h1
  omega
theorem CK (h:0≤cF (nmP nm) (ey z)):(cF (nmP nm) (ey z)).toNat<(ey z).length∧itO z nm=true∧itR z nm=(ey z).getD (cF (nmP nm) (ey z)).toNat default:=by
  obtain ⟨k,hk,hl,hp,_⟩:=vB (d:=default) (show ¬ cF (nmP nm) (ey z) = -1 by omega)
  have e:(cF (nmP nm) (ey z)).toNat=k:=by omega
  rw [e]
  have h1:=CU (z:=z) (nm:=nm) (r:=(ey z).getD k default) (by rw [cf hl]; exact List.getElem_mem _) (zS.1 hp)
  exact ⟨hl,h1.1,h1.2⟩
end
end Go.Wk
namespace Go.Wk
open Go.Proofs Rp Go.Proofs.Tryz
set_option maxRecDepth 10000
theorem kn {w:World}{zb zC9 zC10 zC11:Nat}{z:Wld}{zA9 zA10 zA11:Option Addr}{zF9 zF10 zF11:List Nat}(zB:w.heap[zb]? = some (.cells [.int .i64 z.Shape.Groups,.int .i64 z.Shape.Column,.int .i64 z.Shape.Data,.int .i64 z.Shape.Spare,.int .i64 z.Shape.Rows,.int .i64 z.Shape.Cap,.int .i64 z.Shape.Batch,.int .i64 z.Shape.Queue,.int .i64 z.Shape.Stage,.slice zA9 z.Groups.length zC9,.slice zA10 z.On.length zC10,.slice zA11 z.Tapes.length zC11,.int .i64 z.Writes,.int .i64 z.Stop,.bool z.Down].toArray 34)) (zK:z.Ok) (zO9:own false w [.slice zA9 z.Groups.length zC9] z.Groups zF9) (zO10:own false w [.slice zA10 z.On.length zC10] z.On zF10) (zO11:own false w [.slice zA11 z.Tapes.length zC11] z.Tapes zF11) (hT:z.Tapes.length=2) (hrl:∀ k,(z.Tapes.getD k default).Recs.length≤200000):Ret Tryz.prog 161 #[.pointer (some ⟨zb,0,none⟩)] w fun v w'=>Ext No w w'∧(∃ vs,Res w w' [v] vs∧RdV w' zF11 vs∧vs.map RecV.r=ey z):=by
 have zK2:=zK;unfold Wld.Ok Shape.Ok at zK2
 try unfold I64ok at zK2
 try unfold maxLen at zK2
 have zL9:=oL zO9;have zL10:=oL zO10;have zL11:=oL zO11;refine aA (vs:=[.pointer (some ⟨zb,0,none⟩)]) func161 Z ntmps161 Z (fun Q hQ hN=>?_);have H0:=Sep.start (w:=w) (F:=[box zb (.cells [.int .i64 z.Shape.Groups,.int .i64 z.Shape.Column,.int .i64 z.Shape.Data,.int .i64 z.Shape.Spare,.int .i64 z.Shape.Rows,.int .i64 z.Shape.Cap,.int .i64 z.Shape.Batch,.int .i64 z.Shape.Queue,.int .i64 z.Shape.Stage,.slice zA9 z.Groups.length zC9,.slice zA10 z.On.length zC10,.slice zA11 z.Tapes.length zC11,.int .i64 z.Writes,.int .i64 z.Stop,.bool z.Down].toArray 34),seen false [.slice zA9 z.Groups.length zC9] z.Groups zF9,seen false [.slice zA10 z.On.length zC10] z.On zF10,seen false [.slice zA11 z.Tapes.length zC11] z.Tapes zF11]) (ae (by exact zB) (ae zO9 (ae zO10 (ae zO11 (by simp)))));refine ab (sA Z Z (aa (ab (DM (wn Z) Z H0 (fun mb1 w1 e1 g1 H1=>sA Z Z (aa (ac (ab (sM Z Z (sC func155 yq Z (jD (H1.fbox 0 Z) (by assumption) (bu (H1.seen 1 Z)) (bu (H1.seen 2 Z)) (bu (H1.seen 3 Z)) (by first | assumption | omega) (by first | assumption | omega)) (fun v1 w2 r1=>?_)))))))))));obtain ⟨e2,vs1,r1,hR1,hM1⟩:=r1;obtain ⟨fp1,H2⟩:=H1.res e2 r1;obtain ⟨sa1,sk1,sq1⟩:=aB (H2.mine 1 Z);cases sq1;have hl1:vs1.length=(bZ z).length:=by rw [← hM1,List.length_map]
 have hb1:=tW (z:=z) (by first | assumption | omega) (by assumption);have hRw1:RdV w zF11 vs1:=hR1.back H2.ext (Rp.lt zO11);refine sV Z (ax aS Z) (sM Z Z (aa (ai (aM (γ:=Nat × List (RecV × Nat) × Nat) (fun (k,ps,c)=>[(11,.slice sa1 vs1.length sk1),(12,.int .i64 vs1.length),(13,.int .i64 k),(3,.map (some mb1))]) (fun (k,ps,c) w'=>Sep No w [box mb1 (.map (fH ps) c),mine [.slice sa1 vs1.length sk1] vs1 fp1] _ w'∧k≤vs1.length∧MapOK ps c∧MapIs ((vs1.map RecV.r).take k) ps∧(∀ p∈ps,p.1∈vs1)∧ps.length≤k) (fun (k,ps,c)=>vs1.length-k) (0,[],0) ⟨Z,Z,Z,Z,trivial⟩ ⟨H2,by (try dsimp only); omega,MapOK.nil,AW,(fun p hp=>by cases hp),by (try dsimp only); exact Nat.le_refl _⟩ (fun (k,ps,c) w3 H3=>?_)))));obtain ⟨H3,hk,hok,hmi,hin,hpl⟩:=H3;refine ab (sV Z (aI Z Z) (aa (ac (au Z (fun c1=>?_) (fun c1=>?_)))))
 ·refine ag (ac (ai (ac ?_)));obtain ⟨eb1,eo1,ee1,ec1,eK1⟩:=H3.viewAt 1 Z k (by omega);refine aj (sV Z (ao aS aL Z Z ee1 k (by omega) (by omega)) (sV Z (an az Z aL Z Z ec1) (cI (wn Z) Z zeroValue55 H3 (fun b1 w4 e3 g2 H4=>bE (wn Z) aL Z Z Z Z H4 2 Z Z (fun w5 e4 H5=>?_)))));dsimp only[lNA,lCA,lSZ,lSS,bk] at H5;refine aa (ab (sF az Z ts2 (sLd tu2 (H5.box 2 Z) Z (sV Z (bJ Z Z) (aa (au Z (fun c2=>?_) (fun c2=>?_)))))))
  ·refine aj (sM Z Z (sF az Z ts9 (sLd tu9 (H5.box 2 Z) Z (sV Z (an az Z aL Z Z (At.whole (H5.box 2 Z))) (EJ (v:=vs1.getD k default) (wn Z) DU tu9 Z Z Z H5 0 Z hok (fun mc1 w6 mo1 H6=>?_))))))
   try dsimp only[lNA,lCA,lSZ,lSS] at H6
   refine aa (aj (sV Z (aw Z Z iO) (sM Z Z (aa ?_))));exact ⟨(k+1,fJ (vs1.getD k default) c ps,_),⟨Z,Z,Z,Z,trivial⟩,⟨(H6.dtake 2),by (try dsimp only); omega,mo1,Dr hmi hok (by omega) (by omega),Er hok hin (by omega),by have:=Bk (v:=vs1.getD k default) (c:=c) (ps:=ps); (try dsimp only); omega⟩,by dsimp only; omega⟩
  ·refine ag (aj (sV Z (aw Z Z iO) (sM Z Z (aa ?_))));exact ⟨(k+1,ps,c),⟨Z,Z,Z,Z,trivial⟩,⟨(H5.dtake 2),by (try dsimp only); omega,hok,B5 hmi (by omega) (by omega),hin,by (try dsimp only); omega⟩,by dsimp only; omega⟩
 ·refine aD (ab (cZ (α:=RecV) (wn Z) Z aS ba H3 (fun b2 w7 e5 g3 H7=>sA Z Z (aa (ac (ab (sM Z Z (Cs (wn Z) Z DU Z H7 0 Z (fun rb1 w8 e6 g4 H8=>?_)))))))))
  try dsimp only[lNA,lCA,lSZ,lSS] at H8
  refine aa (ai (aM (γ:=List (RecV × Nat) × Value × List Nat) (fun (ds,vo,f)=>[(27,.pointer (some ⟨rb1,0,none⟩)),(6,vo)]) (fun (ds,vo,f) w'=>Sep No w [box mb1 (.map (fH ps) c),mine [.slice sa1 vs1.length sk1] vs1 fp1,mine [vo] (gU ds) f,box rb1 (.mapIter (some mb1) c (cH ds) c)] _ w'∧ds.Nodup∧∀ q∈ds,q∈ps) (fun (ds,vo,f)=>ps.length-ds.length) ([],_,_) ⟨Z,Z,trivial⟩ ⟨H8,.nil,fun q hq=>by cases hq⟩ (fun (ds,vo,f) w9 H9=>?_)));obtain ⟨H9,hdn,hds⟩:=H9;refine ab (CC (wn Z) Z Z H9 3 0 Z Z hok hds (fun bb q ds2 w10 hN0 hN1 H10=>?_))
  try dsimp only[lNA,lCA,lSZ,lSS] at H10
  refine sV Z (EC Z) (aa (ac (bz Z (fun c3=>?_) (fun c3=>?_))))
  ·have hN1:=hN1 c3;obtain rfl:=hN1.1;have hnl0:=jo hdn hds;refine ag (ai (ab (sV Z (AB Z H10 3 0 Z Z hok hN1.2.1) (sV Z (qj Z Z) (cI (wn Z) Z zeroValue55 H10 (fun b3 w11 e7 g5 H11=>bE (wn Z) aL Z Z Z Z H11 4 Z Z (fun w12 e8 H12=>?_)))))));dsimp only[lNA,lCA,lSZ,lSS,bk] at H12;refine aa (ab (sF az Z ts2 (sLd tu2 (H12.box 4 Z) Z (sV Z (bg Z Z) (aa (au Z (fun c4=>?_) (fun c4=>?_)))))))
   ·have hqk:q.1.r.Ok:=(RdV.sees hRw1 (hin q hN1.2.1)).1;have hkl:=sy (ds:=ds);refine aj (sM Z Z (sV Z (an az Z aL Z Z (At.whole (H12.box 4 Z))) (eC (wn Z) Z aS ba Z Z Z Z H12 (fun b4 w13 e9 g6 H13=>fj (wn Z) Z aS ba Z Z Z H13 2 5 Z Z (gK (v:=q.1) hqk) (by unfold maxLen; omega) (by omega) (fun v2 w14 fp2 H14=>sA Z Z (aa ?_))))));have hnd:=iz hdn hN1.2.2;have hsb:∀ p∈ds++[q],p∈ps:=fun p hp=>by
     rcases List.mem_append.1 hp with hp | hp
     ·exact hds p hp
     ·rw [List.mem_singleton] at hp; rw [hp]; exact hN1.2.1
    have hnl:=jo hnd hsb;rw [List.length_append,List.length_singleton] at hnl;have HH:=(H14.dtake 4);rw [← z7 (ds:=ds) (q:=q) (by simpa using c4)] at HH;exact ⟨(ds++[q],_,_),⟨Z,Z,trivial⟩,⟨HH,hnd,hsb⟩,by dsimp only; rw [List.length_append,List.length_singleton]; omega⟩
   ·refine ag ?_;have hnd:=iz hdn hN1.2.2;have hsb:∀ p∈ds++[q],p∈ps:=fun p hp=>by
     rcases List.mem_append.1 hp with hp | hp
     ·exact hds p hp
     ·rw [List.mem_singleton] at hp; rw [hp]; exact hN1.2.1
    have hnl:=jo hnd hsb;rw [List.length_append,List.length_singleton] at hnl;have HH:=(H12.dtake 4);rw [← CD (ds:=ds) (q:=q) (by simpa using c4)] at HH;exact ⟨(ds++[q],_,_),⟨Z,Z,trivial⟩,⟨HH,hnd,hsb⟩,by dsimp only; rw [List.length_append,List.length_singleton]; omega⟩
  ·obtain ⟨rfl,hall⟩:=hN0 c3;have hnl0:=jo hdn hds;refine aD (ab (sM Z Z ?_));obtain ⟨oa,ok2,oq⟩:=aB (H10.mine 2 Z);cases oq;refine sC func281 xw Z (yH (vs:=gU ds) (H10.mine 2 Z) (H10.nodup1 (i:=2) Z) (by have:=sy (ds:=ds); omega)) (fun v3 w15 r2=>?_);obtain ⟨us,mm1,hP,hS⟩:=r2;obtain ⟨fp3,H15⟩:=H10.mut 2 Z mm1
   try dsimp only[lNA,lCA,lSZ,lSS] at H15
   refine aa (ab (sR 2 Z (rN hQ results161 Z ?_)));exact ⟨H15.ext,us,H15.out 2 Z,(hRw1.sub (Dz hds hin hP)).to H15.ext,CI hM1 (by rwa [show k=vs1.length by omega] at hmi) hok hdn hds hall hP hS⟩
end Go.Wk
namespace Go.Wk
open Go.Proofs Rp Go.Proofs.Tryz
set_option maxRecDepth 10000
theorem jU {w:World}{r:Rec}{rA6 rA7 rA8:Option Addr}{rC6 rC7 rC8 b1:Nat}{nm:ByteArray}(h1:w.heap[b1]? = some (.cells [.string nm].toArray 9)):Ret Tryz.prog 236 #[r.val rA6 rC6 rA7 rC7 rA8 rC8,.pointer (some ⟨b1,0,none⟩)] w fun v w'=>Ext No w w'∧(v = .bool (nmP nm r)):=by
 refine aA (vs:=[r.val rA6 rC6 rA7 rC7 rA8 rC8,.pointer (some ⟨b1,0,none⟩)]) func236 Z ntmps236 Z (fun Q hQ hN=>?_);have H0:=Sep.start (w:=w) (F:=[box b1 (.cells [.string nm].toArray 9)]) (ae (by exact h1) (by simp));refine ab (aV (wn Z) Z Z H0 (fun b1 w1 e1 g1 H1=>sA Z Z (aa (ab (sF az Z ts9 (sLd tu9 (H1.box 0 Z) Z (sLd tu9 (H1.fbox 0 Z) Z (sV Z (lD Z Z) (rA hQ results236 Z ?_)))))))));exact ⟨H1.ext,Z⟩
theorem lh {w:World}{zb zC9 zC10 zC11:Nat}{z:Wld}{zA9 zA10 zA11:Option Addr}{zF9 zF10 zF11:List Nat}{nm:ByteArray}(zB:w.heap[zb]? = some (.cells [.int .i64 z.Shape.Groups,.int .i64 z.Shape.Column,.int .i64 z.Shape.Data,.int .i64 z.Shape.Spare,.int .i64 z.Shape.Rows,.int .i64 z.Shape.Cap,.int .i64 z.Shape.Batch,.int .i64 z.Shape.Queue,.int .i64 z.Shape.Stage,.slice zA9 z.Groups.length zC9,.slice zA10 z.On.length zC10,.slice zA11 z.Tapes.length zC11,.int .i64 z.Writes,.int .i64 z.Stop,.bool z.Down].toArray 34)) (zK:z.Ok) (zO9:own false w [.slice zA9 z.Groups.length zC9] z.Groups zF9) (zO10:own false w [.slice zA10 z.On.length zC10] z.On zF10) (zO11:own false w [.slice zA11 z.Tapes.length zC11] z.Tapes zF11) (hT:z.Tapes.length=2) (hrl:∀ k,(z.Tapes.getD k default).Recs.length≤200000):Ret Tryz.prog 108 #[.pointer (some ⟨zb,0,none⟩),.string nm] w fun v w'=>Ext No w w'∧(∃ A6 C6 A7 C7 A8 C8,v = .tuple #[(itR z nm).val A6 C6 A7 C7 A8 C8,.bool (itO z nm)]∧InF w' zF11 (RecV.mk (itR z nm) A6 C6 A7 C7 A8 C8).cs (itR z nm)):=by
 have zK2:=zK;unfold Wld.Ok Shape.Ok at zK2
 try unfold I64ok at zK2
 try unfold maxLen at zK2
 have zL9:=oL zO9;have zL10:=oL zO10;have zL11:=oL zO11;have hll:=BU (z:=z);have hcb:=tW (z:=z) hT hrl;refine aA (vs:=[.pointer (some ⟨zb,0,none⟩),.string nm]) func108 Z ntmps108 Z (fun Q hQ hN=>?_);have H0:=Sep.start (w:=w) (F:=[box zb (.cells [.int .i64 z.Shape.Groups,.int .i64 z.Shape.Column,.int .i64 z.Shape.Data,.int .i64 z.Shape.Spare,.int .i64 z.Shape.Rows,.int .i64 z.Shape.Cap,.int .i64 z.Shape.Batch,.int .i64 z.Shape.Queue,.int .i64 z.Shape.Stage,.slice zA9 z.Groups.length zC9,.slice zA10 z.On.length zC10,.slice zA11 z.Tapes.length zC11,.int .i64 z.Writes,.int .i64 z.Stop,.bool z.Down].toArray 34),seen false [.slice zA9 z.Groups.length zC9] z.Groups zF9,seen false [.slice zA10 z.On.length zC10] z.On zF10,seen false [.slice zA11 z.Tapes.length zC11] z.Tapes zF11]) (ae (by exact zB) (ae zO9 (ae zO10 (ae zO11 (by simp)))));refine ab (aV (wn Z) Z Z H0 (fun b1 w1 e1 g1 H1=>cI (wn Z) Z zeroValue55 H1 (fun b2 w2 e2 g2 H2=>sA Z Z (aa (ab (sM Z Z (sC func161 xS Z (kn (H2.fbox 0 Z) (by assumption) (bu (H2.seen 1 Z)) (bu (H2.seen 2 Z)) (bu (H2.seen 3 Z)) (by first | assumption | omega) (by first | assumption | omega)) (fun v1 w3 r1=>?_))))))));obtain ⟨e3,vs1,r1,hR1,hM1⟩:=r1;obtain ⟨fp1,H3⟩:=H2.res e3 r1;obtain ⟨sa1,sk1,sq1⟩:=aB (H3.mine 2 Z);cases sq1;have hl1:vs1.length=(ey z).length:=by rw [← hM1,List.length_map]
 have hRw1:RdV w zF11 vs1:=hR1.back H3.ext (Rp.lt zO11);refine sA Z Z (aa (ab (sM Z Z (sV Z (t6 Z) ?_))));have lc:=iw (xs:=vs1.map RecV.r) (p:=nmP nm) (by rw [List.length_map]; exact (hRw1.to H3.ext).list (H3.mine 2 Z)) func236 Z xV (fun w1 e1 i0 hi0 a6 c6 a7 c7 a8 c8 K s6 s7 s8=>jU (e1.heap (H3.box 0 Z)));rw [List.length_map,hM1] at lc;refine sE func235 qp Z lc H3 (fun w4 e4 H4=>sA Z Z (aa (ac (ab (sR 2 Z (aa (au Z (fun c1=>?_) (fun c1=>?_))))))))
 ·refine ab (sV Z (dH sS Z Z) (bE (wn Z) aL Z Z Z Z H4 1 Z Z (fun w5 e5 H5=>?_)));dsimp only[lNA,lCA,lSZ,lSS,bk] at H5;refine sA Z Z (aa (cj (hQ _ _ (D1 results108 Z (bh az Z aL Z (At.whole (H5.box 1 Z))) Z ?_))));obtain ⟨hi1,hi2⟩:=vh (z:=z) (nm:=nm) (by omega);rw [hi1,hi2];exact ⟨H5.ext,none,0,none,0,none,0,Z,CG⟩
 ·refine ag (ac ?_);obtain ⟨hi1,hi2,hi3⟩:=CK (z:=z) (nm:=nm) (by omega);obtain ⟨eb1,eo1,ee1,ec1,eK1⟩:=H4.viewAt 2 Z (cF (nmP nm) (ey z)).toNat (by omega);refine aj (sR 2 Z (sV Z (ao aS aL Z Z ee1 (cF (nmP nm) (ey z)).toNat (by omega) (by omega)) (sV Z (an az Z aL Z Z ec1) (bE (wn Z) aL Z Z Z Z H4 1 Z Z (fun w6 e6 H6=>?_)))));dsimp only[lNA,lCA,lSZ,lSS,bk] at H6;refine sA Z Z (aa (cj (hQ _ _ (D1 results108 Z (bh az Z aL Z (At.whole (H6.box 1 Z))) Z ?_))));rw [hi2,hi3,← dZ hM1 (by omega)];exact ⟨H6.ext,_,_,_,_,_,_,Z,(hRw1.inAt (k:=(cF (nmP nm) (ey z)).toNat) (by omega)).to H6.ext⟩
end Go.Wk
namespace Go.Wk
open Go.Proofs Rp Go.Proofs.Tryz
set_option maxRecDepth 10000
theorem ld {w:World}{xs:List Block}{xsA:Option Addr}{xsC:Nat}{k:Int}{fp:List Nat}(o:own true w [.slice xsA xs.length xsC] xs fp) (nd:fp.Nodup) (hk:0≤k∧k+mkL df xs≤4611686018427387904):Ret Tryz.prog 319 #[.slice xsA xs.length xsC,.int .i64 k] w fun v w'=>(v = .int .i64 (k+mkL df xs)∧∃ xs',Mut w w' fp [.slice xsA xs.length xsC] xs'∧(xs'.length=xs.length∧mkL df xs'=mkL df xs∧MkL MkBlock df xs' k)):=by
 have len:=oL o;refine aA (vs:=[.slice xsA xs.length xsC,.int .i64 k]) func319 Z ntmps319 Z (fun Q hQ hN=>?_);have H0:=Sep.begin o nd;refine ab (sA Z Z (aa (ac (ab (sA Z Z (aa (ai (aM (γ:=Nat × List Block × List Nat) (fun (i,ys,f)=>[(0,.slice xsA xs.length xsC),(1,.int .i64 (k+bP (fun i=>df (xs.getD i default)) i)),(5,.int .i64 i)]) (fun (i,ys,f) w'=>Sep (· ∈ fp) w [mine [.slice xsA xs.length xsC] ys f] [] w'∧MkInv MkBlock df xs k i ys∧True) (fun (i,ys,f)=>xs.length-i) (0,xs,fp) ⟨Z,eqI (by simp [bP]),Z,trivial⟩ ⟨H0,lp,trivial⟩ (fun (i,ys,f) w1 H1=>?_)))))))));obtain ⟨H1,hI,_⟩:=H1;refine ac (ac ?_);have hiB:=hI.1;have hys:=hI.2.1;refine aj (sR 2 Z (sV Z (ax gt Z) (sV Z (aI Z Z) (aa (au Z (fun c1=>?_) (fun c1=>?_))))))
 ·refine ag (ac (ai (ac ?_)));have hiL:i<xs.length:=by omega
  have hat:=vK hI;obtain ⟨sg,sl⟩:=qU (c:=df) hiL;have hci:df (ys.getD i default)=df (xs.getD i default):=hI.2.2.1 i;have hcu:df (ys.getD i default)=1+(ys.getD i default).Bytes.length:=Z;obtain ⟨eb1,eo1,eT1,eF1,eG1,ea1,ek1,eg1,ee1,eK1,eH1⟩:=Block.focus H1 0 Z i (by omega);have eK1U:=eK1;unfold Block.Ok at eK1U
  try unfold I64ok at eK1U
  try unfold maxLen at eK1U
  try dsimp only[lNA,lCA,lSZ,lSS] at eH1
  refine aj (sR 3 Z (sV Z (ao gt kO Z Z ee1 i (by omega) (by omega)) (sF jC Z ts2 (ks (wn Z) ts2 eH1 0 0 Z Z Z Z Z (fun w2 H2=>?_)))));dsimp only[lNA,lCA,lSZ,lSS,bk] at H2;refine aa (ab (sM Z Z (sV Z (aw Z Z iO) (sA Z Z (aa (aj (sR 2 Z (sV Z (ao gt kO Z Z ee1 i (by omega) (by omega)) (sF jC Z aW (sV Z (ah aH Z Z (bW (H2.holAt 0 Z) 1 Z)) (sM Z Z (sC func114 jZ Z (dy (H2.mine 2 Z) (H2.nodup1 (i:=2) Z) (by constructor<;>omega)) (fun v1 w3 r1=>?_)))))))))))));obtain ⟨rfl,mx1,mm1,ml1,mk1⟩:=r1;obtain ⟨fp1,H3⟩:=H2.mut 2 Z mm1
  try dsimp only[lNA,lCA,lSZ,lSS] at H3
  refine sA Z Z (aa (aj (sM Z Z (sV Z (aw Z Z iO) (sA Z Z (aa ?_))))));have okz:(⟨(k+bP (fun i=>df (xs.getD i default)) i),mx1⟩:Block).Ok:=by unfold Block.Ok I64ok; dsimp only; omega
  obtain ⟨fp2,H4⟩:=Block.fill H3 0 2 Z Z Z okz
  try dsimp only[lNA,lCA,lSZ,lSS] at H4
  refine ⟨(i+1,_,_),⟨Z,eqI (by omega),Z,trivial⟩,⟨(H4.dtake 1),nG hI hiL (by rw [← hci]; unfold df; dsimp only; omega) ⟨Z,mk1⟩,trivial⟩,by dsimp only; omega⟩
 ·refine aD (ab (sR 2 Z (rN hQ results319 Z ?_)));obtain rfl:i=xs.length:=by omega
  exact ⟨Z,_,H1.done,qC hI⟩
theorem kU {w:World}{xs:List Drive}{xsA:Option Addr}{xsC:Nat}{k:Int}{fp:List Nat}(o:own true w [.slice xsA xs.length xsC] xs fp) (nd:fp.Nodup) (hk:0≤k∧k+mkL br xs≤4611686018427387904):Ret Tryz.prog 201 #[.slice xsA xs.length xsC,.int .i64 k] w fun v w'=>(v = .int .i64 (k+mkL br xs)∧∃ xs',Mut w w' fp [.slice xsA xs.length xsC] xs'∧(xs'.length=xs.length∧mkL br xs'=mkL br xs∧MkL MkDrive br xs' k)):=by
 have len:=oL o;refine aA (vs:=[.slice xsA xs.length xsC,.int .i64 k]) func201 Z ntmps201 Z (fun Q hQ hN=>?_);have H0:=Sep.begin o nd;refine ab (sA Z Z (aa (ac (ab (sA Z Z (aa (ai (aM (γ:=Nat × List Drive × List Nat) (fun (i,ys,f)=>[(0,.slice xsA xs.length xsC),(1,.int .i64 (k+bP (fun i=>br (xs.getD i default)) i)),(5,.int .i64 i)]) (fun (i,ys,f) w'=>Sep (· ∈ fp) w [mine [.slice xsA xs.length xsC] ys f] [] w'∧MkInv MkDrive br xs k i ys∧True) (fun (i,ys,f)=>xs.length-i) (0,xs,fp) ⟨Z,eqI (by simp [bP]),Z,trivial⟩ ⟨H0,lp,trivial⟩ (fun (i,ys,f) w1 H1=>?_)))))))));obtain ⟨H1,hI,_⟩:=H1;refine ac (ac ?_);have hiB:=hI.1;have hys:=hI.2.1;refine aj (sR 2 Z (sV Z (ax eI Z) (sV Z (aI Z Z) (aa (au Z (fun c1=>?_) (fun c1=>?_))))))
 ·refine ag (ac (ai (ac ?_)));have hiL:i<xs.length:=by omega
  have hat:=vK hI;obtain ⟨sg,sl⟩:=qU (c:=br) hiL;have hci:br (ys.getD i default)=br (xs.getD i default):=hI.2.2.1 i;have hcu:br (ys.getD i default)=1+mkL df (ys.getD i default).Blocks:=Z;obtain ⟨eb1,eo1,eT1,eF1,eG1,ea1,ek1,eg1,ee1,eK1,eH1⟩:=Drive.focus H1 0 Z i (by omega);have eK1U:=eK1;unfold Drive.Ok at eK1U
  try unfold I64ok at eK1U
  try unfold maxLen at eK1U
  try dsimp only[lNA,lCA,lSZ,lSS] at eH1
  refine aj (sR 3 Z (sV Z (oB Z Z (by omega)) (sV Z (bJ Z Z) (sV Z (ao eI iy Z Z ee1 i (by omega) (by omega)) (sF iC Z ts4 (ks (wn Z) ts4 eH1 0 0 Z Z Z Z Z (fun w2 H2=>?_)))))));dsimp only[lNA,lCA,lSZ,lSS,bk] at H2;refine aa (ab (sM Z Z (sV Z (aw Z Z iO) (sA Z Z (aa (aj (sR 2 Z (sV Z (ao eI iy Z Z ee1 i (by omega) (by omega)) (sF iC Z rX (sV Z (ah gt Z Z (bW (H2.holAt 0 Z) 1 Z)) (sM Z Z (sC func319 y5 Z (ld (H2.mine 2 Z) (H2.nodup1 (i:=2) Z) (by constructor<;>omega)) (fun v1 w3 r1=>?_)))))))))))));obtain ⟨rfl,mx1,mm1,ml1⟩:=r1;obtain ⟨fp1,H3⟩:=H2.mut 2 Z mm1
  try dsimp only[lNA,lCA,lSZ,lSS] at H3
  refine sA Z Z (aa (aj (sM Z Z (sV Z (aw Z Z iO) (sA Z Z (aa ?_))))));have okz:(⟨decide ((k+bP (fun i=>br (xs.getD i default)) i).tmod 3=0),mx1⟩:Drive).Ok:=trivial;obtain ⟨fp2,H4⟩:=Drive.fill H3 0 2 Z Z Z okz
  try dsimp only[lNA,lCA,lSZ,lSS] at H4
  refine ⟨(i+1,_,_),⟨Z,eqI (by omega),Z,trivial⟩,⟨(H4.dtake 1),nG hI hiL (by rw [← hci]; unfold br; dsimp only; rw [ml1.2.1]) ⟨Z,ml1.2.2⟩,trivial⟩,by dsimp only; omega⟩
 ·refine aD (ab (sR 2 Z (rN hQ results201 Z ?_)));obtain rfl:i=xs.length:=by omega
  exact ⟨Z,_,H1.done,qC hI⟩
theorem kQ {w:World}{xs:List (List Drive)}{xsA:Option Addr}{xsC:Nat}{k:Int}{fp:List Nat}(o:own true w [.slice xsA xs.length xsC] xs fp) (nd:fp.Nodup) (hk:0≤k∧k+mkL (mkL br) xs≤4611686018427387904):Ret Tryz.prog 94 #[.slice xsA xs.length xsC,.int .i64 k] w fun v w'=>(v = .int .i64 (k+mkL (mkL br) xs)∧∃ xs',Mut w w' fp [.slice xsA xs.length xsC] xs'∧(xs'.length=xs.length∧mkL (mkL br) xs'=mkL (mkL br) xs∧MkL (MkL MkDrive br) (mkL br) xs' k)):=by
 have len:=oL o;refine aA (vs:=[.slice xsA xs.length xsC,.int .i64 k]) func94 Z ntmps94 Z (fun Q hQ hN=>?_);have H0:=Sep.begin o nd;refine ab (sA Z Z (aa (ac (ab (sA Z Z (aa (ai (aM (γ:=Nat × List (List Drive) × List Nat) (fun (i,ys,f)=>[(0,.slice xsA xs.length xsC),(1,.int .i64 (k+bP (fun i=>(mkL br) (xs.getD i default)) i)),(5,.int .i64 i)]) (fun (i,ys,f) w'=>Sep (· ∈ fp) w [mine [.slice xsA xs.length xsC] ys f] [] w'∧MkInv (MkL MkDrive br) (mkL br) xs k i ys∧True) (fun (i,ys,f)=>xs.length-i) (0,xs,fp) ⟨Z,eqI (by simp [bP]),Z,trivial⟩ ⟨H0,lp,trivial⟩ (fun (i,ys,f) w1 H1=>?_)))))))));obtain ⟨H1,hI,_⟩:=H1;refine ac (ac ?_);have hiB:=hI.1;have hys:=hI.2.1;refine aj (sR 2 Z (sV Z (ax eo Z) (sV Z (aI Z Z) (aa (au Z (fun c1=>?_) (fun c1=>?_))))))
 ·refine ag (ac (ai ?_));have hiL:i<xs.length:=by omega
  have hat:=vK hI;obtain ⟨sg,sl⟩:=qU (c:=(mkL br)) hiL;have hci:(mkL br) (ys.getD i default)=(mkL br) (xs.getD i default):=hI.2.2.1 i;have hcu:mkL br (ys.getD i default)=mkL br (ys.getD i []):=Z;obtain ⟨eb1,eo1,eT1,eF1,eG1,ea1,ek1,eg1,ee1,eH1⟩:=H1.focusL 0 Z i (by omega)
  try dsimp only[lNA,lCA,lSZ,lSS] at eH1
  refine aj (sR 2 Z (sV Z (ao eo nj Z Z ee1 i (by omega) (by omega)) (sV Z (ah eI Z Z (bW (eH1.holAt 0 Z) 0 Z)) (sM Z Z (sC func201 wU Z (kU (eH1.mine 1 Z) (eH1.nodup1 (i:=1) Z) (by constructor<;>omega)) (fun v1 w2 r1=>?_))))));obtain ⟨rfl,mx1,mm1,ml1⟩:=r1;obtain ⟨fp1,H2⟩:=eH1.mut 1 Z mm1
  try dsimp only[lNA,lCA,lSZ,lSS] at H2
  refine sA Z Z (aa (aj (sM Z Z (sV Z (aw Z Z iO) (sA Z Z (aa ?_))))));obtain ⟨fp2,H3⟩:=H2.fill 0 1 Z Z Z
  try dsimp only[lNA,lCA,lSZ,lSS] at H3
  refine ⟨(i+1,_,_),⟨Z,eqI (by omega),Z,trivial⟩,⟨(H3.dtake 1),nG hI hiL (by rw [← hci]; exact ml1.2.1) ml1.2.2,trivial⟩,by dsimp only; omega⟩
 ·refine aD (ab (sR 2 Z (rN hQ results94 Z ?_)));obtain rfl:i=xs.length:=by omega
  exact ⟨Z,_,H1.done,qC hI⟩
theorem mG {w:World}{k:Int}(hk : -1000≤k∧k≤4611686018427388904):Ret Tryz.prog 320 #[.int .i64 k] w fun v w'=>Ext No w w'∧(v = .string (pD k)∧(pD k).size≤maxLen):=by
 refine aA (vs:=[.int .i64 k]) func320 Z ntmps320 Z (fun Q hQ hN=>?_);have H0:=Sep.start (w:=w) (F:=[]) (by simp);refine ab (sA Z Z (aa (ac (ab (sR 2 Z (aa (au Z (fun c1=>?_) (fun c1=>?_))))))))
 ·refine ab (rA hQ results320 Z ?_);exact ⟨H0.ext,by rw [pD,if_pos (by omega)],by rw [pD,if_pos (by omega)]; exact Nat.le_of_ble_eq_true Z⟩
 ·refine ag (ab (sA Z Z (aa (ac (ai (bH (γ:=Nat × Nat × ByteArray) H0 [(2,_)] ⟨Z,trivial⟩ (fun (f,m,out)=>[(0,.int .i64 (m:Nat)),(3,.string out)]) (fun (f,m,out)=>(m:Int)≤k∧m<10^f∧out.size+f≤30∧digits 30 k.toNat ⟨#[]⟩=digits f m out) (fun (f,m,out)=>m) (30,k.toNat,⟨#[]⟩) ⟨eqI (by omega),Z,trivial⟩ ⟨by omega,Af (by omega),by decide,Z⟩ (fun (f,m,out) w1 H1 ⟨hm,hf,ho,hd⟩=>?_)))))));dsimp only[lCA,lNA];refine ac (ab (sR 2 Z (aa (au Z (fun c2=>?_) (fun c2=>?_)))))
  ·refine ag (ai (ac ?_));have hb:=DF (a:=(m:Int)) (b:=10) (by omega) (by omega);refine aj (sM Z Z (sV Z (oB Z Z (by omega)) (sV Z (aw Z Z iO) (sV Z (gT tu3 tu5 Z) (eC (wn Z) Z aH aR Z Z Z Z H1 (fun b1 w2 e1 g1 H2=>?_))))));have H3:=H2.litW 0 Z (dS (x:=nM (48+(m:Int).tmod 10)))
   try dsimp only[lNA,lCA,lSZ,lSS] at H3
   refine sV Z (yu aH tu5 tu9 Z (H3.mine 0 Z)) ((sM Z Z (sV Z (zz Z Z (by rw [tD]; simp only [List.length_cons,List.length_nil]; omega)) (sA Z Z (aa ?_)))));have hb2:=Dk (a:=(m:Int)) (b:=10) (by omega) (by omega);refine aj (sM Z Z (sV Z (wI Z Z (by omega) iO) (sA Z Z (aa ?_))))
   rcases f with _ | f
   ·simp at hf; omega
   ·refine ⟨(f,m / 10,strB [UInt8.ofNat (48+m % 10)]++out),⟨eqI (by rw [Int.tdiv_eq_ediv_of_nonneg (by omega)]; dsimp only; omega),Fe (by rw [D9]),Z,trivial⟩,⟨(H3.dtake 0),by dsimp only; omega,by rw [Nat.pow_succ] at hf; dsimp only; omega,by dsimp only; rw [ByteArray.size_append,tD]; simp only [List.length_cons,List.length_nil]; omega,hd.trans (uN (by omega))⟩,by dsimp only; omega⟩
  ·refine aD (ac ?_);have h1z:(⟨#[109]⟩:ByteArray).size=1:=Z;refine aj (sM Z Z (sV Z (zz Z Z (by omega)) (rA hQ results320 Z ?_)));obtain rfl:m=0:=by omega
   have hq:pD k=⟨#[109]⟩++out:=by rw [pD,if_neg (by omega),hd,u2]
   exact ⟨H1.ext,by rw [hq],by rw [hq,ByteArray.size_append]; unfold maxLen; omega⟩
theorem my {w:World}{xs:List Rec}{xsA:Option Addr}{xsC:Nat}{k:Int}{fp:List Nat}(o:own true w [.slice xsA xs.length xsC] xs fp) (nd:fp.Nodup) (hk:0≤k∧k+mkL dr xs≤4611686018427387904):Ret Tryz.prog 202 #[.slice xsA xs.length xsC,.int .i64 k] w fun v w'=>(v = .int .i64 (k+mkL dr xs)∧∃ xs',Mut w w' fp [.slice xsA xs.length xsC] xs'∧(xs'.length=xs.length∧mkL dr xs'=mkL dr xs∧MkL MkRec dr xs' k)):=by
 have len:=oL o;refine aA (vs:=[.slice xsA xs.length xsC,.int .i64 k]) func202 Z ntmps202 Z (fun Q hQ hN=>?_);have H0:=Sep.begin o nd;refine ab (sA Z Z (aa (ac (ab (sA Z Z (aa (ai (aM (γ:=Nat × List Rec × List Nat) (fun (i,ys,f)=>[(0,.slice xsA xs.length xsC),(1,.int .i64 (k+bP (fun i=>dr (xs.getD i default)) i)),(5,.int .i64 i)]) (fun (i,ys,f) w'=>Sep (· ∈ fp) w [mine [.slice xsA xs.length xsC] ys f] [] w'∧MkInv MkRec dr xs k i ys∧True) (fun (i,ys,f)=>xs.length-i) (0,xs,fp) ⟨Z,eqI (by simp [bP]),Z,trivial⟩ ⟨H0,lp,trivial⟩ (fun (i,ys,f) w1 H1=>?_)))))))));obtain ⟨H1,hI,_⟩:=H1;refine ac (ac ?_);have hiB:=hI.1;have hys:=hI.2.1;refine aj (sR 2 Z (sV Z (ax aS Z) (sV Z (aI Z Z) (aa (au Z (fun c1=>?_) (fun c1=>?_))))))
 ·refine ag (ac (ai (ac ?_)));have hiL:i<xs.length:=by omega
  have hat:=vK hI;obtain ⟨sg,sl⟩:=qU (c:=dr) hiL;have hci:dr (ys.getD i default)=dr (xs.getD i default):=hI.2.2.1 i;have hcu:dr (ys.getD i default)=6+(ys.getD i default).Rows.length+(ys.getD i default).Data.length+(ys.getD i default).Delta.length:=Z;obtain ⟨eb1,eo1,eT1,eF1,eG1,ea1,ek1,ea2,ek2,ea3,ek3,eg1,eg2,eg3,ee1,eK1,eH1⟩:=Rec.focus H1 0 Z i (by omega);have eK1U:=eK1;unfold Rec.Ok at eK1U
  try unfold I64ok at eK1U
  try unfold maxLen at eK1U
  try dsimp only[lNA,lCA,lSZ,lSS] at eH1
  refine aj (sR 3 Z (sV Z (ao aS aL Z Z ee1 i (by omega) (by omega)) (sF az Z ts2 (ks (wn Z) ts2 eH1 0 0 Z Z Z Z Z (fun w2 H2=>?_)))));dsimp only[lNA,lCA,lSZ,lSS,bk] at H2;refine aa (ab (sM Z Z (sV Z (aw Z Z iO) (sA Z Z (aa (ab (sR 3 Z (sV Z (ao aS aL Z Z ee1 i (by omega) (by omega)) (sF az Z ts2 (ks (wn Z) ts2 H2 0 1 Z Z Z Z Z (fun w3 H3=>?_)))))))))));dsimp only[lNA,lCA,lSZ,lSS,bk] at H3;refine aa (ab (sM Z Z (sV Z (aw Z Z iO) (sA Z Z (aa (ab (sR 3 Z (sC func320 yX Z (mG (by omega)) (fun v1 w4 r1=>?_)))))))));obtain ⟨e3,rfl,mt1⟩:=r1;have H4:=H3.to e3;refine sV Z (ao aS aL Z Z ee1 i (by omega) (by omega)) (sF az Z ts9 (ks (wn Z) ts9 H4 0 2 Z Z Z Z Z (fun w5 H5=>?_)));dsimp only[lNA,lCA,lSZ,lSS,bk] at H5;refine aa (ab (sM Z Z (sV Z (aw Z Z iO) (sA Z Z (aa (ab (sR 3 Z (sV Z (ao aS aL Z Z ee1 i (by omega) (by omega)) (sF az Z ts2 (ks (wn Z) ts2 H5 0 3 Z Z Z Z Z (fun w6 H6=>?_)))))))))));dsimp only[lNA,lCA,lSZ,lSS,bk] at H6;refine aa (ab (sM Z Z (sV Z (aw Z Z iO) (sA Z Z (aa (ab (sR 3 Z (sV Z (ao aS aL Z Z ee1 i (by omega) (by omega)) (sF az Z ts2 (ks (wn Z) ts2 H6 0 4 Z Z Z Z Z (fun w7 H7=>?_)))))))))));dsimp only[lNA,lCA,lSZ,lSS,bk] at H7;refine aa (ab (sM Z Z (sV Z (aw Z Z iO) (sA Z Z (aa (ab (sR 3 Z (sV Z (ao aS aL Z Z ee1 i (by omega) (by omega)) (sF az Z ts2 (ks (wn Z) ts2 H7 0 5 Z Z Z Z Z (fun w8 H8=>?_)))))))))));dsimp only[lNA,lCA,lSZ,lSS,bk] at H8;refine aa (ab (sM Z Z (sV Z (aw Z Z iO) (sA Z Z (aa (ab (sR 2 Z (sV Z (ao aS aL Z Z ee1 i (by omega) (by omega)) (sF az Z cB (sV Z (ah bd Z Z (bW (H8.holAt 0 Z) 6 Z)) (sM Z Z (sC func95 ti Z (gO (H8.mine 2 Z) (H8.nodup1 (i:=2) Z) (by constructor<;>omega)) (fun v2 w9 r2=>?_)))))))))))));obtain ⟨rfl,mx1,mm1,ml1,mk1⟩:=r2;obtain ⟨fp1,H9⟩:=H8.mut 2 Z mm1
  try dsimp only[lNA,lCA,lSZ,lSS] at H9
  refine sA Z Z (aa (ab (sR 2 Z (sV Z (ao aS aL Z Z ee1 i (by omega) (by omega)) (sF az Z aW (sV Z (ah aH Z Z (bW (H9.holAt 0 Z) 7 Z)) (sM Z Z (sC func114 jZ Z (dy (H9.mine 3 Z) (H9.nodup1 (i:=3) Z) (by constructor<;>omega)) (fun v3 w10 r3=>?_)))))))));obtain ⟨rfl,mx2,mm2,ml2,mk2⟩:=r3;obtain ⟨fp2,H10⟩:=H9.mut 3 Z mm2
  try dsimp only[lNA,lCA,lSZ,lSS] at H10
  refine sA Z Z (aa (aj (sR 2 Z (sV Z (ao aS aL Z Z ee1 i (by omega) (by omega)) (sF az Z aW (sV Z (ah aH Z Z (bW (H10.holAt 0 Z) 8 Z)) (sM Z Z (sC func114 jZ Z (dy (H10.mine 4 Z) (H10.nodup1 (i:=4) Z) (by constructor<;>omega)) (fun v4 w11 r4=>?_)))))))));obtain ⟨rfl,mx3,mm3,ml3,mk3⟩:=r4;obtain ⟨fp3,H11⟩:=H10.mut 4 Z mm3
  try dsimp only[lNA,lCA,lSZ,lSS] at H11
  refine sA Z Z (aa (aj (sM Z Z (sV Z (aw Z Z iO) (sA Z Z (aa ?_))))));have okz:(⟨(k+bP (fun i=>dr (xs.getD i default)) i),(k+bP (fun i=>dr (xs.getD i default)) i)+1,pD ((k+bP (fun i=>dr (xs.getD i default)) i)+1+1),(k+bP (fun i=>dr (xs.getD i default)) i)+1+1+1,(k+bP (fun i=>dr (xs.getD i default)) i)+1+1+1+1,(k+bP (fun i=>dr (xs.getD i default)) i)+1+1+1+1+1,mx1,mx2,mx3⟩:Rec).Ok:=by unfold Rec.Ok I64ok; dsimp only; omega
  obtain ⟨fp4,H12⟩:=Rec.fill H11 0 2 3 4 Z Z Z Z Z Z Z Z Z Z okz
  try dsimp only[lNA,lCA,lSZ,lSS] at H12
  refine ⟨(i+1,_,_),⟨Z,eqI (by omega),Z,trivial⟩,⟨(H12.dtake 1),nG hI hiL (by rw [← hci]; unfold dr; dsimp only; omega) (by
   refine ⟨Z,Z,?_,by dsimp only; omega,by dsimp only; omega,by dsimp only; omega,?_,?_,?_⟩
   ·dsimp only; congr 1; omega
   ·have:=mk1; dsimp only; rwa [show (k+bP (fun i=>dr (xs.getD i default)) i)+1+1+1+1+1+1=(k+bP (fun i=>dr (xs.getD i default)) i)+6 by omega] at this
   ·have:=mk2; dsimp only; rwa [show (k+bP (fun i=>dr (xs.getD i default)) i)+1+1+1+1+1+1+((ys.getD i default).Rows.length:Int)=(k+bP (fun i=>dr (xs.getD i default)) i)+6+mx1.length by omega] at this
   ·have:=mk3; dsimp only; rwa [show (k+bP (fun i=>dr (xs.getD i default)) i)+1+1+1+1+1+1+((ys.getD i default).Rows.length:Int)+((ys.getD i default).Data.length:Int)=(k+bP (fun i=>dr (xs.getD i default)) i)+6+mx1.length+mx2.length by omega] at this),trivial⟩,by dsimp only; omega⟩
 ·refine aD (ab (sR 2 Z (rN hQ results202 Z ?_)));obtain rfl:i=xs.length:=by omega
  exact ⟨Z,_,H1.done,qC hI⟩
theorem lY {w:World}{xs:List Tape}{xsA:Option Addr}{xsC:Nat}{k:Int}{fp:List Nat}(o:own true w [.slice xsA xs.length xsC] xs fp) (nd:fp.Nodup) (hk:0≤k∧k+mkL dI xs≤4611686018427387904):Ret Tryz.prog 96 #[.slice xsA xs.length xsC,.int .i64 k] w fun v w'=>(v = .int .i64 (k+mkL dI xs)∧∃ xs',Mut w w' fp [.slice xsA xs.length xsC] xs'∧(xs'.length=xs.length∧mkL dI xs'=mkL dI xs∧MkL MkTape dI xs' k)):=by
 have len:=oL o;refine aA (vs:=[.slice xsA xs.length xsC,.int .i64 k]) func96 Z ntmps96 Z (fun Q hQ hN=>?_);have H0:=Sep.begin o nd;refine ab (sA Z Z (aa (ac (ab (sA Z Z (aa (ai (aM (γ:=Nat × List Tape × List Nat) (fun (i,ys,f)=>[(0,.slice xsA xs.length xsC),(1,.int .i64 (k+bP (fun i=>dI (xs.getD i default)) i)),(5,.int .i64 i)]) (fun (i,ys,f) w'=>Sep (· ∈ fp) w [mine [.slice xsA xs.length xsC] ys f] [] w'∧MkInv MkTape dI xs k i ys∧True) (fun (i,ys,f)=>xs.length-i) (0,xs,fp) ⟨Z,eqI (by simp [bP]),Z,trivial⟩ ⟨H0,lp,trivial⟩ (fun (i,ys,f) w1 H1=>?_)))))))));obtain ⟨H1,hI,_⟩:=H1;refine ac (ac ?_);have hiB:=hI.1;have hys:=hI.2.1;refine aj (sR 2 Z (sV Z (ax cD Z) (sV Z (aI Z Z) (aa (au Z (fun c1=>?_) (fun c1=>?_))))))
 ·refine ag (ac (ai (ac ?_)));have hiL:i<xs.length:=by omega
  have hat:=vK hI;obtain ⟨sg,sl⟩:=qU (c:=dI) hiL;have hci:dI (ys.getD i default)=dI (xs.getD i default):=hI.2.2.1 i;have hcu:dI (ys.getD i default)=1+mkL dr (ys.getD i default).Recs:=Z;obtain ⟨eb1,eo1,eT1,eF1,eG1,ea1,ek1,eg1,ee1,eK1,eH1⟩:=Tape.focus H1 0 Z i (by omega);have eK1U:=eK1;unfold Tape.Ok at eK1U
  try unfold I64ok at eK1U
  try unfold maxLen at eK1U
  try dsimp only[lNA,lCA,lSZ,lSS] at eH1
  refine aj (sR 3 Z (sV Z (oB Z Z (by omega)) (sV Z (bJ Z Z) (sV Z (ao cD cT Z Z ee1 i (by omega) (by omega)) (sF cP Z ts4 (ks (wn Z) ts4 eH1 0 0 Z Z Z Z Z (fun w2 H2=>?_)))))));dsimp only[lNA,lCA,lSZ,lSS,bk] at H2;refine aa (ab (sM Z Z (sV Z (aw Z Z iO) (sA Z Z (aa (aj (sR 2 Z (sV Z (ao cD cT Z Z ee1 i (by omega) (by omega)) (sF cP Z iS (sV Z (ah aS Z Z (bW (H2.holAt 0 Z) 1 Z)) (sM Z Z (sC func202 xk Z (my (H2.mine 2 Z) (H2.nodup1 (i:=2) Z) (by constructor<;>omega)) (fun v1 w3 r1=>?_)))))))))))));obtain ⟨rfl,mx1,mm1,ml1⟩:=r1;obtain ⟨fp1,H3⟩:=H2.mut 2 Z mm1
  try dsimp only[lNA,lCA,lSZ,lSS] at H3
  refine sA Z Z (aa (aj (sM Z Z (sV Z (aw Z Z iO) (sA Z Z (aa ?_))))));have okz:(⟨decide ((k+bP (fun i=>dI (xs.getD i default)) i).tmod 3=0),mx1⟩:Tape).Ok:=trivial;obtain ⟨fp2,H4⟩:=Tape.fill H3 0 2 Z Z Z okz
  try dsimp only[lNA,lCA,lSZ,lSS] at H4
  refine ⟨(i+1,_,_),⟨Z,eqI (by omega),Z,trivial⟩,⟨(H4.dtake 1),nG hI hiL (by rw [← hci]; unfold dI; dsimp only; rw [ml1.2.1]) ⟨Z,ml1.2.2⟩,trivial⟩,by dsimp only; omega⟩
 ·refine aD (ab (sR 2 Z (rN hQ results96 Z ?_)));obtain rfl:i=xs.length:=by omega
  exact ⟨Z,_,H1.done,qC hI⟩
end Go.Wk
namespace Go.Wk
open Go.Proofs Rp Go.Proofs.Tryz
set_option maxRecDepth 10000
theorem lV {w:World}{x:Wld}{xA9 xA10 xA11:Option Addr}{xC9 xC10 xC11:Nat}{k:Int}{fp:List Nat}(xK:x.Ok) (o:own true w [.int .i64 x.Shape.Groups,.int .i64 x.Shape.Column,.int .i64 x.Shape.Data,.int .i64 x.Shape.Spare,.int .i64 x.Shape.Rows,.int .i64 x.Shape.Cap,.int .i64 x.Shape.Batch,.int .i64 x.Shape.Queue,.int .i64 x.Shape.Stage,.slice xA9 x.Groups.length xC9,.slice xA10 x.On.length xC10,.slice xA11 x.Tapes.length xC11,.int .i64 x.Writes,.int .i64 x.Stop,.bool x.Down] x fp) (nd:fp.Nodup) (hk:0≤k∧k+li x≤4611686018427387904):Ret Tryz.prog 21 #[x.val xA9 xC9 xA10 xC10 xA11 xC11,.int .i64 k] w fun v w'=>(v = .int .i64 (k+li x)∧∃ x':Wld,Mut w w' fp [.int .i64 x.Shape.Groups,.int .i64 x.Shape.Column,.int .i64 x.Shape.Data,.int .i64 x.Shape.Spare,.int .i64 x.Shape.Rows,.int .i64 x.Shape.Cap,.int .i64 x.Shape.Batch,.int .i64 x.Shape.Queue,.int .i64 x.Shape.Stage,.slice xA9 x.Groups.length xC9,.slice xA10 x.On.length xC10,.slice xA11 x.Tapes.length xC11,.int .i64 x.Writes,.int .i64 x.Stop,.bool x.Down] x'∧(x'.Groups.length=x.Groups.length∧x'.On.length=x.On.length∧x'.Tapes.length=x.Tapes.length∧li x'=li x∧MkWld x' k∧x'.Shape=x.Shape∧x'.Writes=x.Writes∧x'.Stop=x.Stop∧x'.Down=x.Down)):=by
 unfold li at hk;refine aA (vs:=[x.val xA9 xC9 xA10 xC10 xA11 xC11,.int .i64 k]) func21 Z ntmps21 Z (fun Q hQ hN=>?_);obtain ⟨f9,f10,f11,ef,ok,o9,o10,o11⟩:=iG o;have H0:=(Sep.begin o nd).part 0 Z [mine [.slice xA9 x.Groups.length xC9] x.Groups f9,mine [.slice xA10 x.On.length xC10] x.On f10,mine [.slice xA11 x.Tapes.length xC11] x.Tapes f11] (ae o9 (ae o10 (ae o11 (by simp)))) (by simp [blocks,mine,ef])
 try dsimp only[lNA,lCA,lSZ,lSS] at H0
 refine ab (aV (wn Z) Z Z H0 (fun b1 w1 e1 g1 H1=>sA Z Z (aa (ab (sF bn Z lf (sLd eo (H1.box 4 Z) Z (sM Z Z (sC func94 AS Z (kQ (H1.mine 1 Z) (H1.nodup1 (i:=1) Z) (by constructor<;>omega)) (fun v1 w2 r1=>?_)))))))));obtain ⟨rfl,mx1,mm1,ml1⟩:=r1;obtain ⟨fp1,H2⟩:=H1.mut 1 Z mm1
 try dsimp only[lNA,lCA,lSZ,lSS] at H2
 refine sA Z Z (aa (ab (sF bn Z cB (sLd bd (H2.box 4 Z) Z (sM Z Z (sC func95 ti Z (gO (H2.mine 2 Z) (H2.nodup1 (i:=2) Z) (by constructor<;>omega)) (fun v2 w3 r2=>?_)))))));obtain ⟨rfl,mx2,mm2,ml2,mk1⟩:=r2;obtain ⟨fp2,H3⟩:=H2.mut 2 Z mm2
 try dsimp only[lNA,lCA,lSZ,lSS] at H3
 refine sA Z Z (aa (ab (sF bn Z gz (sLd cD (H3.box 4 Z) Z (sM Z Z (sC func96 AL Z (lY (H3.mine 3 Z) (H3.nodup1 (i:=3) Z) (by constructor<;>omega)) (fun v3 w4 r3=>?_)))))));obtain ⟨rfl,mx3,mm3,ml3⟩:=r3;obtain ⟨fp3,H4⟩:=H3.mut 3 Z mm3
 try dsimp only[lNA,lCA,lSZ,lSS] at H4
 refine sA Z Z (aa (ab (sR 2 Z (rN hQ results21 Z ?_))));exact ⟨congrArg (Value.int .i64) (by unfold li; omega),Wld.mkOut ok (H4.dtake 4) ml1 ml2 mk1 ml3⟩
theorem jQ {w:World}{xs:List UInt8}{xsA:Option Addr}{xsC:Nat}{c k:Int}{fp:List Nat}(o:own true w [.slice xsA xs.length xsC] xs fp) (nd:fp.Nodup) (hk:0≤k∧k+xs.length≤4611686018427387904):Ret Tryz.prog 33 #[.agg #[.int .i64 c,.slice xsA xs.length xsC],.int .i64 k] w fun v w'=>(v = .int .i64 (k+xs.length)∧∃ xs',Mut w w' fp [.slice xsA xs.length xsC] xs'∧xs'.length=xs.length∧MarkB xs' k):=by
 refine aA (vs:=[.agg #[.int .i64 c,.slice xsA xs.length xsC],.int .i64 k]) func33 Z ntmps33 Z (fun Q hQ hN=>?_);have H0:=Sep.begin o nd;refine ab (aV (wn Z) Z Z H0 (fun b1 w1 e1 g1 H1=>sA Z Z (aa (ab (sF iR Z aW (sLd aH (H1.box 1 Z) Z (sM Z Z (sC func114 jZ Z (dy (H1.mine 0 Z) (H1.nodup1 (i:=0) Z) (by constructor<;>omega)) (fun v1 w2 r1=>?_)))))))));obtain ⟨rfl,mx1,mm1,ml1,mk1⟩:=r1;obtain ⟨fp1,H2⟩:=H1.mut 0 Z mm1
 try dsimp only[lNA,lCA,lSZ,lSS] at H2
 refine sA Z Z (aa (ab (sR 2 Z (rN hQ results33 Z ?_))));have hz:=H2.dtake 1;exact ⟨Z,_,hz.done,ml1,mk1⟩
theorem fX {w:World}{xs:List UInt8}{xsA:Option Addr}{n xsC:Nat}{c k:Int}(xsS:Sees w [.slice xsA n xsC] xs) (hk:0≤k∧k+xs.length≤4611686018427387904) (hm:MarkB xs k):Ret Tryz.prog 34 #[.agg #[.int .i64 c,.slice xsA n xsC],.int .i64 k] w fun v w'=>Ext No w w'∧(v = .int .i64 (k+xs.length)):=by
 obtain ⟨xsF,xsO⟩:=xsS;obtain rfl:=eS xsO;refine aA (vs:=[.agg #[.int .i64 c,.slice xsA xs.length xsC],.int .i64 k]) func34 Z ntmps34 Z (fun Q hQ hN=>?_);have H0:=Sep.start (w:=w) (F:=[seen false [.slice xsA xs.length xsC] xs xsF]) (ae xsO (by simp));refine ab (aV (wn Z) Z Z H0 (fun b1 w1 e1 g1 H1=>sA Z Z (aa (ab (sF iR Z aW (sLd aH (H1.box 0 Z) Z (sM Z Z (sE func115 xu Z (lQ (H1.sees 0 Z) (by constructor<;>omega) (by assumption)) H1 (fun w2 e2 H2=>sA Z Z (aa (ac (ab (sR 2 Z (aa (au Z (fun c1=>?_) (fun c1=>?_))))))))))))))))
 ·refine ab (rA hQ results34 Z ?_);exact absurd c1 (by omega)
 ·refine ag (ab (sR 2 Z (rN hQ results34 Z ?_)));exact ⟨H2.ext,Z⟩
theorem eF {w:World}{a:BytesResult}{aA1:Option Addr}{aC1:Nat}{b:BytesResult}{bA1:Option Addr}{bC1:Nat}(aK:a.Ok) (aS1:Sees w [.slice aA1 a.Bytes.length aC1] a.Bytes) (bK:b.Ok) (bS1:Sees w [.slice bA1 b.Bytes.length bC1] b.Bytes):Ret Tryz.prog 32 #[a.val aA1 aC1,b.val bA1 bC1] w fun v w'=>Ext No w w'∧(v = .bool (decide (a=b))):=by
 have aK2:=aK;unfold BytesResult.Ok at aK2
 try unfold I64ok at aK2
 try unfold maxLen at aK2
 have aL1:=sL aS1;obtain ⟨aF1,aO1⟩:=aS1;have bK2:=bK;unfold BytesResult.Ok at bK2
 try unfold I64ok at bK2
 try unfold maxLen at bK2
 have bL1:=sL bS1;obtain ⟨bF1,bO1⟩:=bS1;refine aA (vs:=[a.val aA1 aC1,b.val bA1 bC1]) func32 Z ntmps32 Z (fun Q hQ hN=>?_);have H0:=Sep.start (w:=w) (F:=[seen false [.slice aA1 a.Bytes.length aC1] a.Bytes aF1,seen false [.slice bA1 b.Bytes.length bC1] b.Bytes bF1]) (ae aO1 (ae bO1 (by simp)));refine ab (aV (wn Z) Z Z H0 (fun b1 w1 e1 g1 H1=>aV (wn Z) Z Z H1 (fun b2 w2 e2 g2 H2=>sA Z Z (aa (ac (ab (sF iR Z ts2 (sLd tu2 (H2.box 0 Z) Z (sF iR Z ts2 (sLd tu2 (H2.box 1 Z) Z (sV Z (bg Z Z) (aa (au Z (fun c1=>?_) (fun c1=>?_))))))))))))))
 ·refine ab (sA Z Z (aa (rT hQ results32 Z (⟨H2.ext,?_⟩))));rw [decide_eq_false (fun e=>by subst e; first | exact c1 rfl | simp at c1)]
 ·refine ag (ac (ab (sF iR Z aW (sLd aH (H2.box 0 Z) Z (sF iR Z aW (sLd aH (H2.box 1 Z) Z (sE func113 kv Z (ex (H2.sees 0 Z) (H2.sees 1 Z)) H2 (fun w3 e3 H3=>sV Z (aN Z) (aa (bz Z (fun c2=>?_) (fun c2=>?_)))))))))))
  ·refine ab (sA Z Z (aa (rT hQ results32 Z (⟨H3.ext,?_⟩))));rw [decide_eq_false (fun e=>by subst e; first | exact c2 rfl | simp at c2)]
  ·refine ag (ab (sA Z Z (aa (rT hQ results32 Z (⟨H3.ext,?_⟩)))));rw [decide_eq_true];cases a; cases b; simp_all
end Go.Wk
namespace Go.Wk
open Go.Proofs Rp Go.Proofs.Tryz
set_option maxRecDepth 10000
theorem mz {w:World}{xs:List Rec}{xsA:Option Addr}{xsC:Nat}{nm:ByteArray}(xsS:Sees w [.slice xsA xs.length xsC] xs):Ret Tryz.prog 232 #[.slice xsA xs.length xsC,.string nm] w fun v w'=>Ext No w w'∧(v = .int .i64 (ct (itP nm) xs)):=by
 have xsL:=sL xsS;obtain ⟨xsF,xsO⟩:=xsS;refine aA (vs:=[.slice xsA xs.length xsC,.string nm]) func232 Z ntmps232 Z (fun Q hQ hN=>?_);have H0:=Sep.start (w:=w) (F:=[seen false [.slice xsA xs.length xsC] xs xsF]) (ae xsO (by simp));refine ab (sA Z Z (aa (ab (sA Z Z (aa (ac (ab (sA Z Z (aa (ai (bH (γ:=Nat) H0 [(0,_),(1,_),(4,_)] ⟨Z,Z,Z,trivial⟩ (fun k=>[(5,.int .i64 (gj (itP nm) xs k)),(6,.int .i64 k)]) (fun k=>k≤xs.length∧True) (fun k=>xs.length-k) 0 ⟨Z,Z,trivial⟩ ⟨by omega,trivial⟩ (fun k w1 H1 ⟨hk,_⟩=>?_))))))))))));dsimp only[lCA,lNA];refine ac (ab (sR 2 Z (sV Z (ax aS Z) (sV Z (aI Z Z) (aa (au Z (fun c1=>?_) (fun c1=>?_)))))))
 ·refine ag (ac (ai (ac ?_)));obtain ⟨eb1,eo1,es1,ef1,ee1,ec1,eO1,eH1,em1⟩:=bf (H1.seen 0 Z) k (by omega);obtain ⟨ea1,ek1,ea2,ek2,ea3,ek3,eg1,eg2,eg3,rfl,eq1,eK1,eo2,eo3,eo4⟩:=ew eO1;have eK1U:=eK1;unfold Rec.Ok at eK1U
  try unfold I64ok at eK1U
  try unfold maxLen at eK1U
  have eP1:=H1.look1 0 Z eo2 (fun b hb=>eH1 b (by rw [eq1]; simp [hb]));have eL1:=oL eo2;have eP2:=eP1.look1 0 Z eo3 (fun b hb=>eH1 b (by rw [eq1]; simp [hb]));have eL2:=oL eo3;have eP3:=eP2.look1 0 Z eo4 (fun b hb=>eH1 b (by rw [eq1]; simp [hb]));have eL3:=oL eo4;refine aj (sR 2 Z (sV Z (ao aS aL Z Z ee1 k (by omega) (by omega)) (sF az Z ts2 (sV Z (ah tu2 Z Z (bW ec1 0 Z)) (sR 2 Z (bp 7 (j:=6) (want:=true) (t:=26) Z Z Z Z (fun hg1 kk1=>ak (wgE Z Z Z hg1) Z Z (aG Z) (ak (wgE Z Z Z hg1) Z Z (aG Z) (ak (wgE Z Z Z hg1) Z Z (ao aS aL Z Z ee1 k (by first | omega | (simp only [Bool.or_eq_false_iff,Bool.and_eq_true,Bool.and_eq_false_iff,Bool.or_eq_true,Bool.not_eq_true',Bool.not_eq_false',decide_eq_true_eq,decide_eq_false_iff_not] at hg1; omega)) (by omega)) (ak (wgE Z Z Z hg1) Z Z (am az Z ts9 Z Z) (ak (wgE Z Z Z hg1) Z Z (ah tu9 Z Z (bW ec1 2 Z)) (ak (wgE Z Z Z hg1) Z Z (aG Z) (ak (wgE Z Z Z hg1) Z Z (lD Z Z) (kk1 _ _ (kx Z (kx Z (kx Z (kx Z (kx Z (kx Z (kx Z k0))))))) Z Ext.refl)))))))) (fun w2 e1=>?_)))))));have H2:=eP3.to e1;refine sV Z (aY Z Z) (aa (bz Z (fun c2=>?_) (fun c2=>?_)))
  ·refine aj (sR 2 Z (aa (aj (sM Z Z (sV Z (aw Z Z iO) (sA Z Z (aa (⟨k+1,⟨eqI (mM (by simpa [itP] using c2)).symm,Z,Z,Z,Z,trivial⟩,⟨(H2.ftake 1),by omega,trivial⟩,by dsimp only; omega⟩))))))))
  ·refine ag (aj (sM Z Z (sV Z (aw Z Z iO) (sA Z Z (aa (⟨k+1,⟨eqI (oK (by simpa [itP] using c2)).symm,Z,Z,Z,Z,trivial⟩,⟨(H2.ftake 1),by omega,trivial⟩,by dsimp only; omega⟩))))))
 ·refine aD (ab (sR 2 Z (rN hQ results232 Z ?_)));obtain rfl:k=xs.length:=by omega
  exact ⟨H1.ext,Z⟩
end Go.Wk
namespace Go.Wk
open Rp (sz own)
section
variable {xs rs:List Rec}{r:Rec}{k a:Nat}{z:Wld}{nm:ByteArray}
theorem CS {s:Shape}(h:recF s r=0) (h1:r.Kind=1) : -1≤r.Length:=by
  unfold recF eq at h
  rw [if_pos h1] at h
  by_cases c:r.Length = -1
  · omega
  · by_cases q:r.Length<1
    · exfalso
      have hi:dB s r=false:=by unfold dB db; rw [if_neg c,if_pos q]; rfl
      have hA:(if aT r.Name≠0 then aT r.Name else if dB s r=true then 0 else 3)≠(0:Int):=by
        by_cases n:aT r.Name=0
        · rw [if_neg (by simp [n]),hi]; simp
        · rw [if_pos n]; exact n
      rw [if_pos hA] at h
      split at h
      · split at h
        · exact hA h
        · omega
      · omega
    · omega
theorem Cl (hw:eD z=0) (hr:r∈bZ z) (h1:r.Kind=1) : -1≤r.Length:=CS (oe hw hr) h1
theorem AH (hw:eD z=0) (h:ct (itP nm) (bZ z)<0):itO z nm=false:=(uo (Ar h)).1
theorem sc (h:0≤ct (itP nm) (bZ z)) (h2:((bZ z).getD (ct (itP nm) (bZ z)).toNat default).Length<0) (hw:eD z=0):itO z nm=false:=by
  obtain ⟨h3,h4⟩:=zT (nm:=nm) (xs:=bZ z) (k:=(ct (itP nm) (bZ z)).toNat) (by omega)
  obtain ⟨h5,h6,_⟩:=js h4
  have:=Cl hw h5 h6
  exact (xx h4 (by omega)).1
theorem rZ (h:0≤ct (itP nm) (bZ z)) (h2:¬ ((bZ z).getD (ct (itP nm) (bZ z)).toNat default).Length<0):itO z nm=true∧itR z nm=(bZ z).getD (ct (itP nm) (bZ z)).toNat default:=by
  obtain ⟨h3,h4⟩:=zT (nm:=nm) (xs:=bZ z) (k:=(ct (itP nm) (bZ z)).toNat) (by omega)
  exact Ch h4 (by omega)
end
end Go.Wk
namespace Go.Wk
open Go.Proofs Rp Go.Proofs.Tryz
set_option maxRecDepth 10000
theorem k9 {w:World}{z:Wld}{zA9 zA10 zA11:Option Addr}{zC9 zC10 zC11:Nat}{nm:ByteArray}(zK:z.Ok) (zS9:Sees w [.slice zA9 z.Groups.length zC9] z.Groups) (zS10:Sees w [.slice zA10 z.On.length zC10] z.On) (zS11:Sees w [.slice zA11 z.Tapes.length zC11] z.Tapes) (hnm:nm.size≤1048576):Ret Tryz.prog 107 #[z.val zA9 zC9 zA10 zC10 zA11 zC11,.string nm] w fun v w'=>Ext No w w'∧(v = .int .i64 (if upF z=0 then aT nm else upF z)):=by
 have zK2:=zK;unfold Wld.Ok Shape.Ok at zK2
 try unfold I64ok at zK2
 try unfold maxLen at zK2
 have zL9:=sL zS9;obtain ⟨zF9,zO9⟩:=zS9;have zL10:=sL zS10;obtain ⟨zF10,zO10⟩:=zS10;have zL11:=sL zS11;obtain ⟨zF11,zO11⟩:=zS11;have hnb:nm.size≤maxLen:=by unfold maxLen; omega
 refine aA (vs:=[z.val zA9 zC9 zA10 zC10 zA11 zC11,.string nm]) func107 Z ntmps107 Z (fun Q hQ hN=>?_);have H0:=Sep.start (w:=w) (F:=[seen false [.slice zA9 z.Groups.length zC9] z.Groups zF9,seen false [.slice zA10 z.On.length zC10] z.On zF10,seen false [.slice zA11 z.Tapes.length zC11] z.Tapes zF11]) (ae zO9 (ae zO10 (ae zO11 (by simp))));refine ab (aV (wn Z) Z Z H0 (fun b1 w1 e1 g1 H1=>sA Z Z (aa (ac (ab (sV Z (an bn Z lR Z Z (At.whole (H1.box 0 Z))) (sE func85 z6 Z (nE (by assumption) (H1.sees 0 Z) (H1.sees 1 Z) (H1.sees 2 Z)) H1 (fun w2 e2 H2=>sA Z Z (aa (ab (sR 2 Z (aa (au Z (fun c1=>?_) (fun c1=>?_))))))))))))))
 ·refine ab (sR 2 Z (rN hQ results107 Z ?_));exact ⟨H2.ext,congrArg (Value.int .i64) (if_neg (by omega)).symm⟩
 ·refine ag (ac ?_);have hu:upF z=0:=by omega
  refine aj (sM Z Z (sE func177 qy Z (gZ (by assumption)) H2 (fun w3 e3 H3=>rA hQ results107 Z ?_)));exact ⟨H3.ext,congrArg (Value.int .i64) (if_pos hu).symm⟩
end Go.Wk
namespace Go.Wk
open Go.Proofs Rp Go.Proofs.Tryz
set_option maxRecDepth 10000
theorem eJ {w:World}{a:UInt8}{b:UInt8}  : Ret Tryz.prog 394 #[.int .u8 a.toNat,.int .u8 b.toNat] w fun v w'=>Ext No w w'∧(v = .int .u8 (bY a b).toNat):=by
 refine aA (vs:=[.int .u8 a.toNat,.int .u8 b.toNat]) func394 Z ntmps394 Z (fun Q hQ hN=>?_);have H0:=Sep.start (w:=w) (F:=[]) (by simp);refine ab (sA Z Z (aa (ab (sA Z Z (aa (ac (ai (aM (γ:=UInt8 × UInt8 × UInt8) (fun (x,y,o)=>[(0,.int .u8 x.toNat),(1,.int .u8 y.toNat),(5,.int .u8 o.toNat)]) (fun (x,y,o) w'=>Sep No w [] [] w'∧gJ 8 x y o=bY a b) (fun (x,y,o)=>y.toNat) (a,b,0) ⟨Z,Z,Z,trivial⟩ ⟨H0,Z⟩ (fun (x,y,o) w1 H1=>?_)))))))));obtain ⟨H1,hI⟩:=H1;refine ac (ab (sR 2 Z (aa (au Z (fun c1=>?_) (fun c1=>?_)))))
 ·refine ag (ac (ai (ac (ab (sM Z Z (sV Z (p8 (b:=1) Z Z) (sV Z (bJ Z Z) (aa (au Z (fun c2=>?_) (fun c2=>?_))))))))))
  ·refine aj (sR 2 Z (sV Z (jP Z Z) (sA Z Z (aa (ab (sM Z Z (sV Z (p8 (b:=128) Z Z) (sV Z (bg Z Z) (aa (au Z (fun c3=>?_) (fun c3=>?_)))))))))))
   ·refine aj (sM Z Z (sV Z (qf (k:=1) (by omega) Z Z) (sV Z (jP (b:=29) Z Z) (sA Z Z (aa (aj (sM Z Z (sV Z (nD (k:=1) Z Z) (sA Z Z (aa (⟨(_,_,_),⟨Z,Z,Z,trivial⟩,⟨H1,?_⟩,?_⟩)))))))))))
    ·rw [← hI,jR x y o,xt,if_neg (fun e=>c3 ((gX (b:=0)).2 e)),if_pos ((gX (b:=1)).1 c2)]
    ·dsimp only;rw [du]
     omega
   ·refine aj (sM Z Z (sV Z (qf (k:=1) (by omega) Z Z) (sA Z Z (aa (aj (sM Z Z (sV Z (nD (k:=1) Z Z) (sA Z Z (aa (⟨(_,_,_),⟨Z,Z,Z,trivial⟩,⟨H1,?_⟩,?_⟩))))))))))
    ·rw [← hI,jR x y o,xt,if_pos (jc (by omega)),if_pos ((gX (b:=1)).1 c2)]
    ·dsimp only;rw [du]
     omega
  ·refine ag (ab (sM Z Z (sV Z (p8 (b:=128) Z Z) (sV Z (bg Z Z) (aa (au Z (fun c4=>?_) (fun c4=>?_)))))))
   ·refine aj (sM Z Z (sV Z (qf (k:=1) (by omega) Z Z) (sV Z (jP (b:=29) Z Z) (sA Z Z (aa (aj (sM Z Z (sV Z (nD (k:=1) Z Z) (sA Z Z (aa (⟨(_,_,_),⟨Z,Z,Z,trivial⟩,⟨H1,?_⟩,?_⟩)))))))))))
    ·rw [← hI,jR x y o,xt,if_neg (fun e=>c4 ((gX (b:=0)).2 e)),if_neg (fun e=>c2 ((gX (b:=1)).2 e))]
    ·dsimp only;rw [du]
     omega
   ·refine aj (sM Z Z (sV Z (qf (k:=1) (by omega) Z Z) (sA Z Z (aa (aj (sM Z Z (sV Z (nD (k:=1) Z Z) (sA Z Z (aa (⟨(_,_,_),⟨Z,Z,Z,trivial⟩,⟨H1,?_⟩,?_⟩))))))))))
    ·rw [← hI,jR x y o,xt,if_pos (jc (by omega)),if_neg (fun e=>c2 ((gX (b:=1)).2 e))]
    ·dsimp only;rw [du]
     omega
 ·refine aD (ab (sR 2 Z (rN hQ results394 Z ?_)));obtain rfl:y=0:=jc (by omega);exact ⟨H1.ext,by rw [← hI,tI]⟩
theorem iH {w:World}{a:UInt8}{b:UInt8}  : Ret Tryz.prog 352 #[.int .u8 a.toNat,.int .u8 b.toNat] w fun v w'=>Ext No w w'∧(v = .int .u8 (bY a b).toNat):=by
 have al:=a.toNat_lt;refine aA (vs:=[.int .u8 a.toNat,.int .u8 b.toNat]) func352 Z ntmps352 Z (fun Q hQ hN=>?_);have H0:=Sep.start (w:=w) (F:=[]) (by simp);refine ab (sA Z Z (aa (ab (sA Z Z (aa (ab (sM Z Z (sV Z (fc tu5 tu3 Z iO) (sA Z Z (aa (ac (ab (sA Z Z (aa (ai (aM (γ:=Nat × UInt8 × UInt8) (fun (k,x,o)=>[(1,.int .u8 b.toNat),(5,.int .i64 o.toNat),(6,.int .i64 x.toNat),(7,.int .i64 k)]) (fun (k,x,o) w'=>Sep No w [] [] w'∧k≤8∧gJ (8-k) x (fP b k) o=bY a b) (fun (k,x,o)=>8-k) (0,a,0) ⟨Z,Z,Z,Z,trivial⟩ ⟨H0,by omega,by rw [AQ]; rfl⟩ (fun (k,x,o) w1 H1=>?_)))))))))))))))));obtain ⟨H1,hk,hI⟩:=H1;refine ac (ab (sR 2 Z (aa (au Z (fun c1=>?_) (fun c1=>?_)))))
 ·refine ag (ac (ai (ac (ab (sR 2 Z (sV Z (fc tu3 ma Z (uT (by omega))) (sV Z (nD (k:=k) Z Z) (sV Z (p8 (b:=1) Z Z) (sV Z (bJ Z Z) (aa (au Z (fun c2=>?_) (fun c2=>?_))))))))))))
  ·refine aj (sR 2 Z (sV Z (DD o x Z Z) (sA Z Z (aa (ac ?_)))));have xl:=x.toNat_lt;refine aj (sM Z Z (sV Z (jO Z Z iO) (sA Z Z (aa (ab (sR 2 Z (aa (au Z (fun c3=>?_) (fun c3=>?_)))))))))
   ·refine aj (sM Z Z (sV Z (um Z Z) (sA Z Z (aa (aj (sM Z Z (sV Z (aw Z Z iO) (sA Z Z (aa (⟨(k+1,xt x,_),⟨Z,Z,eqI (Bt x (by omega)),Z,trivial⟩,⟨H1,by omega,?_⟩,by dsimp only; omega⟩))))))))));rw [lH (k:=k) (by omega) x b o,if_pos (BS c2)] at hI;exact hI
   ·refine ag (aj (sM Z Z (sV Z (aw Z Z iO) (sA Z Z (aa (⟨(k+1,xt x,_),⟨Z,Z,eqI (vI x (by omega)),Z,trivial⟩,⟨H1,by omega,?_⟩,by dsimp only; omega⟩))))));rw [lH (k:=k) (by omega) x b o,if_pos (BS c2)] at hI;exact hI
  ·refine ag (ac ?_);have xl:=x.toNat_lt;refine aj (sM Z Z (sV Z (jO Z Z iO) (sA Z Z (aa (ab (sR 2 Z (aa (au Z (fun c4=>?_) (fun c4=>?_)))))))))
   ·refine aj (sM Z Z (sV Z (um Z Z) (sA Z Z (aa (aj (sM Z Z (sV Z (aw Z Z iO) (sA Z Z (aa (⟨(k+1,xt x,_),⟨Z,Z,eqI (Bt x (by omega)),Z,trivial⟩,⟨H1,by omega,?_⟩,by dsimp only; omega⟩))))))))));rw [lH (k:=k) (by omega) x b o,if_neg (fun e=>c2 ((gX (b:=1)).2 e))] at hI;exact hI
   ·refine ag (aj (sM Z Z (sV Z (aw Z Z iO) (sA Z Z (aa (⟨(k+1,xt x,_),⟨Z,Z,eqI (vI x (by omega)),Z,trivial⟩,⟨H1,by omega,?_⟩,by dsimp only; omega⟩))))));rw [lH (k:=k) (by omega) x b o,if_neg (fun e=>c2 ((gX (b:=1)).2 e))] at hI;exact hI
 ·refine aD (ab (sM Z Z (sV Z (gT tu3 tu5 Z) (rA hQ results352 Z ?_))));obtain rfl:k=8:=by omega
  exact ⟨H1.ext,by rw [Ck,← hI]; rfl⟩
theorem rW {w:World}{a:UInt8}  : Ret Tryz.prog 406 #[.int .u8 a.toNat,.int .i64 254] w fun v w'=>Ext No w w'∧(v = .int .u8 (kS a).toNat):=by
 refine aA (vs:=[.int .u8 a.toNat,.int .i64 254]) func406 Z ntmps406 Z (fun Q hQ hN=>?_);have H0:=Sep.start (w:=w) (F:=[]) (by simp);refine ab (sA Z Z (aa (ac (ab (sR 2 Z (aa (au Z (fun c1=>?_) (fun c1=>?_))))))))
 ·exact absurd c1 (by decide)
 ·refine ag (ac (ab (sR 3 Z (bp 2 (j:=2) (want:=true) (t:=12) Z Z Z Z (fun hg1 kk1=>ak (wgE Z Z Z hg1) Z Z (aG Z) (ak (wgE Z Z Z hg1) Z Z (bg Z Z) (kk1 _ _ (kx Z (kx Z k0)) Z Ext.refl))) (fun w1 e1=>?_)))));have H1:=H0.to e1;refine sV Z (aY Z Z) (aa (bz Z (fun c2=>?_) (fun c2=>?_)))
  ·refine aj (sM Z Z (sV Z (oB Z Z (by omega)) (sA Z Z (aa (ac (ab (sR 3 Z (bp 2 (j:=2) (want:=true) (t:=20) Z Z Z Z (fun hg2 kk2=>ak (wgE Z Z Z hg2) Z Z (aG Z) (ak (wgE Z Z Z hg2) Z Z (bJ Z Z) (kk2 _ _ (kx Z (kx Z k0)) Z Ext.refl))) (fun w2 e2=>?_)))))))));have H2:=H1.to e2;refine sV Z (aY Z Z) (aa (bz Z (fun c3=>?_) (fun c3=>?_)))
   ·refine ab (rA hQ results406 Z ?_);obtain rfl:a=0:=jc (by simp at c3; omega);exact ⟨H2.ext,by rw [u6]; rfl⟩
   ·refine ag (ab (sA Z Z (aa (ac (ai (aM (γ:=Nat × UInt8) (fun (m,o)=>[(0,.int .u8 a.toNat),(1,.int .i64 m),(5,.int .u8 o.toNat)]) (fun (m,o) w'=>Sep No w [] [] w'∧m≤254∧bY o (pw a m)=kS a) (fun (m,o)=>m) (254,1) ⟨Z,eqI (by decide),Z,trivial⟩ ⟨H2,by omega,ju _⟩ (fun (m,o) w3 H3=>?_)))))));obtain ⟨H3,hm,hI⟩:=H3;refine ac (ab (sR 2 Z (aa (au Z (fun c4=>?_) (fun c4=>?_)))))
    ·refine ag (ac (ai (aj (sR 2 Z (sE func352 mr Z iH H3 (fun w4 e3 H4=>sA Z Z (aa (aj (sM Z Z (sV Z (bm Z Z iO) (sA Z Z (aa ?_))))))))))));obtain ⟨m,rfl⟩:∃ j,m=j+1:=⟨m-1,by omega⟩;refine ⟨(m,_),⟨Z,eqI (by omega),Z,trivial⟩,⟨H4,by omega,by rw [← hI,tV]⟩,by dsimp only; omega⟩
    ·refine aD (ab (sR 2 Z (rN hQ results406 Z ?_)));obtain rfl:m=0:=by omega
     exact ⟨H3.ext,by rw [← hI]; show _=Value.int .u8 (bY o 1).toNat; rw [lF]⟩
  ·refine ag (ac (ab (sR 3 Z (bp 2 (j:=2) (want:=true) (t:=20) Z Z Z Z (fun hg3 kk3=>ak (wgE Z Z Z hg3) Z Z (aG Z) (ak (wgE Z Z Z hg3) Z Z (bJ Z Z) (kk3 _ _ (kx Z (kx Z k0)) Z Ext.refl))) (fun w5 e4=>?_)))));have H5:=H1.to e4;refine sV Z (aY Z Z) (aa (bz Z (fun c5=>?_) (fun c5=>?_)))
   ·refine ab (rA hQ results406 Z ?_);obtain rfl:a=0:=jc (by simp at c5; omega);exact ⟨H5.ext,by rw [u6]; rfl⟩
   ·refine ag (ab (sA Z Z (aa (ac (ai (aM (γ:=Nat × UInt8) (fun (m,o)=>[(0,.int .u8 a.toNat),(1,.int .i64 m),(5,.int .u8 o.toNat)]) (fun (m,o) w'=>Sep No w [] [] w'∧m≤254∧bY o (pw a m)=kS a) (fun (m,o)=>m) (254,1) ⟨Z,eqI (by decide),Z,trivial⟩ ⟨H5,by omega,ju _⟩ (fun (m,o) w6 H6=>?_)))))));obtain ⟨H6,hm,hI⟩:=H6;refine ac (ab (sR 2 Z (aa (au Z (fun c6=>?_) (fun c6=>?_)))))
    ·refine ag (ac (ai (aj (sR 2 Z (sE func352 mr Z iH H6 (fun w7 e5 H7=>sA Z Z (aa (aj (sM Z Z (sV Z (bm Z Z iO) (sA Z Z (aa ?_))))))))))));obtain ⟨m,rfl⟩:∃ j,m=j+1:=⟨m-1,by omega⟩;refine ⟨(m,_),⟨Z,eqI (by omega),Z,trivial⟩,⟨H7,by omega,by rw [← hI,tV]⟩,by dsimp only; omega⟩
    ·refine aD (ab (sR 2 Z (rN hQ results406 Z ?_)));obtain rfl:m=0:=by omega
     exact ⟨H6.ext,by rw [← hI]; show _=Value.int .u8 (bY o 1).toNat; rw [lF]⟩
theorem rz {w:World}{a:UInt8}  : Ret Tryz.prog 442 #[.int .u8 a.toNat,.int .i64 254] w fun v w'=>Ext No w w'∧(v = .int .u8 (kS a).toNat):=by
 refine aA (vs:=[.int .u8 a.toNat,.int .i64 254]) func442 Z ntmps442 Z (fun Q hQ hN=>?_);have H0:=Sep.start (w:=w) (F:=[]) (by simp);refine ab (sA Z Z (aa (ac (ab (sR 2 Z (aa (au Z (fun c1=>?_) (fun c1=>?_))))))))
 ·exact absurd c1 (by decide)
 ·refine ag (ab (sA Z Z (aa (ac (ai (aM (γ:=Nat × UInt8 × UInt8) (fun (m,x,o)=>[(0,.int .u8 x.toNat),(1,.int .i64 m),(5,.int .u8 o.toNat)]) (fun (m,x,o) w'=>Sep No w [] [] w'∧m≤254∧bY o (pw x m)=kS a) (fun (m,x,o)=>m) (254,a,1) ⟨Z,Z,Z,trivial⟩ ⟨H0,by omega,ju _⟩ (fun (m,x,o) w1 H1=>?_)))))));obtain ⟨H1,hm,hI⟩:=H1;refine ac (ab (sR 2 Z (aa (au Z (fun c2=>?_) (fun c2=>?_)))))
  ·refine ag (ac (ai (ac (ab (sM Z Z (sV Z (CB (m:=m) (by omega) Z Z) (sV Z (bJ Z Z) (aa (au Z (fun c3=>?_) (fun c3=>?_))))))))))
   ·refine aj (sR 2 Z (sE func394 ir Z eJ H1 (fun w2 e1 H2=>sA Z Z (aa (aj (sR 2 Z (sE func394 ir Z eJ H2 (fun w3 e2 H3=>sA Z Z (aa (aj (sM Z Z (sV Z (vR (m:=m) Z Z) (sA Z Z (aa (⟨(m / 2,_,_),⟨Z,Z,Z,trivial⟩,⟨H3,by omega,by rw [← hI]; exact (Eg o x (m:=m) (by omega)).symm⟩,by dsimp only; omega⟩)))))))))))))))
   ·refine ag (aj (sR 2 Z (sE func394 ir Z eJ H1 (fun w4 e3 H4=>sA Z Z (aa (aj (sM Z Z (sV Z (vR (m:=m) Z Z) (sA Z Z (aa (⟨(m / 2,_,_),⟨Z,Z,Z,trivial⟩,⟨H4,by omega,by rw [← hI]; exact (Dp o x (m:=m) (by omega)).symm⟩,by dsimp only; omega⟩)))))))))))
  ·refine aD (ab (sR 2 Z (rN hQ results442 Z ?_)));obtain rfl:m=0:=by omega
   exact ⟨H1.ext,by rw [← hI]; show _=Value.int .u8 (bY o 1).toNat; rw [lF]⟩
theorem l0 {w:World}{a:UInt8}{b:UInt8}  : Ret Tryz.prog 405 #[.int .u8 a.toNat,.int .u8 b.toNat] w fun v w'=>Ext No w w'∧(v = .int .u8 (bY a (kS b)).toNat):=by
 refine aA (vs:=[.int .u8 a.toNat,.int .u8 b.toNat]) func405 Z ntmps405 Z (fun Q hQ hN=>?_);have H0:=Sep.start (w:=w) (F:=[]) (by simp);refine ab (sA Z Z (aa (ab (sR 2 Z (sE func442 wv Z rz H0 (fun w1 e1 H1=>sE func394 ir Z eJ H1 (fun w2 e2 H2=>rA hQ results405 Z ?_)))))));exact ⟨H2.ext,Z⟩
theorem kJ {w:World}{a:UInt8}  : Ret Tryz.prog 351 #[.int .u8 a.toNat] w fun v w'=>Ext No w w'∧(v = .int .u8 (kS a).toNat):=by
 refine aA (vs:=[.int .u8 a.toNat]) func351 Z ntmps351 Z (fun Q hQ hN=>?_);have H0:=Sep.start (w:=w) (F:=[]) (by simp);refine ab (sA Z Z (aa (ab (sM Z Z (sE func406 wV Z rW H0 (fun w1 e1 H1=>rA hQ results351 Z ?_))))));exact ⟨H1.ext,Z⟩
theorem pm {w:World}{j i:Int}(hj:0≤j∧j≤1000):Ret Tryz.prog 404 #[.int .i64 j,.int .i64 i] w fun v w'=>Ext No w w'∧(v = .int .u8 (cauchy j i).toNat):=by
 refine aA (vs:=[.int .i64 j,.int .i64 i]) func404 Z ntmps404 Z (fun Q hQ hN=>?_);have H0:=Sep.start (w:=w) (F:=[]) (by simp);refine ab (sA Z Z (aa (ab (sM Z Z (sV Z (aw Z Z iO) (sV Z (gT tu2 tu5 Z) (sM Z Z (sV Z (gT tu2 tu5 Z) (sV Z (jP Z Z) (sE func405 qM Z (l0 (a:=1)) H0 (fun w1 e1 H1=>rA hQ results404 Z ?_)))))))))));exact ⟨H1.ext,by rw [ju,cauchy]⟩
theorem mE {w:World}{j i:Int}(hj:0≤j∧j≤1000):Ret Tryz.prog 251 #[.int .i64 j,.int .i64 i] w fun v w'=>Ext No w w'∧(v = .int .u8 (cauchy j i).toNat):=by
 refine aA (vs:=[.int .i64 j,.int .i64 i]) func251 Z ntmps251 Z (fun Q hQ hN=>?_);have H0:=Sep.start (w:=w) (F:=[]) (by simp);refine ab (sA Z Z (aa (ab (sM Z Z (sV Z (aw Z Z iO) (sV Z (gT tu2 tu5 Z) (sM Z Z (sV Z (gT tu2 tu5 Z) (sV Z (jP Z Z) (sE func351 qQ Z kJ H0 (fun w1 e1 H1=>rA hQ results251 Z ?_)))))))))));exact ⟨H1.ext,by rw [cauchy]⟩
end Go.Wk
namespace Go.Wk
open Go.Proofs Rp Go.Proofs.Tryz
set_option maxRecDepth 10000
theorem fL {w:World}{xs:List UInt8}{xsA:Option Addr}{xsC:Nat}{c:UInt8}(xsS:Sees w [.slice xsA xs.length xsC] xs) (hl:xs.length≤1048576):Ret Tryz.prog 252 #[.slice xsA xs.length xsC,.int .u8 c.toNat] w fun v w'=>Ext No w w'∧(Res w w' [v] (cq xs c)):=by
 have xsL:=sL xsS;obtain ⟨xsF,xsO⟩:=xsS;refine aA (vs:=[.slice xsA xs.length xsC,.int .u8 c.toNat]) func252 Z ntmps252 Z (fun Q hQ hN=>?_);have H0:=Sep.start (w:=w) (F:=[seen false [.slice xsA xs.length xsC] xs xsF]) (ae xsO (by simp));refine ab (sA Z Z (aa (ab (cZ (α:=UInt8) (wn Z) Z aH aR H0 (fun b1 w1 e1 g1 H1=>sA Z Z (aa (ac (ab (sA Z Z (aa (ai (aM (γ:=Nat × Value × List Nat) (fun (k,vo,f)=>[(0,.slice xsA xs.length xsC),(1,.int .u8 c.toNat),(5,vo),(6,.int .i64 k)]) (fun (k,vo,f) w'=>Sep No w [mine [vo] (cq (xs.take k) c) f] [seen false [.slice xsA xs.length xsC] xs xsF] w'∧k≤xs.length) (fun (k,vo,f)=>xs.length-k) (0,_,_) ⟨Z,Z,Z,Z,trivial⟩ ⟨H1,by omega⟩ (fun (k,vo,f) w2 H2=>?_)))))))))))));obtain ⟨H2,hk⟩:=H2;refine ac (ab (sR 2 Z (sV Z (ax aH Z) (sV Z (aI Z Z) (aa (au Z (fun c1=>?_) (fun c1=>?_)))))))
 ·refine ag (ac (ai ?_));have sl:=eL (xs.take k) c;rw [List.length_take] at sl;obtain ⟨eb1,eo1,ee1,ec1⟩:=bI (H2.seen 0 Z) k (by omega);refine aj (sR 3 Z (sV Z (ao aH ts5 Z Z ee1 k (by omega) (by omega)) (sV Z (ah tu5 Z Z ec1) (sM Z Z (sE func352 mr Z iH H2 (fun w3 e2 H3=>eC (wn Z) Z aH aR Z Z Z Z H3 (fun b2 w4 e3 g2 H4=>fj (wn Z) Z aH aR Z Z Z H4 0 1 Z Z dS (by unfold maxLen; omega) (by omega) (fun v2 w5 fp1 H5=>sA Z Z (aa (aj (sM Z Z (sV Z (aw Z Z iO) (sA Z Z (aa (⟨(k+1,_,_),⟨Z,Z,Z,Z,trivial⟩,⟨pM (xs:=xs) (c:=c) (k:=k) (by omega) ▸ (H5.dtake 1),by omega⟩,by dsimp only; omega⟩)))))))))))))))
 ·refine aD (ab (sR 2 Z (rN hQ results252 Z ?_)));obtain rfl:k=xs.length:=by omega
  exact ⟨H2.ext,by
   have h:=H2.out 0 Z
   rwa [List.take_length] at h⟩
theorem kI {w:World}{xs ys:List UInt8}{xsA ysA:Option Addr}{xsC ysC:Nat}(xsS:Sees w [.slice xsA xs.length xsC] xs) (ysS:Sees w [.slice ysA ys.length ysC] ys) (hl:xs.length≤1048576∧xs.length≤ys.length):Ret Tryz.prog 253 #[.slice xsA xs.length xsC,.slice ysA ys.length ysC] w fun v w'=>Ext No w w'∧(Res w w' [v] (fY xs ys)):=by
 have xsL:=sL xsS;obtain ⟨xsF,xsO⟩:=xsS;have ysL:=sL ysS;obtain ⟨ysF,ysO⟩:=ysS;refine aA (vs:=[.slice xsA xs.length xsC,.slice ysA ys.length ysC]) func253 Z ntmps253 Z (fun Q hQ hN=>?_);have H0:=Sep.start (w:=w) (F:=[seen false [.slice xsA xs.length xsC] xs xsF,seen false [.slice ysA ys.length ysC] ys ysF]) (ae xsO (ae ysO (by simp)));refine ab (sA Z Z (aa (ab (cZ (α:=UInt8) (wn Z) Z aH aR H0 (fun b1 w1 e1 g1 H1=>sA Z Z (aa (ac (ab (sA Z Z (aa (ai (aM (γ:=Nat × Value × List Nat) (fun (k,vo,f)=>[(0,.slice xsA xs.length xsC),(1,.slice ysA ys.length ysC),(5,vo),(6,.int .i64 k)]) (fun (k,vo,f) w'=>Sep No w [mine [vo] (fY (xs.take k) (ys.take k)) f] [seen false [.slice xsA xs.length xsC] xs xsF,seen false [.slice ysA ys.length ysC] ys ysF] w'∧k≤xs.length) (fun (k,vo,f)=>xs.length-k) (0,_,_) ⟨Z,Z,Z,Z,trivial⟩ ⟨H1,by omega⟩ (fun (k,vo,f) w2 H2=>?_)))))))))))));obtain ⟨H2,hk⟩:=H2;refine ac (ab (sR 2 Z (sV Z (ax aH Z) (sV Z (aI Z Z) (aa (au Z (fun c1=>?_) (fun c1=>?_)))))))
 ·refine ag (ac (ai ?_));have sl:=eY (xs:=xs.take k) (ys:=ys.take k) (by rw [List.length_take,List.length_take]; omega);rw [List.length_take] at sl;obtain ⟨eb1,eo1,ee1,ec1,em1⟩:=nA (H2.seen 0 Z) k (by omega);obtain ⟨eb2,eo2,ee2,ec2,em2⟩:=nA (H2.seen 1 Z) k (by omega);refine bv (S:=Ext (· ∈ f) _) (oQ [1,3,5,7,9,11,13,15,17,19,20,22,24]) (by kernel_rfl) (by kernel_rfl) (by kernel_rfl) Z (fun _=>Ext.refl.drawn _) (fun q1=>?_);have H3:=H2.drawn q1;refine dR 3 Z (dV Z Z (fun zw hx=>ao aH ts5 Z Z ee1 k (by omega) (by omega)) (dV Z Z (fun zw hx=>ah tu5 Z Z (hx.cellM (H3.off 0 Z 0 Z em1) ec1)) (dR 2 Z (dV Z Z (fun zw hx=>ao aH ts5 Z Z ee2 k (by omega) (by omega)) (dV Z Z (fun zw hx=>ah tu5 Z Z (hx.cellM (H3.off 1 Z 0 Z em2) ec2)) (dV Z Z (fun zw hx=>jP Z Z) (eW Z (wn Z) Z aH aR Z Z Z Z H3 (fun _ h e=>h.trans e.no) (fun b2 w3 e2 g2 H4=>Bn Z (wn Z) Z aH aR Z Z Z H4 0 1 Z Z dS (by unfold maxLen; omega) (by omega) (fun _ h e=>h.trans e) (fun v1 w4 fp1 H5=>aQ Z (wn Z) Z Z (aZ Z) (aP (aj (sM Z Z (sV Z (aw Z Z iO) (sA Z Z (aa (⟨(k+1,_,_),⟨Z,Z,Z,Z,trivial⟩,⟨AX (xs:=xs) (ys:=ys) (k:=k) (by omega) (by omega) ▸ (H5.dtake 1),by omega⟩,by dsimp only; omega⟩))))))))))))))))
 ·refine aD (ab (sR 2 Z (rN hQ results253 Z ?_)));obtain rfl:k=xs.length:=by omega
  exact ⟨H2.ext,by
   have h:=H2.out 0 Z
   rwa [List.take_length,AD (by omega)] at h⟩
theorem jh {w:World}{xs ys:List UInt8}{xsA ysA:Option Addr}{n xsC ysC:Nat}{c:UInt8}{fp g:List Nat}(o:own true w [.slice xsA n xsC] xs fp) (nd:fp.Nodup) (ysO:own false w [.slice ysA ys.length ysC] ys g) (hd:∀ b∈g,b ∉ fp) (hl:xs.length=ys.length):Ret Tryz.prog 316 #[.slice xsA n xsC,.slice ysA ys.length ysC,.int .u8 c.toNat] w fun v w'=>(Mut w w' fp [.slice xsA n xsC] (fY xs (cq ys c))):=by
 obtain rfl:=eS o;have len:=oL o;refine aA (vs:=[.slice xsA xs.length xsC,.slice ysA ys.length ysC,.int .u8 c.toNat]) func316 Z ntmps316 Z (fun Q hQ hN=>?_);have H0:=(Sep.begin o nd).look (r:=seen false [.slice ysA ys.length ysC] ys g) ysO (fun b hb=>by simpa [blocks,mine] using hd b hb);refine ab (sM Z Z (sV Z (ax aH Z) (sM Z Z (aa (ai (aM (γ:=Nat × List Nat) (fun (k,f)=>[(0,.slice xsA xs.length xsC),(2,.int .u8 c.toNat),(8,.slice ysA ys.length ysC),(9,.int .i64 ys.length),(10,.int .i64 k)]) (fun (k,f) w'=>Sep (· ∈ fp) w [mine [.slice xsA xs.length xsC] (pR xs ys c k) f] [seen false [.slice ysA ys.length ysC] ys g] w'∧k≤xs.length) (fun (k,f)=>xs.length-k) (0,fp) ⟨Z,Z,Z,Z,Z,trivial⟩ ⟨(by rw [Ax]; exact H0),by omega⟩ (fun (k,f) w1 H1=>?_)))))));obtain ⟨H1,hk⟩:=H1;refine ab (sV Z (aI Z Z) (aa (ac (au Z (fun c1=>?_) (fun c1=>?_)))))
 ·refine ag (ac (ai (ac ?_)));obtain ⟨eb1,eo1,ee1,ec1⟩:=bI (H1.seen 0 Z) k (by omega);refine aj (sM Z Z (sV Z (ao aH ts5 Z Z ee1 k (by omega) (by omega)) (sV Z (ah tu5 Z Z ec1) (sR 2 Z (aa ?_)))));have pl:=qt (xs:=xs) (ys:=ys) (c:=c) (k:=k) hl;have pg:=Cz (xs:=xs) (ys:=ys) (c:=c) (k:=k) hl (by omega);obtain ⟨eb2,eo2,ee2,ec2⟩:=bI (H1.mine 0 Z) k (by rw [qt hl]; omega);refine bv (S:=Ext No _) (oQ [1,3,5,7,9,11,12,15,17,18]) (by kernel_rfl) (by kernel_rfl) (by kernel_rfl) Z (fun _=>Ext.refl.drawn _) (fun q1=>?_);have H2:=H1.drawn q1;refine dR 2 Z (dV Z Z (fun zw hx=>ao aH ts5 Z Z ee2 k (by omega) (by omega)) (dV Z Z (fun zw hx=>ah tu5 Z Z (hx.cell ec2)) (dR 2 Z (dC func394 ir Z eJ (fun v1 w2 r1=>?_)))));obtain ⟨e1,rfl⟩:=r1;have H3:=H2.to e1;refine dV Z Z (fun zw hx=>jP Z Z) (dV Z Z (fun zw hx=>ao aH ts5 Z Z ee2 k (by omega) (by omega)) (Ee Z (wn Z) ts5 Z H3 0 Z k (by rw [qt hl]; omega) Z ee2 Z dS (fun _ _ _ hr=>absurd Z hr) (fun w3 fp1 e2 H4=>aP (aj (sV Z (aw Z Z iO) (sM Z Z (aa ?_)))))))
  refine ⟨(k+1,_),⟨Z,Z,Z,Z,Z,trivial⟩,⟨by
   have h:=H4;rw [pg,A4 hl (by omega)] at h
   exact h,by omega⟩,by dsimp only; omega⟩
 ·refine aD (hN _ _ (ot results316 ?_));obtain rfl:k=xs.length:=by omega
  have h:=H1.done;rw [Bp rfl hl.symm] at h;exact h
theorem pX {w:World}{xs:List (List UInt8)}{xsA ysA:Option Addr}{xsC ysC:Nat}{ys:List UInt8}(xsS:Sees w [.slice xsA xs.length xsC] xs) (ysS:Sees w [.slice ysA ys.length ysC] ys) {n:Nat}(h0:0<xs.length) (hy:xs.length≤ys.length) (hx:∀ i,i<xs.length→(xs.getD i []).length=n) (hn:n≤1048576):Ret Tryz.prog 335 #[.slice xsA xs.length xsC,.slice ysA ys.length ysC] w fun v w'=>Ext No w w'∧(Res w w' [v] (mb xs ys n xs.length)):=by
 have xsL:=sL xsS;obtain ⟨xsF,xsO⟩:=xsS;have ysL:=sL ysS;obtain ⟨ysF,ysO⟩:=ysS;obtain rfl:=hx 0 h0;refine aA (vs:=[.slice xsA xs.length xsC,.slice ysA ys.length ysC]) func335 Z ntmps335 Z (fun Q hQ hN=>?_);have H0:=Sep.start (w:=w) (F:=[seen false [.slice xsA xs.length xsC] xs xsF,seen false [.slice ysA ys.length ysC] ys ysF]) (ae xsO (ae ysO (by simp)));refine ab (sA Z Z (aa (ac ?_)));obtain ⟨eb1,eo1,ea1,ek1,ef1,ee1,ec1,eO1,eH1⟩:=cE (H0.seen 0 Z) 0 (by omega);have eP1:=H0.look1 0 Z eO1 eH1;refine aj (sM Z Z (sV Z (ao bD aW Z Z ee1 0 (by omega) (by omega)) (sV Z (ah aH Z Z ec1) (sV Z (ax aH Z) (fq (wn Z) Z aH aR pk Z (by omega) (by unfold maxLen; omega) eP1 (fun b1 w1 e1 g1 H1=>sA Z Z (aa (ac (ab (sA Z Z (aa (ai (aM (γ:=Nat × Value × List Nat) (fun (k,vo,f)=>[(0,.slice xsA xs.length xsC),(1,.slice ysA ys.length ysC),(5,vo),(6,.int .i64 k)]) (fun (k,vo,f) w'=>Sep No w [mine [vo] (mb xs ys (xs.getD 0 []).length k) f] [seen false [.slice xsA xs.length xsC] xs xsF,seen false [.slice ysA ys.length ysC] ys ysF] w'∧k≤xs.length) (fun (k,vo,f)=>xs.length-k) (0,_,_) ⟨Z,Z,Z,Z,trivial⟩ ⟨(H1.ftake 2),by omega⟩ (fun (k,vo,f) w2 H2=>?_))))))))))))));obtain ⟨H2,hk⟩:=H2;refine ac (ab (sR 2 Z (sV Z (ax bD Z) (sV Z (aI Z Z) (aa (au Z (fun c1=>?_) (fun c1=>?_)))))))
 ·refine ag (ac (ai ?_));have ml:=jA (cs:=ys) hx (k:=k) (by omega);have sl:=eL (xs.getD k []) (ys.getD k 0);have hxk:=hx k (by omega);obtain ⟨oA,oC,oq⟩:=aB (H2.mine 0 Z);cases oq;obtain ⟨eb2,eo2,ea2,ek2,ef2,ee2,ec2,eO2,eH2⟩:=cE (H2.seen 0 Z) k (by omega);have eP2:=H2.look1 0 Z eO2 eH2;obtain ⟨eb3,eo3,ee3,ec3⟩:=bI (eP2.seen 1 Z) k (by omega);refine bv (S:=Ext No _) (oQ [1,3,5,7,9,11,13,15,17,18,20,22]) (by kernel_rfl) (by kernel_rfl) (by kernel_rfl) Z (fun _=>Ext.refl.drawn _) (fun q1=>?_);have H3:=eP2.drawn q1;refine dR 3 Z (dV Z Z (fun zw hx=>ao bD aW Z Z ee2 k (by omega) (by omega)) (dV Z Z (fun zw hx=>ah aH Z Z (hx.cell ec2)) (dR 2 Z (dV Z Z (fun zw hx=>ao aH ts5 Z Z ee3 k (by omega) (by omega)) (dV Z Z (fun zw hx=>ah tu5 Z Z (hx.cell ec3)) (dC func252 m0 Z (fL (H3.sees 2 Z) (by omega)) (fun v1 w3 r1=>?_)))))));obtain ⟨e2,r1⟩:=r1;obtain ⟨fp1,H4⟩:=H3.res e2 r1;obtain ⟨a1,k1,q2⟩:=aB (H4.mine 1 Z);cases q2;refine dC func253 rP Z (kI (H4.msees 0 Z) (H4.msees 1 Z) (by omega)) (fun v2 w4 r2=>?_);obtain ⟨e3,r2⟩:=r2;obtain ⟨fp2,H5⟩:=H4.res e3 r2;obtain ⟨a2,k2,q3⟩:=aB (H5.mine 2 Z);cases q3;refine aQ Z (wn Z) Z Z (aZ Z) (aP (aj (sM Z Z (sV Z (aw Z Z iO) (sA Z Z (aa (⟨(k+1,_,_),⟨Z,Z,Z,Z,trivial⟩,⟨H5.ftake 2 |>.sub (.cons _ (.cons _ (.cons_cons _ List.Sublist.slnil))),by omega⟩,by dsimp only; omega⟩)))))))
 ·refine aD (ab (sR 2 Z (rN hQ results335 Z ?_)));obtain rfl:k=xs.length:=by omega
  exact ⟨H2.ext,H2.out 0 Z⟩
theorem p4 {w:World}{xs:List (List UInt8)}{xsA ysA:Option Addr}{xsC ysC:Nat}{ys:List UInt8}(xsS:Sees w [.slice xsA xs.length xsC] xs) (ysS:Sees w [.slice ysA ys.length ysC] ys) {n:Nat}(h0:0<xs.length) (hy:xs.length≤ys.length) (hx:∀ i,i<xs.length→(xs.getD i []).length=n) (hn:n≤1048576):Ret Tryz.prog 294 #[.slice xsA xs.length xsC,.slice ysA ys.length ysC] w fun v w'=>Ext No w w'∧(Res w w' [v] (mb xs ys n xs.length)):=by
 have xsL:=sL xsS;obtain ⟨xsF,xsO⟩:=xsS;have ysL:=sL ysS;obtain ⟨ysF,ysO⟩:=ysS;obtain rfl:=hx 0 h0;refine aA (vs:=[.slice xsA xs.length xsC,.slice ysA ys.length ysC]) func294 Z ntmps294 Z (fun Q hQ hN=>?_);have H0:=Sep.start (w:=w) (F:=[seen false [.slice xsA xs.length xsC] xs xsF,seen false [.slice ysA ys.length ysC] ys ysF]) (ae xsO (ae ysO (by simp)));refine ab (sA Z Z (aa (ac ?_)));obtain ⟨eb1,eo1,ea1,ek1,ef1,ee1,ec1,eO1,eH1⟩:=cE (H0.seen 0 Z) 0 (by omega);have eP1:=H0.look1 0 Z eO1 eH1;refine aj (sM Z Z (sV Z (ao bD aW Z Z ee1 0 (by omega) (by omega)) (sV Z (ah aH Z Z ec1) (sV Z (ax aH Z) (fq (wn Z) Z aH aR pk Z (by omega) (by unfold maxLen; omega) eP1 (fun b1 w1 e1 g1 H1=>sA Z Z (aa (ac (ab (sM Z Z (sV Z (ax bD Z) (sM Z Z (aa (ai (aM (γ:=Nat × List Nat) (fun (k,f)=>[(1,.slice ysA ys.length ysC),(5,.slice (some ⟨b1,0,none⟩) (xs.getD 0 []).length (xs.getD 0 []).length),(13,.slice xsA xs.length xsC),(14,.int .i64 xs.length),(15,.int .i64 k)]) (fun (k,f) w'=>Sep No w [mine [.slice (some ⟨b1,0,none⟩) (xs.getD 0 []).length (xs.getD 0 []).length] (mb xs ys (xs.getD 0 []).length k) f] [seen false [.slice xsA xs.length xsC] xs xsF,seen false [.slice ysA ys.length ysC] ys ysF] w'∧k≤xs.length) (fun (k,f)=>xs.length-k) (0,_) ⟨Z,Z,Z,Z,Z,trivial⟩ ⟨(H1.ftake 2),by omega⟩ (fun (k,f) w2 H2=>?_))))))))))))))));obtain ⟨H2,hk⟩:=H2;refine ab (sV Z (aI Z Z) (aa (ac (au Z (fun c1=>?_) (fun c1=>?_)))))
 ·refine ag (ac (ai (ac ?_)));obtain ⟨eb2,eo2,ea2,ek2,ef2,ee2,ec2,eO2,eH2⟩:=cE (H2.seen 0 Z) k (by omega);have eP2:=H2.look1 0 Z eO2 eH2;refine aj (sM Z Z (sV Z (ao bD aW Z Z ee2 k (by omega) (by omega)) (sV Z (ah aH Z Z ec2) (sR 2 Z (aa ?_)))));have ml:=jA (cs:=ys) hx (k:=k) (by omega);have sl:=eL (xs.getD k []) (ys.getD k 0);have hxk:=hx k (by omega);obtain ⟨eb3,eo3,ee3,ec3⟩:=bI (eP2.seen 1 Z) k (by omega);refine aj (sR 4 Z (sV Z (ao aH ts5 Z Z ee3 k (by omega) (by omega)) (sV Z (ah tu5 Z Z ec3) (sC func316 mR Z (jh (eP2.mine 0 Z) (eP2.nodup1 (i:=0) Z) (bu (eP2.seen 2 Z)) (fun b hb=>eP2.off 2 Z 0 Z hb) (by first | assumption | omega)) (fun v1 w3 r1=>?_)))));obtain ⟨fp1,H3⟩:=eP2.mut 0 Z r1;refine aa (aj (sV Z (aw Z Z iO) (sM Z Z (aa (⟨(k+1,_),⟨Z,Z,Z,Z,Z,trivial⟩,⟨(H3.ftake 2),by omega⟩,by dsimp only; omega⟩)))))
 ·refine aD (ab (sR 2 Z (rN hQ results294 Z ?_)));obtain rfl:k=xs.length:=by omega
  exact ⟨H2.ext,H2.out 0 Z⟩
theorem kE {w:World}{n:Nat}{p base:Int}(hn:n≤100∧0≤base∧base≤100∧0≤p∧p≤500):Ret Tryz.prog 336 #[.int .i64 n,.int .i64 p,.int .i64 base] w fun v w'=>Ext No w w'∧(Res w w' [v] (ki n p base)):=by
 refine aA (vs:=[.int .i64 n,.int .i64 p,.int .i64 base]) func336 Z ntmps336 Z (fun Q hQ hN=>?_);have H0:=Sep.start (w:=w) (F:=[]) (by simp);refine ab (sA Z Z (aa (ab (sM Z Z (fq (wn Z) Z aH aR pk Z (by omega) (by unfold maxLen; omega) H0 (fun b1 w1 e1 g1 H1=>sA Z Z (aa (ac (ab (sA Z Z (aa (ai (aM (γ:=Nat × List Nat) (fun (k,f)=>[(0,.int .i64 n),(1,.int .i64 p),(2,.int .i64 base),(7,.slice (some ⟨b1,0,none⟩) n n),(8,.int .i64 k)]) (fun (k,f) w'=>Sep No w [mine [.slice (some ⟨b1,0,none⟩) n n] (hJ (nY n p base) n k) f] [] w'∧k≤n) (fun (k,f)=>n-k) (0,[b1]) ⟨Z,Z,Z,Z,Z,trivial⟩ ⟨(by rw [rh]; exact H1),by omega⟩ (fun (k,f) w2 H2=>?_))))))))))))));obtain ⟨H2,hk⟩:=H2;refine ac (ab (sR 3 Z (aa (au Z (fun c1=>?_) (fun c1=>?_)))))
 ·refine ag (ac (ai (ab (sR 3 Z (aa (au Z (fun c2=>?_) (fun c2=>?_)))))))
  ·obtain ⟨eb1,eo1,ee1,ec1⟩:=bI (H2.mine 0 Z) k (by rw [fG (by omega)]; omega);refine aj (sR 4 Z (sV Z (aw Z Z iO) (sM Z Z (sV Z (bm Z Z iO) (sM Z Z (sE func251 xh Z (mE (by omega)) H2 (fun w3 e2 H3=>sV Z (ao aH ts5 Z Z ee1 k (by omega) (by omega)) (lv (wn Z) ts5 Z H3 0 Z k (by rw [fG (by omega)]; omega) Z ee1 Z dS (fun w4 fp1 e3 H4=>aa (aj (sM Z Z (sV Z (aw Z Z iO) (sA Z Z (aa ?_))))))))))))))
   refine ⟨(k+1,_),⟨Z,Z,Z,Z,Z,trivial⟩,⟨by
    have h:=H4;rw [lC (by omega) (by rw [nY,if_pos (by omega)])] at h
    exact h,by omega⟩,by dsimp only; omega⟩
  ·refine ab (sR 3 Z (aa (au Z (fun c3=>?_) (fun c3=>?_))))
   ·obtain ⟨eb2,eo2,ee2,ec2⟩:=bI (H2.mine 0 Z) k (by rw [fG (by omega)]; omega);refine aj (sR 2 Z (sV Z (ao aH ts5 Z Z ee2 k (by omega) (by omega)) (lv (wn Z) ts5 Z H2 0 Z k (by rw [fG (by omega)]; omega) Z ee2 Z (dS (x:=1)) (fun w5 fp2 e4 H5=>aa (aj (sM Z Z (sV Z (aw Z Z iO) (sA Z Z (aa ?_)))))))))
    refine ⟨(k+1,_),⟨Z,Z,Z,Z,Z,trivial⟩,⟨by
     have h:=H5;rw [lC (by omega) (by rw [nY,if_neg (by omega),if_pos (by omega)])] at h
     exact h,by omega⟩,by dsimp only; omega⟩
   ·refine ag (aj (sM Z Z (sV Z (aw Z Z iO) (sA Z Z (aa ?_)))))
    refine ⟨(k+1,_),⟨Z,Z,Z,Z,Z,trivial⟩,⟨by
     have h:=H2;rw [ra (by omega) (by rw [nY,if_neg (by omega),if_neg (by omega)])] at h
     exact h,by omega⟩,by dsimp only; omega⟩
 ·refine aD (ab (sR 2 Z (rN hQ results336 Z ?_)));obtain rfl:k=n:=by omega
  exact ⟨H2.ext,by
   have h:=H2.out 0 Z
   rwa [sG] at h⟩
theorem eT {w:World}{n:Nat}{s p:Int}(hn:n≤100∧0≤p∧p≤500):Ret Tryz.prog 347 #[.agg #[.int .i64 n,.int .i64 s],.int .i64 p] w fun v w'=>Ext No w w'∧(Res w w' [v] (ki n p 0)):=by
 refine aA (vs:=[.agg #[.int .i64 n,.int .i64 s],.int .i64 p]) func347 Z ntmps347 Z (fun Q hQ hN=>?_);have H0:=Sep.start (w:=w) (F:=[]) (by simp);refine ab (aV (wn Z) Z Z H0 (fun b1 w1 e1 g1 H1=>sA Z Z (aa (ab (sF kL Z ts2 (sLd tu2 (H1.box 0 Z) Z (fq (wn Z) Z aH aR pk Z (by omega) (by unfold maxLen; omega) H1 (fun b2 w2 e2 g2 H2=>sA Z Z (aa (ac (ab (sF kL Z ts2 (sLd tu2 (H2.box 0 Z) Z (sM Z Z (aa (ai (aM (γ:=Nat × List Nat) (fun (k,f)=>[(1,.int .i64 p),(2,.pointer (some ⟨b1,0,none⟩)),(5,.slice (some ⟨b2,0,none⟩) n n),(11,.int .i64 n),(12,.int .i64 k)]) (fun (k,f) w'=>Sep No w [box b1 (.cells #[.int .i64 n,.int .i64 s] 226),mine [.slice (some ⟨b2,0,none⟩) n n] (hJ (nY n p 0) n k) f] [] w'∧k≤n) (fun (k,f)=>n-k) (0,[b2]) ⟨Z,Z,Z,Z,Z,trivial⟩ ⟨(by rw [rh]; exact H2),by omega⟩ (fun (k,f) w3 H3=>?_))))))))))))))))));obtain ⟨H3,hk⟩:=H3;refine ab (sV Z (aI Z Z) (aa (ac (au Z (fun c1=>?_) (fun c1=>?_)))))
 ·refine ag (ac (ai (ab (sR 2 Z (aa (ai (ab (sM Z Z (sF kL Z ts2 (sLd tu2 (H3.box 0 Z) Z (sR 2 Z (aa (au Z (fun c2=>?_) (fun c2=>?_))))))))))))))
  ·obtain ⟨eb1,eo1,ee1,ec1⟩:=bI (H3.mine 1 Z) k (by rw [fG (by omega)]; omega);refine aj (sR 3 Z (sF kL Z ts2 (sLd tu2 (H3.box 0 Z) Z (sV Z (bm Z Z iO) (sM Z Z (sE func404 yZ Z (pm (by omega)) H3 (fun w4 e3 H4=>sV Z (ao aH ts5 Z Z ee1 k (by omega) (by omega)) (lv (wn Z) ts5 Z H4 1 Z k (by rw [fG (by omega)]; omega) Z ee1 Z dS (fun w5 fp1 e4 H5=>aa (aj (sV Z (aw Z Z iO) (sM Z Z (aa ?_)))))))))))))
   refine ⟨(k+1,_),⟨Z,Z,Z,Z,Z,trivial⟩,⟨by
    have h:=H5;rw [lC (by omega) (by rw [nY,if_pos (by omega)]; congr 1; omega)] at h
    exact h,by omega⟩,by dsimp only; omega⟩
  ·refine ab (sR 4 Z (aa (au Z (fun c3=>?_) (fun c3=>?_))))
   ·obtain ⟨eb2,eo2,ee2,ec2⟩:=bI (H3.mine 1 Z) k (by rw [fG (by omega)]; omega);refine aj (sR 2 Z (sV Z (ao aH ts5 Z Z ee2 k (by omega) (by omega)) (lv (wn Z) ts5 Z H3 1 Z k (by rw [fG (by omega)]; omega) Z ee2 Z (dS (x:=1)) (fun w6 fp2 e5 H6=>aa (aj (sV Z (aw Z Z iO) (sM Z Z (aa ?_))))))))
    refine ⟨(k+1,_),⟨Z,Z,Z,Z,Z,trivial⟩,⟨by
     have h:=H6;rw [lC (by omega) (by rw [nY,if_neg (by omega),if_pos (by omega)])] at h
     exact h,by omega⟩,by dsimp only; omega⟩
   ·refine ag (aj (sV Z (aw Z Z iO) (sM Z Z (aa ?_))))
    refine ⟨(k+1,_),⟨Z,Z,Z,Z,Z,trivial⟩,⟨by
     have h:=H3;rw [ra (by omega) (by rw [nY,if_neg (by omega),if_neg (by omega)])] at h
     exact h,by omega⟩,by dsimp only; omega⟩
 ·refine aD (ab (sR 2 Z (rN hQ results347 Z ?_)));obtain rfl:k=n:=by omega
  exact ⟨H3.ext,by
   have h:=H3.out 1 Z
   rwa [sG] at h⟩
end Go.Wk
namespace Go.Wk
open Go.Proofs Rp Go.Proofs.Tryz
set_option maxRecDepth 10000
theorem oG {w:World}{xs:List (List UInt8)}{xsA:Option Addr}{xsC:Nat}(xsS:Sees w [.slice xsA xs.length xsC] xs) (hb:Do xs≤100000000):Ret Tryz.prog 234 #[.slice xsA xs.length xsC] w fun v w'=>Ext No w w'∧(Res w w' [v] xs.flatten):=by
 have xsL:=sL xsS;obtain ⟨xsF,xsO⟩:=xsS;refine aA (vs:=[.slice xsA xs.length xsC]) func234 Z ntmps234 Z (fun Q hQ hN=>?_);have H0:=Sep.start (w:=w) (F:=[seen false [.slice xsA xs.length xsC] xs xsF]) (ae xsO (by simp));refine ab (sA Z Z (aa (ab (cZ (α:=UInt8) (wn Z) Z aH aR H0 (fun b1 w1 e1 g1 H1=>sA Z Z (aa (ac (ab (sA Z Z (aa (ai (aM (γ:=Nat × Value × List Nat) (fun (k,vo,f)=>[(0,.slice xsA xs.length xsC),(3,vo),(4,.int .i64 k)]) (fun (k,vo,f) w'=>Sep No w [mine [vo] (xs.take k).flatten f] [seen false [.slice xsA xs.length xsC] xs xsF] w'∧k≤xs.length) (fun (k,vo,f)=>xs.length-k) (0,_,_) ⟨Z,Z,Z,trivial⟩ ⟨H1,by omega⟩ (fun (k,vo,f) w2 H2=>?_)))))))))))));obtain ⟨H2,hk⟩:=H2;refine ac (ab (sR 2 Z (sV Z (ax bD Z) (sV Z (aI Z Z) (aa (au Z (fun c1=>?_) (fun c1=>?_)))))))
 ·refine ag (ac (ai ?_));have fl:=rD (xs:=xs) (k:=k) (by omega);have cs:=z2 (xs:=xs) (i:=k) (by omega);obtain ⟨eb1,eo1,ea1,ek1,ef1,ee1,ec1,eO1,eH1⟩:=cE (H2.seen 0 Z) k (by omega);have eP1:=H2.look1 0 Z eO1 eH1;refine aj (sR 3 Z (sV Z (ao bD aW Z Z ee1 k (by omega) (by omega)) (sV Z (ah aH Z Z ec1) (oP (wn Z) Z aH aR Z Z Z eP1 0 Z (eP1.seen 1 Z) (by (try simp only [List.length_nil]); unfold maxLen; omega) (by (try simp only [List.length_nil]); omega) (fun v1 w3 fp1 H3=>sA Z Z (aa (aj (sM Z Z (sV Z (aw Z Z iO) (sA Z Z (aa ?_)))))))))));have hz:=H3.ftake 1 |>.sub (.cons_cons _ List.Sublist.slnil)
  rw [tz (by omega)] at hz;refine ⟨(k+1,_,_),⟨Z,Z,Z,trivial⟩,⟨hz,by omega⟩,by dsimp only; omega⟩
 ·refine aD (ab (sR 2 Z (rN hQ results234 Z ?_)));obtain rfl:k=xs.length:=by omega
  exact ⟨H2.ext,by
   have h:=H2.out 0 Z
   rwa [uU] at h⟩
end Go.Wk
namespace Go.Wk
open Go.Proofs Rp Go.Proofs.Tryz
set_option maxRecDepth 10000
theorem cW {w:World}{xs:List UInt8}{xsA:Option Addr}{xsC:Nat}(xsS:Sees w [.slice xsA xs.length xsC] xs) (hl:xs.length≤100000000):Ret Tryz.prog 109 #[.slice xsA xs.length xsC] w fun v w'=>Ext No w w'∧(Res w w' [v] xs):=by
 have xsL:=sL xsS;obtain ⟨xsF,xsO⟩:=xsS;refine aA (vs:=[.slice xsA xs.length xsC]) func109 Z ntmps109 Z (fun Q hQ hN=>?_);have H0:=Sep.start (w:=w) (F:=[seen false [.slice xsA xs.length xsC] xs xsF]) (ae xsO (by simp));refine ab (sA Z Z (aa (ac (ab (sM Z Z (sV Z (ux aH Z Z) (aa (bz Z (fun c1=>?_) (fun c1=>?_)))))))))
 ·refine ab (rA hQ results109 Z ?_);have e:xs=[]:=uG xsO c1;exact ⟨H0.ext,e ▸ ⟨[],.inr (.inl ⟨Z,Z,Z⟩),.nil,by simp⟩⟩
 ·refine ag (ab (cZ (α:=UInt8) (wn Z) Z aH aR H0 (fun b1 w1 e1 g1 H1=>sM Z Z (oP (wn Z) Z aH aR Z Z Z H1 0 Z (H1.seen 0 Z) (by (try simp only [List.length_nil]); unfold maxLen; omega) (by (try simp only [List.length_nil]); omega) (fun v1 w2 fp1 H2=>rA hQ results109 Z ?_)))))
  exact ⟨H2.ext,by
   have h:=H2.out 0 Z
   rwa [List.nil_append] at h⟩
theorem sh {w:World}{xs ys:List UInt8}{xsA ysA:Option Addr}{xsC ysC:Nat}{c:UInt8}(xsS:Sees w [.slice xsA xs.length xsC] xs) (ysS:Sees w [.slice ysA ys.length ysC] ys) (hl:xs.length=ys.length∧xs.length≤100000):Ret Tryz.prog 197 #[.slice xsA xs.length xsC,.slice ysA ys.length ysC,.int .u8 c.toNat] w fun v w'=>Ext No w w'∧(Res w w' [v] (fY xs (cq ys c))):=by
 have xsL:=sL xsS;obtain ⟨xsF,xsO⟩:=xsS;have ysL:=sL ysS;obtain ⟨ysF,ysO⟩:=ysS;refine aA (vs:=[.slice xsA xs.length xsC,.slice ysA ys.length ysC,.int .u8 c.toNat]) func197 Z ntmps197 Z (fun Q hQ hN=>?_);have H0:=Sep.start (w:=w) (F:=[seen false [.slice xsA xs.length xsC] xs xsF,seen false [.slice ysA ys.length ysC] ys ysF]) (ae xsO (ae ysO (by simp)));refine ab (sA Z Z (aa (ab (sM Z Z (sC func109 ke Z (cW (H0.sees 0 Z) (by omega)) (fun v1 w1 r1=>?_))))));obtain ⟨e1,r1⟩:=r1;obtain ⟨fp1,H1⟩:=H0.res e1 r1;obtain ⟨a1,k1,q1⟩:=aB (H1.mine 0 Z);cases q1;refine sA Z Z (aa (ab (sR 3 Z (sC func316 mR Z (jh (H1.mine 0 Z) (H1.nodup1 (i:=0) Z) (bu (H1.seen 1 Z)) (fun b hb=>H1.off 1 Z 0 Z hb) (by first | assumption | omega)) (fun v2 w2 r2=>?_)))));obtain ⟨fp2,H2⟩:=H1.mut 0 Z r2;refine aa (ab (sR 2 Z (rN hQ results197 Z ?_)));exact ⟨H2.ext,H2.out 0 Z⟩
end Go.Wk
namespace Go.Wk
open Go.Proofs Rp Go.Proofs.Tryz
set_option maxRecDepth 10000
theorem ph {w:World}{xs:List UInt8}{xsA:Option Addr}{xsC:Nat}{c:UInt8}(xsS:Sees w [.slice xsA xs.length xsC] xs) (hl:xs.length≤100000):Ret Tryz.prog 348 #[.slice xsA xs.length xsC,.int .u8 c.toNat] w fun v w'=>Ext No w w'∧(Res w w' [v] (cq xs c)):=by
 have xsL:=sL xsS;obtain ⟨xsF,xsO⟩:=xsS;refine aA (vs:=[.slice xsA xs.length xsC,.int .u8 c.toNat]) func348 Z ntmps348 Z (fun Q hQ hN=>?_);have H0:=Sep.start (w:=w) (F:=[seen false [.slice xsA xs.length xsC] xs xsF]) (ae xsO (by simp));refine ab (sA Z Z (aa (ab (sM Z Z (sV Z (ax aH Z) (fq (wn Z) Z aH aR pk Z (by omega) (by unfold maxLen; omega) H0 (fun b1 w1 e1 g1 H1=>sA Z Z (aa (ac ?_)))))))));have rl:(List.replicate xs.length (0:UInt8)).length=xs.length:=List.length_replicate;refine aj (sR 3 Z (sC func316 mR Z (jh (H1.mine 0 Z) (H1.nodup1 (i:=0) Z) (bu (H1.seen 0 Z)) (fun b hb=>H1.off 0 Z 0 Z hb) (by first | assumption | omega)) (fun v1 w2 r1=>?_)));obtain ⟨fp1,H2⟩:=H1.mut 0 Z r1;refine aa (ab (sR 2 Z (rN hQ results348 Z ?_)))
 exact ⟨H2.ext,by
  have h:=H2.out 0 Z
  rwa [uK (eL xs c)] at h⟩
theorem oD {w:World}{K l n:Nat}{m:Mat}{vs0:List View}{VA:Option Addr}{VC:Nat}{fp g0:List Nat}(o:own true w [.slice VA K VC] vs0 fp) (nd:fp.Nodup) (hr0:bG false w (vs0.map View.val) m g0) (hd:∀ b∈g0,b ∉ fp) (vl0:vs0.length=K) (hR0:Rect m K l) (hn:n<l∧l≤1000∧1≤K∧K≤1000):Ret Tryz.prog 443 #[.slice VA K VC,.int .i64 n] w fun v w'=>(v = .int .i64 ((redM m n).2:Nat)∧RowsMut w w' fp (.slice VA K VC) K (redM m n).1):=by
 refine aA (vs:=[.slice VA K VC,.int .i64 n]) func443 Z ntmps443 Z (fun Q hQ hN=>?_);have H0:=Sep.beginRows o nd hr0 hd;refine ab (sA Z Z (aa (ab (sA Z Z (aa (ac (ab (sA Z Z (aa (ai (aM (γ:=Nat × Mat × Nat × List View × List Nat × List Nat) (fun (c,M,r,vs,f,g)=>[(0,.slice VA K VC),(1,.int .i64 n),(5,.int .i64 r),(6,.int .i64 c)]) (fun (c,M,r,vs,f,g) w'=>Sep (· ∈ fp) w [mine [.slice VA K VC] vs f] [rows vs M g] w'∧c≤n∧redM m c=(M,r)∧Rect M K l∧r≤K∧vs.length=K) (fun (c,M,r,vs,f,g)=>n-c) (0,m,0,_,_,_) ⟨Z,Z,Z,Z,trivial⟩ ⟨H0,by omega,Z,hR0,by omega,vl0⟩ (fun (c,M,r,vs,f,g) w1 H1=>?_))))))))))));obtain ⟨H1,hc,hred,hR,hrK,vl⟩:=H1;refine ac (ab (sR 3 Z (aa (au Z (fun c1=>?_) (fun c1=>?_)))))
 ·refine ag (ac (ai (ab (sA Z Z (aa (ac (ac ?_)))))));have xl:=hR.1;refine aj (sR 2 Z (aa (ai (aM (γ:=Nat) (fun j=>[(0,.slice VA K VC),(1,.int .i64 n),(5,.int .i64 r),(6,.int .i64 c),(7,.int .i64 (-1)),(8,.int .i64 j)]) (fun j w'=>Sep (· ∈ fp) w _ _ w'∧r≤j∧j≤K∧∀ i,r≤i→i<j→entry M i c=0) (fun j=>K-j) r ⟨Z,Z,Z,Z,Z,Z,trivial⟩ ⟨H1,by omega,by omega,fun i h1 h2=>by omega⟩ (fun j w2 H2=>?_)))));obtain ⟨H2,hj1,hj2,hnz⟩:=H2;refine ac (ab (sR 2 Z (sV Z (ax bD Z) (sV Z (aI Z Z) (aa (au Z (fun c2=>?_) (fun c2=>?_)))))))
  ·refine ag (ac (ai (ac ?_)));have e1:=hR.2 j (by omega);obtain ⟨eb1,eo1,ea1,ek1,ef1,ee1,ec1,eO1,eH1,em1⟩:=cA (H2.mine 0 Z) (H2.rowsAt 0 Z) (by first | omega | (simp only [List.length_set]; omega)) j (by first | omega | (simp only [List.length_set]; omega));have eP1:=H2.lookR 0 Z eO1 eH1;obtain ⟨eb2,eo2,ee2,ec2⟩:=bI (eP1.seen 1 Z) c (by omega);refine aj (sR 2 Z (sV Z (ao bD aW Z Z ee1 j (by omega) (by omega)) (sV Z (ah aH Z Z ec1) (sM Z Z (sV Z (ao aH ts5 Z Z ee2 c (by omega) (by omega)) (sV Z (ah tu5 Z Z ec2) (sV Z (bg Z Z) (aa (au Z (fun c3=>?_) (fun c3=>?_))))))))))
   ·refine ab (sR 2 Z (aa (aD (ac (ac ?_)))));have hpv:jv M c r=j:=nq (by omega) (by omega) hnz (.inr (fun e=>c3 (by rw [entry] at e; rw [e]; rfl)));refine aj (sR 2 Z (aa (au Z (fun c4=>?_) (fun c4=>?_))))
    ·exact absurd c4 (by omega)
    ·refine ag (ac ?_);obtain ⟨eb3,eo3,ea2,ek2,ef2,ee3,ec3,eO2,eH2,em2⟩:=cA (eP1.mine 0 Z) (eP1.rowsAt 0 Z) (by first | omega | (simp only [List.length_set]; omega)) j (by first | omega | (simp only [List.length_set]; omega));have eP2:=eP1.lookR 0 Z eO2 eH2;obtain ⟨eb4,eo4,ea3,ek3,ef3,ee4,ec4,eO3,eH3,em3⟩:=cA (eP2.mine 0 Z) (eP2.rowsAt 0 Z) (by first | omega | (simp only [List.length_set]; omega)) r (by first | omega | (simp only [List.length_set]; omega));have eP3:=eP2.lookR 0 Z eO3 eH3;refine bv (S:=fun zw=>zw.cell? ⟨eb3,eo3+j*1,none⟩=some (.slice ea2 (M.getD j []).length ek2)) (oQ [1,3,5,7,9,11,13,17,19,21,15,22,24,26,28,30]) (by kernel_rfl) (by kernel_rfl) (by kernel_rfl) Z (fun _=>ec3) (fun q1=>?_);have H3:=eP3.drawn q1;refine dR 6 Z (dV Z Z (fun zw hx=>ao bD aW Z Z ee3 j (by omega) (by omega)) (dR 2 Z (dV Z Z (fun zw hx=>ao bD aW Z Z ee4 r (by omega) (by omega)) (dV Z Z (fun zw hx=>ah aH Z Z hx) (aQ Z (wn Z) Z Z (ah aH Z Z ec4) (aQ Z (wn Z) Z Z (ao bD aW Z Z ee4 r (by omega) (by omega)) (kV Z (wn Z) aW H3 0 0 2 Z Z Z (by first | omega | (simp only [List.length_set]; omega)) r (by first | omega | (simp only [List.length_set]; omega)) Z ee4 Z (fun b o cur T e1 hb hs hc _=>by   rw [ee3] at e1;   cases e1;   exact Av hb hs hc) (fun w3 fp1 gp1 H4=>?_))))))))
     try dsimp only[lNA,lCA,lSZ,lSS] at H4
     refine aQ Z (wn Z) Z Z (ao bD aW Z Z ee3 j (by omega) (by omega)) (kV Z (wn Z) aW H4 0 0 3 Z Z Z (by first | omega | (simp only [List.length_set]; omega)) j (by first | omega | (simp only [List.length_set]; omega)) Z ee3 Z (fun _ _ _ _ _ _ _ _ hr=>absurd Z hr) (fun w4 fp2 gp2 H5=>?_))
     try dsimp only[lNA,lCA,lSZ,lSS] at H5
     refine aP (ac ?_);have hsR:=hR.swap (r:=r) (a:=j) (by omega) (by omega);have e2:(((M.set r (M.getD j [])).set j (M.getD r [])).getD r []).length=l:=hsR.2 r (by omega);obtain ⟨eb5,eo5,ea4,ek4,ef4,ee5,ec5,eO4,eH4,em4⟩:=cA (H5.mine 0 Z) (H5.rowsAt 0 Z) (by first | omega | (simp only [List.length_set]; omega)) r (by first | omega | (simp only [List.length_set]; omega));have eP4:=H5.lookR 0 Z eO4 eH4;obtain ⟨eb6,eo6,ee6,ec6⟩:=bI (eP4.seen 4 Z) c (by omega);refine bv (S:=Ext No _) (oQ [1,3,5,7,9,11,13,15,17,19,21,23,25,26,28,31,32]) (by kernel_rfl) (by kernel_rfl) (by kernel_rfl) Z (fun _=>Ext.refl.drawn _) (fun q2=>?_);have H6:=eP4.drawn q2;refine dR 4 Z (dV Z Z (fun zw hx=>ao bD aW Z Z ee5 r (by omega) (by omega)) (dV Z Z (fun zw hx=>ah aH Z Z (hx.cell ec5)) (dR 2 Z (dV Z Z (fun zw hx=>ao bD aW Z Z ee5 r (by omega) (by omega)) (dV Z Z (fun zw hx=>ah aH Z Z (hx.cell ec5)) (dM Z Z Z (dV Z Z (fun zw hx=>ao aH ts5 Z Z ee6 c (by omega) (by omega)) (dV Z Z (fun zw hx=>ah tu5 Z Z (hx.cell ec6)) (dC func405 qM Z (l0 (a:=1)) (fun v1 w5 r1=>?_))))))))));obtain ⟨e3,rfl⟩:=r1;have H7:=H6.to e3;refine dC func348 xC Z (ph (H7.sees 4 Z) (by omega)) (fun v2 w6 r2=>?_);obtain ⟨e4,r2⟩:=r2;obtain ⟨fp3,H8⟩:=H7.res e4 r2;obtain ⟨a1,k1,q3⟩:=aB (H8.mine 1 Z);cases q3;refine dV Z Z (fun zw hx=>ao bD aW Z Z ee5 r (by omega) (by omega)) ?_;have H10:=H8.share 1 Z
     try dsimp only[lNA,lCA,lSZ,lSS] at H10
     refine kV Z (wn Z) aW H10 0 0 5 Z Z Z (by first | omega | (simp only [List.length_set]; omega)) r (by first | omega | (simp only [List.length_set]; omega)) Z ee5 Z (fun _ _ _ _ _ _ _ _ hr=>absurd Z hr) (fun w7 fp4 gp3 H9=>?_)
     try dsimp only[lNA,lCA,lSZ,lSS] at H9
     refine aP (ac (ac ?_));have HN:=H9;rw [C4 (by omega) (by omega)] at HN;refine aj (sM Z Z (sV Z (ax bD Z) (sM Z Z (aa (ai (aM (γ:=Nat × List View × List Nat × List Nat) (fun (i,vs2,f2,g2)=>[(0,.slice VA K VC),(1,.int .i64 n),(5,.int .i64 r),(6,.int .i64 c),(63,.slice VA K VC),(64,.int .i64 K),(65,.int .i64 i)]) (fun (i,vs2,f2,g2) w'=>Sep (· ∈ fp) w [mine [.slice VA K VC] vs2 f2] [rows vs2 (cb (jB M c r j) c r i) g2] w'∧i≤K∧vs2.length=K) (fun (i,vs2,f2,g2)=>K-i) (0,_,_,_) ⟨Z,Z,Z,Z,Z,Z,Z,trivial⟩ ⟨by rw [pt]; exact ((HN.ftake 1).dtake 1),by omega,by simp only [List.length_set]; omega⟩ (fun (i,vs2,f2,g2) w8 H11=>?_)))))));obtain ⟨H11,hi,vl2⟩:=H11;refine ab (sV Z (aI Z Z) (aa (ac (au Z (fun c5=>?_) (fun c5=>?_)))))
     ·refine ag (ac (ai (ab (sR 2 Z (aa (ac ?_))))));have nR:=hR.norm (c:=c) (r:=r) (a:=j) (by omega) (by omega);have eR:=nR.elim (c:=c) (r:=r) (k:=i) (by omega);have xl2:=eR.1;have e3:=eR.2 i (by omega);have e4:=eR.2 r (by omega);obtain ⟨eb7,eo7,ea5,ek5,ef5,ee7,ec7,eO5,eH5,em5⟩:=cA (H11.mine 0 Z) (H11.rowsAt 0 Z) (by first | omega | (simp only [List.length_set]; omega)) i (by first | omega | (simp only [List.length_set]; omega));have eP5:=H11.lookR 0 Z eO5 eH5;obtain ⟨eb8,eo8,ee8,ec8⟩:=bI (eP5.seen 1 Z) c (by omega);refine aj (sR 4 Z (bp 8 (j:=3) (want:=true) (t:=79) Z Z Z Z (fun hg1 kk1=>ak (wgE Z Z Z hg1) Z Z (aG Z) (ak (wgE Z Z Z hg1) Z Z (aG Z) (ak (wgE Z Z Z hg1) Z Z (ao bD aW Z Z ee7 i (by first | omega | (simp only [Bool.or_eq_false_iff,Bool.and_eq_true,Bool.and_eq_false_iff,Bool.or_eq_true,Bool.not_eq_true',Bool.not_eq_false',decide_eq_true_eq,decide_eq_false_iff_not] at hg1; omega)) (by omega)) (ak (wgE Z Z Z hg1) Z Z (ah aH Z Z ec7) (ak (wgE Z Z Z hg1) Z Z (aG Z) (ak (wgE Z Z Z hg1) Z Z (ao aH ts5 Z Z ee8 c (by first | omega | (simp only [Bool.or_eq_false_iff,Bool.and_eq_true,Bool.and_eq_false_iff,Bool.or_eq_true,Bool.not_eq_true',Bool.not_eq_false',decide_eq_true_eq,decide_eq_false_iff_not] at hg1; omega)) (by omega)) (ak (wgE Z Z Z hg1) Z Z (ah tu5 Z Z ec8) (ak (wgE Z Z Z hg1) Z Z (bg Z Z) (kk1 _ _ (kx Z (kx Z (kx Z (kx Z (kx Z (kx Z (kx Z (kx Z k0)))))))) Z Ext.refl))))))))) (fun w9 e6=>?_)));have H12:=eP5.to e6;refine sV Z (aY Z Z) (aa (bz Z (fun c6=>?_) (fun c6=>?_)))
      ·obtain ⟨eb9,eo9,ea6,ek6,ef6,ee9,ec9,eO6,eH6,em6⟩:=cA (H12.mine 0 Z) (H12.rowsAt 0 Z) (by first | omega | (simp only [List.length_set]; omega)) i (by first | omega | (simp only [List.length_set]; omega));have eP6:=H12.lookR 0 Z eO6 eH6;obtain ⟨eb10,eo10,ea7,ek7,ef7,ee10,ec10,eO7,eH7,em7⟩:=cA (eP6.mine 0 Z) (eP6.rowsAt 0 Z) (by first | omega | (simp only [List.length_set]; omega)) r (by first | omega | (simp only [List.length_set]; omega));have eP7:=eP6.lookR 0 Z eO7 eH7;obtain ⟨eb11,eo11,ee11,ec11⟩:=bI (eP7.seen 2 Z) c (by omega);refine bv (S:=Ext No _) (oQ [1,3,5,7,9,11,13,15,17,19,21,23,25,27,29,31,33,34,37,38]) (by kernel_rfl) (by kernel_rfl) (by kernel_rfl) Z (fun _=>Ext.refl.drawn _) (fun q4=>?_);have H13:=eP7.drawn q4;refine dR 4 Z (dV Z Z (fun zw hx=>ao bD aW Z Z ee9 i (by omega) (by omega)) (dV Z Z (fun zw hx=>ah aH Z Z (hx.cell ec9)) (dR 2 Z (dV Z Z (fun zw hx=>ao bD aW Z Z ee10 r (by omega) (by omega)) (dV Z Z (fun zw hx=>ah aH Z Z (hx.cell ec10)) (dR 2 Z (dV Z Z (fun zw hx=>ao bD aW Z Z ee9 i (by omega) (by omega)) (dV Z Z (fun zw hx=>ah aH Z Z (hx.cell ec9)) (dM Z Z Z (dV Z Z (fun zw hx=>ao aH ts5 Z Z ee11 c (by omega) (by omega)) (dV Z Z (fun zw hx=>ah tu5 Z Z (hx.cell ec11)) (dC func197 xA Z (sh (H13.sees 2 Z) (H13.sees 3 Z) (by first | assumption | omega)) (fun v3 w10 r3=>?_)))))))))))));obtain ⟨e7,r3⟩:=r3;obtain ⟨fp5,H14⟩:=H13.res e7 r3;obtain ⟨a2,k2,q5⟩:=aB (H14.mine 1 Z);cases q5;refine dV Z Z (fun zw hx=>ao bD aW Z Z ee9 i (by omega) (by omega)) ?_;have H16:=H14.share 1 Z
       try dsimp only[lNA,lCA,lSZ,lSS] at H16
       refine kV Z (wn Z) aW H16 0 0 4 Z Z Z (by first | omega | (simp only [List.length_set]; omega)) i (by first | omega | (simp only [List.length_set]; omega)) Z ee9 Z (fun _ _ _ _ _ _ _ _ hr=>absurd Z hr) (fun w11 fp6 gp4 H15=>?_)
       try dsimp only[lNA,lCA,lSZ,lSS] at H15
       refine aP (aj (sV Z (aw Z Z iO) (sM Z Z (aa ?_))));have hz:=((H15.ftake 1).dtake 1);rw [qE (by rw [nR.1]; omega) (Da (N:=[[]]) (c:=c) c6) (by rw [pn (by rw [nR.1]; omega),vL (by rw [nR.1]; omega)]; rfl)] at hz;refine ⟨(i+1,_,_,_),⟨Z,Z,Z,Z,Z,Z,Z,trivial⟩,⟨hz,by omega,by simp only [List.length_set]; omega⟩,by dsimp only; omega⟩
      ·refine ag (aj (sV Z (aw Z Z iO) (sM Z Z (aa ?_))));have hz:=(H12.ftake 1);rw [AV nR (by omega) (by omega) c6] at hz;refine ⟨(i+1,_,_,_),⟨Z,Z,Z,Z,Z,Z,Z,trivial⟩,⟨hz,by omega,vl2⟩,by dsimp only; omega⟩
     ·refine aD (aj (sM Z Z (sV Z (aw Z Z iO) (sA Z Z (aa (aj (sM Z Z (sV Z (aw Z Z iO) (sA Z Z (aa ?_))))))))));have hz:=H11;rw [show i=K by omega] at hz;refine ⟨(c+1,cb (jB M c r j) c r K,r+1,_,_,_),⟨Z,Z,Z,Z,trivial⟩,⟨hz,by omega,(tu hred hpv (by omega)).trans (by rw [xl]),(hR.norm (by omega) (by omega)).elim (by omega),by omega,vl2⟩,by dsimp only; omega⟩
   ·refine ag (aj (sM Z Z (sV Z (aw Z Z iO) (sA Z Z (aa (⟨j+1,⟨Z,Z,Z,Z,Z,Z,trivial⟩,⟨(eP1.ftake 1),by omega,by omega,fun i h1 h2=>?_⟩,by dsimp only; omega⟩))))))
    by_cases e:i=j
    ·subst e; show (M.getD i []).getD c 0=0; exact jc (by omega)
    ·exact hnz i h1 (by omega)
  ·refine aD (ac (ac ?_));have hpv:jv M c r=M.length:=nq (by omega) (Nat.le_refl _) (fun i h1 h2=>hnz i h1 (by omega)) (.inl Z);refine aj (sR 2 Z (aa (au Z (fun c7=>?_) (fun c7=>?_))))
   ·refine aD (aj (sM Z Z (sV Z (aw Z Z iO) (sA Z Z (aa (⟨(c+1,M,r,_,_,_),⟨Z,Z,Z,Z,trivial⟩,⟨H2,by omega,tA hred (Nat.le_of_eq hpv.symm),hR,hrK,vl⟩,by dsimp only; omega⟩))))))
   ·exact absurd (by omega) c7
 ·refine aD (ab (sR 2 Z (rN hQ results443 Z ?_)));have hz:=H1.rowsOut vl;have e9:redM m n=(M,r):=by
   obtain rfl:c=n:=by omega
   exact hred
  rw [e9];exact ⟨Z,hz⟩
theorem oE {w:World}{K l n:Nat}{m:Mat}{vs0:List View}{VA:Option Addr}{VC:Nat}{fp g0:List Nat}(o:own true w [.slice VA K VC] vs0 fp) (nd:fp.Nodup) (hr0:bG false w (vs0.map View.val) m g0) (hd:∀ b∈g0,b ∉ fp) (vl0:vs0.length=K) (hR0:Rect m K l) (hn:n<l∧l≤1000∧1≤K∧K≤1000):Ret Tryz.prog 453 #[.slice VA K VC,.int .i64 n] w fun v w'=>(v = .int .i64 ((redM m n).2:Nat)∧RowsMut w w' fp (.slice VA K VC) K (redM m n).1):=by
 refine aA (vs:=[.slice VA K VC,.int .i64 n]) func453 Z ntmps453 Z (fun Q hQ hN=>?_);have H0:=Sep.beginRows o nd hr0 hd;refine ab (sA Z Z (aa (ab (sA Z Z (aa (ac (ab (sA Z Z (aa (ai (aM (γ:=Nat × Mat × Nat × List View × List Nat × List Nat) (fun (c,M,r,vs,f,g)=>[(0,.slice VA K VC),(1,.int .i64 n),(5,.int .i64 r),(6,.int .i64 c)]) (fun (c,M,r,vs,f,g) w'=>Sep (· ∈ fp) w [mine [.slice VA K VC] vs f] [rows vs M g] w'∧c≤n∧redM m c=(M,r)∧Rect M K l∧r≤K∧vs.length=K) (fun (c,M,r,vs,f,g)=>n-c) (0,m,0,_,_,_) ⟨Z,Z,Z,Z,trivial⟩ ⟨H0,by omega,Z,hR0,by omega,vl0⟩ (fun (c,M,r,vs,f,g) w1 H1=>?_))))))))))));obtain ⟨H1,hc,hred,hR,hrK,vl⟩:=H1;refine ac (ab (sR 4 Z (bp 4 (j:=3) (want:=true) (t:=17) Z Z Z Z (fun hg1 kk1=>ak (wgE Z Z Z hg1) Z Z (aG Z) (ak (wgE Z Z Z hg1) Z Z (aG Z) (ak (wgE Z Z Z hg1) Z Z (ax bD Z) (ak (wgE Z Z Z hg1) Z Z (aI Z Z) (kk1 _ _ (kx Z (kx Z (kx Z (kx Z k0)))) Z Ext.refl))))) (fun w2 e1=>?_))));have H2:=H1.to e1;refine sV Z (aY Z Z) (aa (bz Z (fun c1=>?_) (fun c1=>?_)))
 ·refine ag (ac (ai (ac ?_)));simp only [Bool.and_eq_true,decide_eq_true_eq] at c1;have xl:=hR.1;refine aj (sR 2 Z (aa (ac (ai (aM (γ:=Nat) (fun j=>[(0,.slice VA K VC),(1,.int .i64 n),(5,.int .i64 r),(6,.int .i64 c),(7,.int .i64 j)]) (fun j w'=>Sep (· ∈ fp) w _ _ w'∧r≤j∧j≤K∧∀ i,r≤i→i<j→entry M i c=0) (fun j=>K-j) r ⟨Z,Z,Z,Z,Z,trivial⟩ ⟨H2,by omega,by omega,fun i h1 h2=>by omega⟩ (fun j w3 H3=>?_))))));obtain ⟨H3,hj1,hj2,hnz⟩:=H3;refine ac (ac ?_);obtain ⟨jj,hjj,hjk⟩:∃ jj,jj<K∧(j<K→jj=j):=⟨if j<K then j else 0,by split<;>omega,fun h=>if_pos h⟩;have e1:=hR.2 jj hjj;obtain ⟨eb1,eo1,ea1,ek1,ef1,ee1,ec1,eO1,eH1,em1⟩:=cA (H3.mine 0 Z) (H3.rowsAt 0 Z) (by first | omega | (simp only [List.length_set]; omega)) jj (by first | omega | (simp only [List.length_set]; omega));have eP1:=H3.lookR 0 Z eO1 eH1;obtain ⟨eb2,eo2,ee2,ec2⟩:=bI (eP1.seen 1 Z) c (by omega);refine aj (sR 2 Z (sV Z (ax bD Z) (sR 2 Z (bp 8 (j:=4) (want:=true) (t:=34) Z Z Z Z (fun hg2 kk2=>ak (wgE Z Z Z hg2) Z Z (aG Z) (ak (wgE Z Z Z hg2) Z Z (aG Z) (ak (wgE Z Z Z hg2) Z Z (ao bD aW Z Z ee1 jj (by first | omega | (simp only [Bool.or_eq_false_iff,Bool.and_eq_true,Bool.and_eq_false_iff,Bool.or_eq_true,Bool.not_eq_true',Bool.not_eq_false',decide_eq_true_eq,decide_eq_false_iff_not] at hg2; omega)) (by omega)) (ak (wgE Z Z Z hg2) Z Z (ah aH Z Z ec1) (ak (wgE Z Z Z hg2) Z Z (aG Z) (ak (wgE Z Z Z hg2) Z Z (ao aH ts5 Z Z ee2 c (by first | omega | (simp only [Bool.or_eq_false_iff,Bool.and_eq_true,Bool.and_eq_false_iff,Bool.or_eq_true,Bool.not_eq_true',Bool.not_eq_false',decide_eq_true_eq,decide_eq_false_iff_not] at hg2; omega)) (by omega)) (ak (wgE Z Z Z hg2) Z Z (ah tu5 Z Z ec2) (ak (wgE Z Z Z hg2) Z Z (bJ Z Z) (kk2 _ _ (kx Z (kx Z (kx Z (kx Z (kx Z (kx Z (kx Z (kx Z k0)))))))) Z Ext.refl))))))))) (fun w4 e2=>?_)))));have H4:=eP1.to e2;refine sV Z (aY Z Z) (aa (bz Z (fun c2=>?_) (fun c2=>?_)))
  ·refine ag (ai (aj (sM Z Z (sV Z (aw Z Z iO) (sA Z Z (aa ?_))))));simp only [Bool.and_eq_true,decide_eq_true_eq] at c2;have ez:entry M j c=0:=by
    rw [← hjk (by omega)]
    show (M.getD jj []).getD c 0=0
    exact jc (by omega)
   refine ⟨j+1,⟨Z,Z,Z,Z,Z,trivial⟩,⟨H4.ftake 1,by omega,by omega,fun i h1 h2=>?_⟩,by dsimp only; omega⟩
   by_cases e:i=j
   ·subst e; exact ez
   ·exact hnz i h1 (by omega)
  ·refine aD (ac (ab (sR 2 Z (sV Z (ax bD Z) (sV Z (bJ Z Z) (aa (au Z (fun c3=>?_) (fun c3=>?_))))))))
   ·refine aD (aj (sM Z Z (sV Z (aw Z Z iO) (sA Z Z (aa ?_)))));have hpv:jv M c r=M.length:=nq (by omega) (Nat.le_refl _) (fun i h1 h2=>hnz i h1 (by omega)) (.inl Z);refine ⟨(c+1,M,r,_,_,_),⟨Z,Z,Z,Z,trivial⟩,⟨(H4.ftake 1),by omega,tA hred (Nat.le_of_eq hpv.symm),hR,hrK,vl⟩,by dsimp only; omega⟩
   ·refine ag (ac ?_)
    have hpv:jv M c r=j:=nq (by omega) (by omega) hnz (.inr (fun e=>by
     have ej:=hjk (by omega);rw [entry,← ej] at e;simp only [Bool.and_eq_false_iff,decide_eq_false_iff_not] at c2
     rcases c2 with h | h
     ·omega
     ·exact h (by rw [e]; rfl)))
    have e5:=hR.2 j (by omega);obtain ⟨eb3,eo3,ea2,ek2,ef2,ee3,ec3,eO2,eH2,em2⟩:=cA (H4.mine 0 Z) (H4.rowsAt 0 Z) (by first | omega | (simp only [List.length_set]; omega)) j (by first | omega | (simp only [List.length_set]; omega));have eP2:=H4.lookR 0 Z eO2 eH2;refine aj (sR 2 Z (sV Z (ao bD aW Z Z ee3 j (by omega) (by omega)) (sV Z (ah aH Z Z ec3) (sA Z Z (aa (ac ?_))))));obtain ⟨eb4,eo4,ea3,ek3,ef3,ee4,ec4,eO3,eH3,em3⟩:=cA (eP2.mine 0 Z) (eP2.rowsAt 0 Z) (by first | omega | (simp only [List.length_set]; omega)) r (by first | omega | (simp only [List.length_set]; omega));have eP3:=eP2.lookR 0 Z eO3 eH3;obtain ⟨eb5,eo5,ea4,ek4,ef4,ee5,ec5,eO4,eH4,em4⟩:=cA (eP3.mine 0 Z) (eP3.rowsAt 0 Z) (by first | omega | (simp only [List.length_set]; omega)) j (by first | omega | (simp only [List.length_set]; omega));have eP4:=eP3.lookR 0 Z eO4 eH4;refine aj (sR 4 Z (sV Z (ao bD aW Z Z ee4 r (by omega) (by omega)) (sV Z (ah aH Z Z ec4) (sV Z (ao bD aW Z Z ee5 j (by omega) (by omega)) (vd (wn Z) aW eP4 0 0 3 Z Z Z (by first | omega | (simp only [List.length_set]; omega)) j (by first | omega | (simp only [List.length_set]; omega)) Z ee5 Z (fun w5 fp1 gp1 H5=>?_))))))
    try dsimp only[lNA,lCA,lSZ,lSS] at H5
    refine aa (ac ?_);obtain ⟨eb6,eo6,ee6,ec6⟩:=bI (H5.seen 2 Z) c (by omega);obtain ⟨eb7,eo7,ea5,ek5,ef5,ee7,ec7,eO5,eH5,em5⟩:=cA (H5.mine 0 Z) (H5.rowsAt 0 Z) (by first | omega | (simp only [List.length_set]; omega)) r (by first | omega | (simp only [List.length_set]; omega));have eP5:=H5.lookR 0 Z eO5 eH5;refine aj (sR 5 Z (sV Z (ao aH ts5 Z Z ee6 c (by omega) (by omega)) (sV Z (ah tu5 Z Z ec6) (sE func351 qQ Z kJ eP5 (fun w6 e4 H6=>sC func252 m0 Z (fL (H6.sees 2 Z) (by omega)) (fun v2 w7 r2=>?_))))));obtain ⟨e5,r2⟩:=r2;obtain ⟨fp2,H7⟩:=H6.res e5 r2;obtain ⟨a1,k1,q1⟩:=aB (H7.mine 1 Z);cases q1;refine sV Z (ao bD aW Z Z ee7 r (by omega) (by omega)) ?_;have H9:=H7.share 1 Z
    try dsimp only[lNA,lCA,lSZ,lSS] at H9
    refine vd (wn Z) aW H9 0 0 6 Z Z Z (by first | omega | (simp only [List.length_set]; omega)) r (by first | omega | (simp only [List.length_set]; omega)) Z ee7 Z (fun w8 fp3 gp2 H8=>?_)
    try dsimp only[lNA,lCA,lSZ,lSS] at H8
    refine aa (ac (ac ?_));have HN:=H8;rw [show (M.set j (M.getD r [])).set r (cq (M.getD j []) (kS ((M.getD j []).getD c 0)))=jB M c r j from rfl] at HN;refine aj (sA Z Z (aa (ai (aM (γ:=Nat × List View × List Nat × List Nat) (fun (i,vs2,f2,g2)=>[(0,.slice VA K VC),(1,.int .i64 n),(5,.int .i64 r),(6,.int .i64 c),(9,.int .i64 i)]) (fun (i,vs2,f2,g2) w'=>Sep (· ∈ fp) w [mine [.slice VA K VC] vs2 f2] [rows vs2 (cb (jB M c r j) c r i) g2] w'∧i≤K∧vs2.length=K) (fun (i,vs2,f2,g2)=>K-i) (0,_,_,_) ⟨Z,Z,Z,Z,Z,trivial⟩ ⟨by rw [pt]; exact ((HN.ftake 1).dtake 1),by omega,by simp only [List.length_set]; omega⟩ (fun (i,vs2,f2,g2) w9 H10=>?_)))));obtain ⟨H10,hi,vl2⟩:=H10;refine ac (ab (sR 2 Z (sV Z (ax bD Z) (sV Z (aI Z Z) (aa (au Z (fun c4=>?_) (fun c4=>?_)))))))
    ·refine ag (ac (ai (ab (sR 3 Z (aa (au Z (fun c5=>?_) (fun c5=>?_)))))))
     ·have nR:=hR.norm (c:=c) (r:=r) (a:=j) (by omega) (by omega);have eR:=nR.elim (c:=c) (r:=r) (k:=i) (by omega);have xl2:=eR.1;have e3:=eR.2 i (by omega);have e4:=eR.2 r (by omega);have sl:=eL ((cb (jB M c r j) c r i).getD r []) (((cb (jB M c r j) c r i).getD i []).getD c 0);obtain ⟨eb8,eo8,ea6,ek6,ef6,ee8,ec8,eO6,eH6,em6⟩:=cA (H10.mine 0 Z) (H10.rowsAt 0 Z) (by first | omega | (simp only [List.length_set]; omega)) i (by first | omega | (simp only [List.length_set]; omega));have eP6:=H10.lookR 0 Z eO6 eH6;obtain ⟨eb9,eo9,ea7,ek7,ef7,ee9,ec9,eO7,eH7,em7⟩:=cA (eP6.mine 0 Z) (eP6.rowsAt 0 Z) (by first | omega | (simp only [List.length_set]; omega)) r (by first | omega | (simp only [List.length_set]; omega));have eP7:=eP6.lookR 0 Z eO7 eH7;obtain ⟨eb10,eo10,ee10,ec10⟩:=bI (eP7.seen 1 Z) c (by omega);refine bv (S:=Ext No _) (oQ [1,3,5,7,9,11,13,15,17,19,21,23,25,27,29,31,33,34,36,39,40]) (by kernel_rfl) (by kernel_rfl) (by kernel_rfl) Z (fun _=>Ext.refl.drawn _) (fun q2=>?_);have H11:=eP7.drawn q2;refine dR 4 Z (dV Z Z (fun zw hx=>ao bD aW Z Z ee8 i (by omega) (by omega)) (dV Z Z (fun zw hx=>ah aH Z Z (hx.cell ec8)) (dR 2 Z (dV Z Z (fun zw hx=>ao bD aW Z Z ee9 r (by omega) (by omega)) (dV Z Z (fun zw hx=>ah aH Z Z (hx.cell ec9)) (dR 2 Z (dV Z Z (fun zw hx=>ao bD aW Z Z ee8 i (by omega) (by omega)) (dV Z Z (fun zw hx=>ah aH Z Z (hx.cell ec8)) (dM Z Z Z (dV Z Z (fun zw hx=>ao aH ts5 Z Z ee10 c (by omega) (by omega)) (dV Z Z (fun zw hx=>ah tu5 Z Z (hx.cell ec10)) (dC func252 m0 Z (fL (H11.sees 2 Z) (by omega)) (fun v3 w10 r3=>?_)))))))))))));obtain ⟨e7,r3⟩:=r3;obtain ⟨fp4,H12⟩:=H11.res e7 r3;obtain ⟨a2,k2,q3⟩:=aB (H12.mine 1 Z);cases q3;refine dC func253 rP Z (kI (H12.sees 1 Z) (H12.msees 1 Z) (by omega)) (fun v4 w11 r4=>?_);obtain ⟨e8,r4⟩:=r4;obtain ⟨fp5,H13⟩:=H12.res e8 r4;obtain ⟨a3,k3,q4⟩:=aB (H13.mine 2 Z);cases q4;refine dV Z Z (fun zw hx=>ao bD aW Z Z ee8 i (by omega) (by omega)) ?_;have H15:=H13.share 2 Z
      try dsimp only[lNA,lCA,lSZ,lSS] at H15
      refine kV Z (wn Z) aW H15 0 0 3 Z Z Z (by first | omega | (simp only [List.length_set]; omega)) i (by first | omega | (simp only [List.length_set]; omega)) Z ee8 Z (fun _ _ _ _ _ _ _ _ hr=>absurd Z hr) (fun w12 fp6 gp3 H14=>?_)
      try dsimp only[lNA,lCA,lSZ,lSS] at H14
      refine aP (aj (sM Z Z (sV Z (aw Z Z iO) (sA Z Z (aa ?_)))));have nR:=hR.norm (c:=c) (r:=r) (a:=j) (by omega) (by omega);have hz:=((H14.ftake 1).dtake 1);rw [qE (by rw [nR.1]; omega) (by omega) (by rw [pn (by rw [nR.1]; omega),vL (by rw [nR.1]; omega)]; rfl)] at hz;refine ⟨(i+1,_,_,_),⟨Z,Z,Z,Z,Z,trivial⟩,⟨hz,by omega,by simp only [List.length_set]; omega⟩,by dsimp only; omega⟩
     ·refine ag (aj (sM Z Z (sV Z (aw Z Z iO) (sA Z Z (aa ?_)))));have nR:=hR.norm (c:=c) (r:=r) (a:=j) (by omega) (by omega);have hz:=H10;rw [pO (.inl (by omega))] at hz;refine ⟨(i+1,_,_,_),⟨Z,Z,Z,Z,Z,trivial⟩,⟨hz,by omega,vl2⟩,by dsimp only; omega⟩
    ·refine aD (aj (sM Z Z (sV Z (aw Z Z iO) (sA Z Z (aa (aj (sM Z Z (sV Z (aw Z Z iO) (sA Z Z (aa ?_))))))))));have hz:=H10;rw [show i=K by omega] at hz;refine ⟨(c+1,cb (jB M c r j) c r K,r+1,_,_,_),⟨Z,Z,Z,Z,trivial⟩,⟨hz,by omega,(tu hred hpv (by omega)).trans (by rw [xl]),(hR.norm (by omega) (by omega)).elim (by omega),by omega,vl2⟩,by dsimp only; omega⟩
 ·refine aD (ab (sR 2 Z (rN hQ results453 Z ?_)));have hz:=H2.rowsOut vl;have e9:redM m n=(M,r):=by
   simp only [Bool.and_eq_false_iff,decide_eq_false_iff_not] at c1
   by_cases hq:c=n
   ·rw [← hq]; exact hred
   ·rw [Cu (c:=c) (by rw [hred]; show r=M.length; rw [hR.1]; omega) n hc]; exact hred
  rw [e9];exact ⟨Z,hz⟩
theorem pT {w:World}{m:List (List UInt8)}{mA bA:Option Addr}{mN mC bN bC:Nat}{b:List UInt8}(mS:Sees w [.slice mA mN mC] m) (bS:Sees w [.slice bA bN bC] b) (hR:Rect m m.length m.length) (hb:b.length=m.length) (hml:1≤m.length∧m.length≤100):Ret Tryz.prog 407 #[.slice mA mN mC,.slice bA bN bC] w fun v w'=>Ext No w w'∧(∃ A C,v = .tuple #[.slice A (qw m b).length C,.bool (of m b)]∧Res w w' [.slice A (qw m b).length C] (qw m b)):=by
 obtain ⟨mF,mO⟩:=mS;obtain rfl:=eS mO;have mL:=sL ⟨_,mO⟩;obtain ⟨bF,bO⟩:=bS;obtain rfl:=eS bO;have bL:=sL ⟨_,bO⟩;refine aA (vs:=[.slice mA m.length mC,.slice bA b.length bC]) func407 Z ntmps407 Z (fun Q hQ hN=>?_);have H0:=Sep.start (w:=w) (F:=[seen false [.slice mA m.length mC] m mF,seen false [.slice bA b.length bC] b bF]) (ae mO (ae bO (by simp)));refine ab (sR 2 Z (aa (ab (sM Z Z (sV Z (ax bD Z) (fq (wn Z) Z bD bt (ur (α:=UInt8)) Z (by omega) (by unfold maxLen; omega) H0 (fun b1 w1 e1 g1 H1=>sA Z Z (aa (ac (ab (sM Z Z (sV Z (ax bD Z) (sM Z Z (aa (ai (aM (γ:=Nat × List Nat) (fun (k,f)=>[(0,.slice mA m.length mC),(1,.slice bA b.length bC),(6,.slice (some ⟨b1,0,none⟩) m.length m.length),(15,.slice mA m.length mC),(16,.int .i64 m.length),(17,.int .i64 k)]) (fun (k,f) w'=>Sep No w [mine [.slice (some ⟨b1,0,none⟩) m.length m.length] (augIn m b k) f] [seen false [.slice mA m.length mC] m mF,seen false [.slice bA b.length bC] b bF] w'∧k≤m.length) (fun (k,f)=>m.length-k) (0,_) ⟨Z,Z,Z,Z,Z,Z,trivial⟩ ⟨by rw [yI]; exact H1,by omega⟩ (fun (k,f) w2 H2=>?_)))))))))))))))));obtain ⟨H2,hk⟩:=H2;refine ab (sV Z (aI Z Z) (aa (ac (au Z (fun c1=>?_) (fun c1=>?_)))))
 ·refine ag (ac (ai (ac ?_)));obtain ⟨eb1,eo1,ea1,ek1,ef1,ee1,ec1,eO1,eH1⟩:=cE (H2.seen 0 Z) k (by omega);have eP1:=H2.look1 0 Z eO1 eH1;refine aj (sM Z Z (sV Z (ao bD aW Z Z ee1 k (by omega) (by omega)) (sV Z (ah aH Z Z ec1) (sR 2 Z (aa ?_)))));have e3:=hR.2 k (by omega);obtain ⟨eb2,eo2,ee2,ec2⟩:=bI (eP1.seen 1 Z) k (by omega);obtain ⟨eb3,eo3,ee3⟩:=dJ (eP1.mine 0 Z) k (by rw [o5 (by omega)]; omega);refine bv (S:=Ext No _) [(0,true),(1,true),(2,true),(4,true),(5,true),(6,true),(7,true),(1005,false),(3,false),(8,false),(9,false),(10,true),(11,false),(8,false),(3,false),(9,false),(10,true),(11,false)] (by kernel_rfl) (by kernel_rfl) (by kernel_rfl) Z (fun _=>Ext.refl.drawn _) (fun q1=>?_);have H3:=eP1.drawn q1;refine dR 5 Z (dV Z Z (fun zw hx=>ao aH ts5 Z Z ee2 k (by omega) (by omega)) (dV Z Z (fun zw hx=>ah tu5 Z Z (hx.cell ec2)) (dF Z ?_ ?_)))
  ·refine d_S (fun hs1=>?_) (by simp);refine dC func109 ke Z (cW (H3.sees 2 Z) (by omega)) (fun v1 w3 r1=>?_);obtain ⟨e2,r1⟩:=r1;obtain ⟨fp1,H4,fr1⟩:=H3.resN e2 r1;obtain ⟨a1,k1,q2⟩:=aB (H4.mine 1 Z);cases q2;refine eW Z (wn Z) Z aH aR Z Z Z Z H4 (fun _ h e=>h.trans e.no) (fun b2 w4 e3 g2 H5=>d_S (fun hs2=>?_) (by simp));refine fQ Z (wn Z) Z aH aR Z Z Z H5 1 2 Z Z dS (by (try simp only [List.length_nil]); unfold maxLen; omega) (by (try simp only [List.length_nil]); omega) (fun b hb=>Nat.le_trans hs1.size (fr1 b hb)) (fun v2 w5 fp2 sb1 H6=>?_)
   try dsimp only[lNA,lCA,lSZ,lSS] at H6
   refine dV Z Z (fun zw hx=>ao bD aW Z Z ee3 k (by omega) (by omega)) (zG Z (wn Z) aW Z H6 0 1 Z Z Z k (by rw [o5 (by omega)]; omega) Z ee3 Z (fun w6 fp3 H7=>aP (aj (sV Z (aw Z Z iO) (sM Z Z (aa ?_))))));have hz:=((H7.ftake 2).dtake 1);rw [tk (by omega)] at hz;refine ⟨(k+1,_),⟨Z,Z,Z,Z,Z,Z,trivial⟩,⟨hz,by omega⟩,by dsimp only; omega⟩
  ·refine eW Z (wn Z) Z aH aR Z Z Z Z H3 (fun _ h e=>h.trans e.no) (fun b3 w7 e5 g3 H8=>d_S (fun hs3=>?_) (by simp));refine dC func109 ke Z (cW (H8.sees 2 Z) (by omega)) (fun v3 w8 r2=>?_);obtain ⟨e6,r2⟩:=r2;obtain ⟨fp4,H9,fr2⟩:=H8.resN e6 r2;obtain ⟨a2,k2,q3⟩:=aB (H9.mine 2 Z);cases q3;refine d_S (fun hs4=>?_) (by simp);refine fQ Z (wn Z) Z aH aR Z Z Z H9 2 1 Z Z dS (by (try simp only [List.length_nil]); unfold maxLen; omega) (by (try simp only [List.length_nil]); omega) (fun b hb=>Nat.le_trans hs3.size (fr2 b hb)) (fun v4 w9 fp5 sb2 H10=>?_)
   try dsimp only[lNA,lCA,lSZ,lSS] at H10
   refine dV Z Z (fun zw hx=>ao bD aW Z Z ee3 k (by omega) (by omega)) (zG Z (wn Z) aW Z H10 0 2 Z Z Z k (by rw [o5 (by omega)]; omega) Z ee3 Z (fun w10 fp6 H11=>aP (aj (sV Z (aw Z Z iO) (sM Z Z (aa ?_))))));have hz:=((H11.ftake 2).dtake 1);rw [tk (by omega)] at hz;refine ⟨(k+1,_),⟨Z,Z,Z,Z,Z,Z,trivial⟩,⟨hz,by omega⟩,by dsimp only; omega⟩
 ·refine aD (ac (ac ?_));obtain rfl:k=m.length:=by omega
  obtain ⟨vs,f2,g2,vl,HP⟩:=H2.parted 0 Z
  try dsimp only[lNA,lCA,lSZ,lSS] at HP
  rw [sv] at HP;rw [sv] at vl;have hRa:=vO (b:=b) hR;have hRM:=(hRa.red m.length).1;have hM1:=hRM.1;have vl1:vs.length=m.length:=vl.trans hRa.1;refine aj (sR 2 Z (sV Z (ax bD Z) (sC func443 zd Z (oD (HP.mine 0 Z) (HP.nodup1 (i:=0) Z) (HP.rowsAt 2 Z) (fun b hb=>HP.off 2 Z 0 Z hb) (by first | assumption | omega) (by assumption) (by omega)) (fun v5 w11 r3=>?_))));obtain ⟨rfl,rm1⟩:=r3;obtain ⟨rv1,rf1,rg1,rl1,H12⟩:=HP.rowsMut 0 Z (by simp [blocks,mine,gone]) rm1
  try dsimp only[lNA,lCA,lSZ,lSS] at H12
  refine sM Z Z (sV Z (ax bD Z) (sV Z (aI Z Z) (aa (au Z (fun c2=>?_) (fun c2=>?_)))))
  ·refine ab (sR 2 Z (aa (cj (hQ _ _ (jx results407 Z Z ?_)))));obtain ⟨e1,e2⟩:=Bx (m:=m) (b:=b) (by omega);exact ⟨H12.ext,none,0,(by rw [e1,e2]; rfl),(by rw [e2]; exact ⟨[],.inr (.inl ⟨Z,Z,Z⟩),.nil,by simp⟩)⟩
  ·refine ag (ab (cZ (α:=UInt8) (wn Z) Z aH aR H12 (fun b4 w12 e9 g4 H13=>sA Z Z (aa (ac (ab (sM Z Z (sV Z (ax bD Z) (sM Z Z (aa (ai (aM (γ:=Nat × Value × List Nat) (fun (k,vo,f)=>[(0,.slice mA m.length mC),(9,vo),(42,.slice (some ⟨b1,0,none⟩) m.length m.length),(43,.int .i64 m.length),(44,.int .i64 k)]) (fun (k,vo,f) w'=>Sep No w [mine [.slice (some ⟨b1,0,none⟩) m.length m.length] rv1 rf1,mine [vo] (md (redM (aug m b) m.length).1 m.length k) f] _ w'∧k≤m.length) (fun (k,vo,f)=>m.length-k) (0,_,_) ⟨Z,Z,Z,Z,Z,trivial⟩ ⟨H13.sub (.cons_cons _ (.cons_cons _ List.Sublist.slnil)),by omega⟩ (fun (k,vo,f) w13 H14=>?_)))))))))))));obtain ⟨H14,hk⟩:=H14;refine ab (sV Z (aI Z Z) (aa (ac (au Z (fun c3=>?_) (fun c3=>?_)))))
   ·refine ag (ac (ai (ac ?_)));obtain ⟨eb4,eo4,ea2,ek2,ef2,ee4,ec4,eO2,eH2,em1⟩:=cA (H14.mine 0 Z) (H14.rowsAt 3 Z) (by first | omega | (simp only [List.length_set]; omega)) k (by first | omega | (simp only [List.length_set]; omega));have eP2:=H14.lookR 3 Z eO2 eH2;refine aj (sV Z (ao bD aW Z Z ee4 k (by omega) (by omega)) (sV Z (ah aH Z Z ec4) (sA Z Z (aa ?_))));have e5:=hRM.2 k (by omega);have ctl:=sJ (m:=(redM (aug m b) m.length).1) (c:=m.length) (k:=k);obtain ⟨eb5,eo5,ee5,ec5⟩:=bI (eP2.seen 4 Z) m.length (by omega);refine aj (sR 3 Z (sV Z (ax bD Z) (sV Z (ao aH ts5 Z Z ee5 m.length (by omega) (by omega)) (sV Z (ah tu5 Z Z ec5) (eC (wn Z) Z aH aR Z Z Z Z eP2 (fun b5 w14 e10 g5 H15=>fj (wn Z) Z aH aR Z Z Z H15 1 2 Z Z dS (by unfold maxLen; omega) (by omega) (fun v6 w15 fp7 H16=>sA Z Z (aa (aj (sV Z (aw Z Z iO) (sM Z Z (aa ?_))))))))))));have hz:=H16.ftake 4 |>.sub (.cons_cons _ (.cons_cons _ (.cons _ List.Sublist.slnil)))
    rw [qx] at hz;refine ⟨(k+1,_,_),⟨Z,Z,Z,Z,Z,trivial⟩,⟨hz,by omega⟩,by dsimp only; omega⟩
   ·refine aD (ab (sR 3 Z (aa (cj (hQ _ _ (jx results407 Z Z ?_))))));obtain rfl:k=m.length:=by omega
    obtain ⟨e1,e2⟩:=uk (m:=m) (b:=b) (by omega);obtain ⟨qa,qc,qq⟩:=aB (H14.mine 1 Z);cases qq;exact ⟨H14.ext,qa,qc,(by rw [e1,e2]),(by rw [e2]; exact H14.out 1 Z)⟩
theorem nN {w:World}{m:List (List UInt8)}{mA bA:Option Addr}{mN mC bN bC:Nat}{b:List UInt8}(mS:Sees w [.slice mA mN mC] m) (bS:Sees w [.slice bA bN bC] b) (hR:Rect m m.length m.length) (hb:b.length=m.length) (hml:1≤m.length∧m.length≤100):Ret Tryz.prog 450 #[.slice mA mN mC,.slice bA bN bC] w fun v w'=>Ext No w w'∧(∃ A C,v = .tuple #[.slice A (qw m b).length C,.bool (of m b)]∧Res w w' [.slice A (qw m b).length C] (qw m b)):=by
 obtain ⟨mF,mO⟩:=mS;obtain rfl:=eS mO;have mL:=sL ⟨_,mO⟩;obtain ⟨bF,bO⟩:=bS;obtain rfl:=eS bO;have bL:=sL ⟨_,bO⟩;refine aA (vs:=[.slice mA m.length mC,.slice bA b.length bC]) func450 Z ntmps450 Z (fun Q hQ hN=>?_);have H0:=Sep.start (w:=w) (F:=[seen false [.slice mA m.length mC] m mF,seen false [.slice bA b.length bC] b bF]) (ae mO (ae bO (by simp)));refine ab (sR 2 Z (aa (ab (cZ (α:=(List UInt8)) (wn Z) Z bD bt H0 (fun b1 w1 e1 g1 H1=>sA Z Z (aa (ac (ab (sA Z Z (aa (ai (aM (γ:=Nat × Value × List Nat) (fun (k,vo,f)=>[(0,.slice mA m.length mC),(1,.slice bA b.length bC),(6,vo),(7,.int .i64 k)]) (fun (k,vo,f) w'=>Sep No w [mine [vo] (augTo m b k) f] [seen false [.slice mA m.length mC] m mF,seen false [.slice bA b.length bC] b bF] w'∧k≤m.length) (fun (k,vo,f)=>m.length-k) (0,_,_) ⟨Z,Z,Z,Z,trivial⟩ ⟨H1,by omega⟩ (fun (k,vo,f) w2 H2=>?_)))))))))))));obtain ⟨H2,hk⟩:=H2;refine ac (ab (sR 2 Z (sV Z (ax bD Z) (sV Z (aI Z Z) (aa (au Z (fun c1=>?_) (fun c1=>?_)))))))
 ·refine ag (ac (ai ?_));have e3:=hR.2 k (by omega);have al:=go (m:=m) (b:=b) (k:=k);obtain ⟨eb1,eo1,ea1,ek1,ef1,ee1,ec1,eO1,eH1,em1⟩:=BA (H2.seen 0 Z) k (by omega);have eP1:=H2.look1 0 Z eO1 eH1;obtain ⟨eb2,eo2,ee2,ec2,em2⟩:=nA (eP1.seen 1 Z) k (by omega);refine bv (S:=Ext (· ∈ f) _) [(0,true),(2,true),(3,true),(4,true),(5,true),(7,true),(8,true),(9,true),(10,true),(1014,false),(1,false),(1006,false),(6,false),(11,false),(12,false),(13,false),(14,false),(15,false),(11,false),(6,false),(12,false),(13,false),(14,false),(15,false),(11,false),(1,false),(6,false),(12,false),(13,false),(14,false),(15,false)] (by kernel_rfl) (by kernel_rfl) (by kernel_rfl) Z (fun _=>Ext.refl.drawn _) (fun q1=>?_);have H3:=eP1.drawn q1;refine dR 3 Z (dV Z Z (fun zw hx=>ao bD aW Z Z ee1 k (by omega) (by omega)) (dV Z Z (fun zw hx=>ah aH Z Z (hx.cellM (H3.off 0 Z 0 Z em1) ec1)) (dR 2 Z (dV Z Z (fun zw hx=>ao aH ts5 Z Z ee2 k (by omega) (by omega)) (dV Z Z (fun zw hx=>ah tu5 Z Z (hx.cellM (H3.off 1 Z 0 Z em2) ec2)) (dF Z ?_ ?_))))))
  ·refine d_S (fun hs1=>?_) (by simp);refine oZ (α:=UInt8) Z (wn Z) Z aH aR H3 (fun _ h e=>h.trans e.no) (fun b2 w3 e2 g2 H4=>dF Z ?_ ?_)
   ·refine d_S (fun hs2=>?_) (by simp);refine dT Z (wn Z) Z aH aR Z Z Z H4 1 Z (H4.seen 2 Z) (by (try simp only [List.length_nil]); unfold maxLen; omega) (by (try simp only [List.length_nil]); omega) (fun b hb=>by simp only [List.mem_singleton] at hb; rw [hb]; exact Nat.le_trans hs1.size g2) (fun v1 w4 fp1 sb1 H5=>?_)
    try dsimp only[lNA,lCA,lSZ,lSS] at H5
    refine eW Z (wn Z) Z aH aR Z Z Z Z H5 (fun _ h e=>h.trans e.no) (fun b3 w5 e3 g3 H6=>d_S (fun hs3=>?_) (by simp));refine fQ Z (wn Z) Z aH aR Z Z Z H6 1 2 Z Z dS (by (try simp only [List.length_nil]); unfold maxLen; omega) (by (try simp only [List.length_nil]); omega) (fun b hb=>(sb1 b hb).elim (((fun b hb=>by simp only [List.mem_singleton] at hb; rw [hb]; exact Nat.le_trans hs1.size g2):∀ b∈_,_≤b) b) (fun h=>Nat.le_trans hs2.size h)) (fun v2 w6 fp2 sb2 H7=>?_)
    try dsimp only[lNA,lCA,lSZ,lSS] at H7
    obtain ⟨a1,k1,q2⟩:=aB (H7.mine 1 Z);cases q2;refine eW Z (wn Z) Z bD bt Z Z Z Z H7 (fun _ h e=>h.trans e.no) (fun b4 w7 e4 g4 H8=>yA Z (wn Z) Z bD bt Z Z Z H8 0 3 1 Z Z Z Z (by unfold maxLen; omega) (by omega) (fun _ h e=>h.trans e) (fun v3 w8 fp3 H9=>aQ Z (wn Z) Z Z (aZ Z) (aP (aj (sM Z Z (sV Z (aw Z Z iO) (sA Z Z (aa ?_))))))));have hz:=((H9.ftake 2).dtake 1)
    try simp only [List.nil_append] at hz
    rw [ku] at hz;refine ⟨(k+1,_,_),⟨Z,Z,Z,Z,trivial⟩,⟨hz,by omega⟩,by dsimp only; omega⟩
   ·refine eW Z (wn Z) Z aH aR Z Z Z Z H4 (fun _ h e=>h.trans e.no) (fun b5 w9 e5 g5 H10=>d_S (fun hs4=>?_) (by simp));refine dT Z (wn Z) Z aH aR Z Z Z H10 1 Z (H10.seen 2 Z) (by (try simp only [List.length_nil]); unfold maxLen; omega) (by (try simp only [List.length_nil]); omega) (fun b hb=>by simp only [List.mem_singleton] at hb; rw [hb]; exact Nat.le_trans hs1.size g2) (fun v4 w10 fp4 sb3 H11=>?_)
    try dsimp only[lNA,lCA,lSZ,lSS] at H11
    refine d_S (fun hs5=>?_) (by simp);refine fQ Z (wn Z) Z aH aR Z Z Z H11 1 2 Z Z dS (by (try simp only [List.length_nil]); unfold maxLen; omega) (by (try simp only [List.length_nil]); omega) (fun b hb=>(sb3 b hb).elim (((fun b hb=>by simp only [List.mem_singleton] at hb; rw [hb]; exact Nat.le_trans hs1.size g2):∀ b∈_,_≤b) b) (fun h=>Nat.le_trans hs4.size h)) (fun v5 w11 fp5 sb4 H12=>?_)
    try dsimp only[lNA,lCA,lSZ,lSS] at H12
    obtain ⟨a2,k2,q3⟩:=aB (H12.mine 1 Z);cases q3;refine eW Z (wn Z) Z bD bt Z Z Z Z H12 (fun _ h e=>h.trans e.no) (fun b6 w12 e6 g6 H13=>yA Z (wn Z) Z bD bt Z Z Z H13 0 3 1 Z Z Z Z (by unfold maxLen; omega) (by omega) (fun _ h e=>h.trans e) (fun v6 w13 fp6 H14=>aQ Z (wn Z) Z Z (aZ Z) (aP (aj (sM Z Z (sV Z (aw Z Z iO) (sA Z Z (aa ?_))))))));have hz:=((H14.ftake 2).dtake 1)
    try simp only [List.nil_append] at hz
    rw [ku] at hz;refine ⟨(k+1,_,_),⟨Z,Z,Z,Z,trivial⟩,⟨hz,by omega⟩,by dsimp only; omega⟩
  ·refine eW Z (wn Z) Z aH aR Z Z Z Z H3 (fun _ h e=>h.trans e.no) (fun b7 w14 e7 g7 H15=>d_S (fun hs6=>?_) (by simp));refine oZ (α:=UInt8) Z (wn Z) Z aH aR H15 (fun _ h e=>h.trans e.no) (fun b8 w15 e8 g8 H16=>d_S (fun hs7=>?_) (by simp));refine dT Z (wn Z) Z aH aR Z Z Z H16 2 Z (H16.seen 2 Z) (by (try simp only [List.length_nil]); unfold maxLen; omega) (by (try simp only [List.length_nil]); omega) (fun b hb=>by simp only [List.mem_singleton] at hb; rw [hb]; exact Nat.le_trans hs6.size g8) (fun v7 w16 fp7 sb5 H17=>?_)
   try dsimp only[lNA,lCA,lSZ,lSS] at H17
   refine d_S (fun hs8=>?_) (by simp);refine fQ Z (wn Z) Z aH aR Z Z Z H17 2 1 Z Z dS (by (try simp only [List.length_nil]); unfold maxLen; omega) (by (try simp only [List.length_nil]); omega) (fun b hb=>(sb5 b hb).elim (((fun b hb=>by simp only [List.mem_singleton] at hb; rw [hb]; exact Nat.le_trans hs6.size g8):∀ b∈_,_≤b) b) (fun h=>Nat.le_trans hs7.size h)) (fun v8 w17 fp8 sb6 H18=>?_)
   try dsimp only[lNA,lCA,lSZ,lSS] at H18
   obtain ⟨a3,k3,q4⟩:=aB (H18.mine 2 Z);cases q4;refine eW Z (wn Z) Z bD bt Z Z Z Z H18 (fun _ h e=>h.trans e.no) (fun b9 w18 e9 g9 H19=>yA Z (wn Z) Z bD bt Z Z Z H19 0 3 2 Z Z Z Z (by unfold maxLen; omega) (by omega) (fun _ h e=>h.trans e) (fun v9 w19 fp9 H20=>aQ Z (wn Z) Z Z (aZ Z) (aP (aj (sM Z Z (sV Z (aw Z Z iO) (sA Z Z (aa ?_))))))));have hz:=((H20.ftake 2).dtake 1)
   try simp only [List.nil_append] at hz
   rw [ku] at hz;refine ⟨(k+1,_,_),⟨Z,Z,Z,Z,trivial⟩,⟨hz,by omega⟩,by dsimp only; omega⟩
 ·refine aD (ab (sM Z Z (sV Z (ax bD Z) (sA Z Z (aa (ac (ac ?_)))))));obtain rfl:k=m.length:=by omega
  obtain ⟨oA,oC,oq⟩:=aB (H2.mine 0 Z);rw [go] at oq;cases oq;have al:(augTo m b m.length).length=m.length:=go;obtain ⟨vs,f2,g2,vl,HP⟩:=H2.parted 0 Z
  try dsimp only[lNA,lCA,lSZ,lSS] at HP
  rw [show augTo m b m.length=aug m b from rfl] at HP vl;have hRa:=vO (b:=b) hR;have hRM:=(hRa.red m.length).1;have hM1:=hRM.1;have vl1:vs.length=m.length:=vl.trans hRa.1;refine aj (sR 2 Z (sC func453 wF Z (oE (HP.mine 0 Z) (HP.nodup1 (i:=0) Z) (HP.rowsAt 2 Z) (fun b hb=>HP.off 2 Z 0 Z hb) (by first | assumption | omega) (by assumption) (by omega)) (fun v10 w20 r1=>?_)));obtain ⟨rfl,rm1⟩:=r1;obtain ⟨rv1,rf1,rg1,rl1,H21⟩:=HP.rowsMut 0 Z (by simp [blocks,mine,gone]) rm1
  try dsimp only[lNA,lCA,lSZ,lSS] at H21
  refine sR 2 Z (aa (au Z (fun c2=>?_) (fun c2=>?_)))
  ·refine ab (sR 2 Z (aa (cj (hQ _ _ (jx results450 Z Z ?_)))));obtain ⟨e1,e2⟩:=Bx (m:=m) (b:=b) (by omega);exact ⟨H21.ext,none,0,(by rw [e1,e2]; rfl),(by rw [e2]; exact ⟨[],.inr (.inl ⟨Z,Z,Z⟩),.nil,by simp⟩)⟩
  ·refine ag (ab (cZ (α:=UInt8) (wn Z) Z aH aR H21 (fun b10 w21 e11 g10 H22=>sA Z Z (aa (ac (ab (sA Z Z (aa (ai (aM (γ:=Nat × Value × List Nat) (fun (k,vo,f)=>[(0,.slice mA m.length mC),(6,.slice oA m.length oC),(8,.int .i64 m.length),(9,vo),(10,.int .i64 k)]) (fun (k,vo,f) w'=>Sep No w [mine [.slice oA m.length oC] rv1 rf1,mine [vo] (md (redM (aug m b) m.length).1 m.length k) f] _ w'∧k≤m.length) (fun (k,vo,f)=>m.length-k) (0,_,_) ⟨Z,Z,Z,Z,Z,trivial⟩ ⟨H22.sub (.cons_cons _ (.cons_cons _ List.Sublist.slnil)),by omega⟩ (fun (k,vo,f) w22 H23=>?_)))))))))));obtain ⟨H23,hk⟩:=H23;refine ac (ab (sR 3 Z (aa (au Z (fun c3=>?_) (fun c3=>?_)))))
   ·refine ag (ac (ai ?_));have e5:=hRM.2 k (by omega);have ctl:=sJ (m:=(redM (aug m b) m.length).1) (c:=m.length) (k:=k);obtain ⟨eb3,eo3,ea2,ek2,ef2,ee3,ec3,eO2,eH2,em3⟩:=cA (H23.mine 0 Z) (H23.rowsAt 3 Z) (by first | omega | (simp only [List.length_set]; omega)) k (by first | omega | (simp only [List.length_set]; omega));have eP2:=H23.lookR 3 Z eO2 eH2;obtain ⟨eb4,eo4,ee4,ec4⟩:=bI (eP2.seen 4 Z) m.length (by omega);refine aj (sR 3 Z (sV Z (ao bD aW Z Z ee3 k (by omega) (by omega)) (sV Z (ah aH Z Z ec3) (sM Z Z (sV Z (ao aH ts5 Z Z ee4 m.length (by omega) (by omega)) (sV Z (ah tu5 Z Z ec4) (eC (wn Z) Z aH aR Z Z Z Z eP2 (fun b11 w23 e12 g11 H24=>fj (wn Z) Z aH aR Z Z Z H24 1 2 Z Z dS (by unfold maxLen; omega) (by omega) (fun v11 w24 fp10 H25=>sA Z Z (aa (aj (sM Z Z (sV Z (aw Z Z iO) (sA Z Z (aa ?_)))))))))))))));have hz:=H25.ftake 4 |>.sub (.cons_cons _ (.cons_cons _ (.cons _ List.Sublist.slnil)))
    rw [qx] at hz;refine ⟨(k+1,_,_),⟨Z,Z,Z,Z,Z,trivial⟩,⟨hz,by omega⟩,by dsimp only; omega⟩
   ·refine aD (ab (sR 3 Z (aa (cj (hQ _ _ (jx results450 Z Z ?_))))));obtain rfl:k=m.length:=by omega
    obtain ⟨e1,e2⟩:=uk (m:=m) (b:=b) (by omega);obtain ⟨qa,qc,qq⟩:=aB (H23.mine 1 Z);cases qq;exact ⟨H23.ext,qa,qc,(by rw [e1,e2]),(by rw [e2]; exact H23.out 1 Z)⟩
theorem iU {w:World}{n hsC:Nat}{s p:Int}{hs:List Int}{hsA:Option Addr}(hsS:Sees w [.slice hsA hs.length hsC] hs) (hn:1≤n∧n≤100) (hl:hs.length=n) (hr:∀ i,i<n→0≤hs.getD i 0∧hs.getD i 0≤500) (hp:0≤p∧p≤500):Ret Tryz.prog 353 #[.agg #[.int .i64 n,.int .i64 s],.slice hsA hs.length hsC,.int .i64 p] w fun v w'=>Ext No w w'∧(Res w w' [v] (betw n hs p 0)):=by
 obtain ⟨hsF,hsO⟩:=hsS;refine aA (vs:=[.agg #[.int .i64 n,.int .i64 s],.slice hsA hs.length hsC,.int .i64 p]) func353 Z ntmps353 Z (fun Q hQ hN=>?_);have H0:=Sep.start (w:=w) (F:=[seen false [.slice hsA hs.length hsC] hs hsF]) (ae hsO (by simp));refine ab (aV (wn Z) Z Z H0 (fun b1 w1 e1 g1 H1=>sA Z Z (aa (ab (sF kL Z ts2 (sLd tu2 (H1.box 0 Z) Z (fq (wn Z) Z bD bt (ur (α:=UInt8)) Z (by omega) (by unfold maxLen; omega) H1 (fun b2 w2 e2 g2 H2=>sA Z Z (aa (ac (ab (sM Z Z (sV Z (ax bd Z) (sM Z Z (aa (ai (aM (γ:=Nat × List Nat) (fun (j,f)=>[(2,.int .i64 p),(3,.pointer (some ⟨b1,0,none⟩)),(7,.slice (some ⟨b2,0,none⟩) n n),(17,.slice hsA hs.length hsC),(18,.int .i64 hs.length),(19,.int .i64 j)]) (fun (j,f) w'=>Sep No w [box b1 (.cells #[.int .i64 n,.int .i64 s] 226),mine [.slice (some ⟨b2,0,none⟩) n n] (trF (hv n hs 0) n j 0) f] [seen false [.slice hsA hs.length hsC] hs hsF] w'∧j≤n) (fun (j,f)=>n-j) (0,_) ⟨Z,Z,Z,Z,Z,Z,trivial⟩ ⟨by rw [vf]; exact H2,by omega⟩ (fun (j,f) w3 H3=>?_))))))))))))))))));obtain ⟨H3,hj0⟩:=H3;refine ab (sV Z (aI Z Z) (aa (ac (au Z (fun c1=>?_) (fun c1=>?_)))))
 ·refine ag (ac (ai (ac ?_)));obtain ⟨eb1,eo1,ee1,ec1⟩:=bT (H3.seen 0 Z) j (by omega);have eI1:=ca (H3.seen 0 Z) j (by omega);refine aj (sV Z (ao bd ts2 Z Z ee1 j (by omega) (by omega)) (sV Z (ah tu2 Z Z ec1) (sA Z Z (aa (ac ?_)))));have hj:=hr j (by omega);have gl:(ki n (hs.getD j 0) 0).length=n:=nK;refine aj (sV Z (an kL Z vi Z Z (At.whole (H3.box 0 Z))) (sM Z Z (sC func347 q8 Z (eT (by omega)) (fun v1 w4 r1=>?_))));obtain ⟨e3,r1⟩:=r1;obtain ⟨fp1,H4⟩:=H3.res e3 r1;obtain ⟨a1,k1,q1⟩:=aB (H4.mine 2 Z);cases q1;refine sV Z (ax aH Z) (sM Z Z (aa (ai (aM (γ:=Nat × List Nat) (fun (i,f2)=>[(2,.int .i64 p),(3,.pointer (some ⟨b1,0,none⟩)),(7,.slice (some ⟨b2,0,none⟩) n n),(17,.slice hsA hs.length hsC),(18,.int .i64 hs.length),(19,.int .i64 j),(25,.slice a1 (ki n (hs.getD j 0) 0).length k1),(26,.int .i64 (ki n (hs.getD j 0) 0).length),(27,.int .i64 i)]) (fun (i,f2) w'=>Sep No w [box b1 (.cells #[.int .i64 n,.int .i64 s] 226),mine [.slice (some ⟨b2,0,none⟩) n n] (trF (hv n hs 0) n j i) f2,mine [.slice a1 (ki n (hs.getD j 0) 0).length k1] (ki n (hs.getD j 0) 0) fp1] [seen false [.slice hsA hs.length hsC] hs hsF] w'∧i≤n) (fun (i,f2)=>n-i) (0,_) ⟨Z,Z,Z,Z,Z,Z,Z,Z,Z,trivial⟩ ⟨H4,by omega⟩ (fun (i,f2) w5 H5=>?_)))));obtain ⟨H5,hi⟩:=H5;refine ab (sV Z (aI Z Z) (aa (ac (au Z (fun c2=>?_) (fun c2=>?_)))))
  ·refine ag (ac (ai (ac ?_)));obtain ⟨eb2,eo2,ee2,ec2⟩:=bI (H5.mine 2 Z) i (by omega);refine aj (sM Z Z (sV Z (ao aH ts5 Z Z ee2 i (by omega) (by omega)) (sV Z (ah tu5 Z Z ec2) (sR 2 Z (aa ?_)))));have e6:((trF (hv n hs 0) n j i).getD i []).length=j:=by rw [qg (by omega)]; simp
   obtain ⟨eb3,eo3,eB1,eS1,eF1,eG1,ef1,ea1,ek1,ee3,eN1,ec3,nbef1,eH1⟩:=H5.unhook 1 Z i (by rw [qk]; omega)
   try dsimp only[lNA,lCA,lSZ,lSS] at eH1
   refine aj (sR 4 Z (sV Z (ao bD aW Z Z ee3 i (by omega) (by omega)) (sV Z (ah aH Z Z ec3) (sM Z Z (eC (wn Z) Z aH aR Z Z Z Z eH1 (fun b3 w6 e4 g3 H6=>fj (wn Z) Z aH aR Z Z Z H6 3 4 Z Z dS (by unfold maxLen; omega) (by omega) (fun v2 w7 fp2 H7=>sV Z (ao bD aW Z Z ee3 i (by omega) (by omega)) (EF (wn Z) aW H7 1 3 Z Z Z eN1 Z Z (fun w8 fp3 H8=>?_)))))))))
   try dsimp only[lNA,lCA,lSZ,lSS] at H8
   refine aa (aj (sV Z (aw Z Z iO) (sM Z Z (aa ?_))));have hz:=(H8.dtake 3);rw [show (ki n (hs.getD j 0) 0).getD i 0=(hv n hs 0 j).getD i 0 from rfl,uP (by omega)] at hz;refine ⟨(i+1,_),⟨Z,Z,Z,Z,Z,Z,Z,Z,Z,trivial⟩,⟨hz,by omega⟩,by dsimp only; omega⟩
  ·refine aD (aj (sV Z (aw Z Z iO) (sM Z Z (aa ?_))));have ei:i=n:=by omega
   have hz:=(H5.dtake 2);rw [ei,vm] at hz;refine ⟨(j+1,_),⟨Z,Z,Z,Z,Z,Z,trivial⟩,⟨hz,by omega⟩,by dsimp only; omega⟩
 ·refine aD (ac ?_);have ej:j=n:=by omega
  have HB:=H3;rw [ej,show trF (hv n hs 0) n n 0=pB n hs 0 from rfl] at HB;have hRm:=rC (n:=n) (h:=hs) (b:=0);have bl:=pc (n:=n) (h:=hs) (b:=0);have gl2:(ki n p 0).length=n:=nK;refine aj (sM Z Z (sV Z (an kL Z vi Z Z (At.whole (HB.box 0 Z))) (sM Z Z (sC func347 q8 Z (eT (by omega)) (fun v3 w9 r2=>?_)))));obtain ⟨e6,r2⟩:=r2;obtain ⟨fp4,H9⟩:=HB.res e6 r2;obtain ⟨a2,k2,q2⟩:=aB (H9.mine 2 Z);cases q2;refine sC func407 yL Z (pT (H9.msees 1 Z) (H9.msees 2 Z) (by assumption) (by first | assumption | omega) (by omega)) (fun v4 w10 r3=>?_);obtain ⟨e7,sa1,sk1,rfl,r3⟩:=r3;obtain ⟨fp5,H10⟩:=H9.res e7 r3;refine sR 5 Z (aa (ab (sR 2 Z (rN hQ results353 Z ?_))));exact ⟨H10.ext,H10.out 3 Z⟩
theorem lN {w:World}{n hsC:Nat}{p:Int}{hs:List Int}{hsA:Option Addr}(hsS:Sees w [.slice hsA hs.length hsC] hs) (hn:1≤n∧n≤100) (hl:hs.length=n) (hr:∀ i,i<n→0≤hs.getD i 0∧hs.getD i 0≤500) (hp:0≤p∧p≤500):Ret Tryz.prog 441 #[.int .i64 n,.slice hsA hs.length hsC,.int .i64 p,.int .i64 0] w fun v w'=>Ext No w w'∧(Res w w' [v] (betw n hs p 0)):=by
 obtain ⟨hsF,hsO⟩:=hsS;refine aA (vs:=[.int .i64 n,.slice hsA hs.length hsC,.int .i64 p,.int .i64 0]) func441 Z ntmps441 Z (fun Q hQ hN=>?_);have H0:=Sep.start (w:=w) (F:=[seen false [.slice hsA hs.length hsC] hs hsF]) (ae hsO (by simp));refine ab (sA Z Z (aa (ab (sM Z Z (fq (wn Z) Z bD bt (ur (α:=UInt8)) Z (by omega) (by unfold maxLen; omega) H0 (fun b1 w1 e1 g1 H1=>sA Z Z (aa (ac (ab (sA Z Z (aa (ai (aM (γ:=Nat × List Nat) (fun (j,f)=>[(0,.int .i64 n),(1,.slice hsA hs.length hsC),(2,.int .i64 p),(3,.int .i64 0),(9,.slice (some ⟨b1,0,none⟩) n n),(10,.int .i64 j)]) (fun (j,f) w'=>Sep No w [mine [.slice (some ⟨b1,0,none⟩) n n] (trF (hv n hs 0) n j 0) f] [seen false [.slice hsA hs.length hsC] hs hsF] w'∧j≤n) (fun (j,f)=>n-j) (0,_) ⟨Z,Z,Z,Z,Z,Z,trivial⟩ ⟨by rw [vf]; exact H1,by omega⟩ (fun (j,f) w2 H2=>?_))))))))))))));obtain ⟨H2,hj0⟩:=H2;refine ac (ab (sR 3 Z (aa (au Z (fun c1=>?_) (fun c1=>?_)))))
 ·refine ag (ac (ai (ac ?_)));have hj:=hr j (by omega);have gl:(ki n (hs.getD j 0) 0).length=n:=nK;obtain ⟨eb1,eo1,ee1,ec1⟩:=bT (H2.seen 0 Z) j (by omega);have eI1:=ca (H2.seen 0 Z) j (by omega);refine aj (sR 3 Z (sV Z (ao bd ts2 Z Z ee1 j (by omega) (by omega)) (sV Z (ah tu2 Z Z ec1) (sM Z Z (sC func336 qT Z (kE (by omega)) (fun v1 w3 r1=>?_))))));obtain ⟨e2,r1⟩:=r1;obtain ⟨fp1,H3⟩:=H2.res e2 r1;obtain ⟨a1,k1,q1⟩:=aB (H3.mine 1 Z);cases q1;refine sA Z Z (aa (ac ?_));have HS:=H3.share 1 Z
  try dsimp only[lNA,lCA,lSZ,lSS] at HS
  refine aj (sA Z Z (aa (ai (aM (γ:=Nat × List Nat) (fun (i,f2)=>[(0,.int .i64 n),(1,.slice hsA hs.length hsC),(2,.int .i64 p),(3,.int .i64 0),(9,.slice (some ⟨b1,0,none⟩) n n),(10,.int .i64 j),(11,.slice a1 (ki n (hs.getD j 0) 0).length k1),(12,.int .i64 i)]) (fun (i,f2) w'=>Sep No w [mine [.slice (some ⟨b1,0,none⟩) n n] (trF (hv n hs 0) n j i) f2] _ w'∧i≤n) (fun (i,f2)=>n-i) (0,_) ⟨Z,Z,Z,Z,Z,Z,Z,Z,trivial⟩ ⟨(HS.dtake 1),by omega⟩ (fun (i,f2) w4 H4=>?_)))));obtain ⟨H4,hi⟩:=H4;refine ac (ab (sR 3 Z (aa (au Z (fun c2=>?_) (fun c2=>?_)))))
  ·refine ag (ac (ai ?_));have e6:((trF (hv n hs 0) n j i).getD i []).length=j:=by rw [qg (by omega)]; simp
   obtain ⟨eb2,eo2,eB1,eS1,eF1,eG1,ef1,ea1,ek1,ee2,eN1,ec2,nbef1,eH1⟩:=H4.unhook 0 Z i (by rw [qk]; omega)
   try dsimp only[lNA,lCA,lSZ,lSS] at eH1
   obtain ⟨eb3,eo3,ee3,ec3,em1⟩:=nA (eH1.seen 1 Z) i (by omega);refine bv (S:=Ext (· ∈ ef1) _) (oQ [1,3,5,7,9,11,13,15,17,19,20,22,25,26]) (by kernel_rfl) (by kernel_rfl) (by kernel_rfl) Z (fun _=>Ext.refl.drawn _) (fun q2=>?_);have H5:=eH1.drawn q2;refine dR 4 Z (dV Z Z (fun zw hx=>ao bD aW Z Z ee2 i (by omega) (by omega)) (dV Z Z (fun zw hx=>ah aH Z Z (hx.cellM nbef1 ec2)) (dR 2 Z (dV Z Z (fun zw hx=>ao aH ts5 Z Z ee3 i (by omega) (by omega)) (dV Z Z (fun zw hx=>ah tu5 Z Z (hx.cellM (H5.off 1 Z 1 Z em1) ec3)) (eW Z (wn Z) Z aH aR Z Z Z Z H5 (fun _ h e=>h.trans e.no) (fun b2 w5 e3 g2 H6=>Bn Z (wn Z) Z aH aR Z Z Z H6 1 2 Z Z dS (by unfold maxLen; omega) (by omega) (fun _ h e=>h.trans e) (fun v2 w6 fp2 H7=>dV Z Z (fun zw hx=>ao bD aW Z Z ee2 i (by omega) (by omega)) (Eh Z (wn Z) aW H7 0 1 Z Z Z eN1 Z Z (fun w7 fp3 H8=>?_))))))))))
   try dsimp only[lNA,lCA,lSZ,lSS] at H8
   refine aP (aj (sM Z Z (sV Z (aw Z Z iO) (sA Z Z (aa ?_)))));have hz:=(H8.dtake 1);rw [show (ki n (hs.getD j 0) 0).getD i 0=(hv n hs 0 j).getD i 0 from rfl,uP (by omega)] at hz;refine ⟨(i+1,_),⟨Z,Z,Z,Z,Z,Z,Z,Z,trivial⟩,⟨hz,by omega⟩,by dsimp only; omega⟩
  ·refine aD (aj (sM Z Z (sV Z (aw Z Z iO) (sA Z Z (aa ?_)))));have ei:i=n:=by omega
   have hz:=(H4.ftake 1);rw [ei,vm] at hz;refine ⟨(j+1,_),⟨Z,Z,Z,Z,Z,Z,trivial⟩,⟨hz,by omega⟩,by dsimp only; omega⟩
 ·refine aD (ac ?_);have ej:j=n:=by omega
  have HB:=H2;rw [ej,show trF (hv n hs 0) n n 0=pB n hs 0 from rfl] at HB;have hRm:=rC (n:=n) (h:=hs) (b:=0);have bl:=pc (n:=n) (h:=hs) (b:=0);have gl2:(ki n p 0).length=n:=nK;refine aj (sR 4 Z (sC func336 qT Z (kE (by omega)) (fun v3 w8 r2=>?_)));obtain ⟨e5,r2⟩:=r2;obtain ⟨fp4,H9⟩:=HB.res e5 r2;obtain ⟨a2,k2,q3⟩:=aB (H9.mine 1 Z);cases q3;refine sC func450 xy Z (nN (H9.msees 0 Z) (H9.msees 1 Z) (by assumption) (by first | assumption | omega) (by omega)) (fun v4 w9 r3=>?_);obtain ⟨e6,sa1,sk1,rfl,r3⟩:=r3;obtain ⟨fp5,H10⟩:=H9.res e6 r3;refine sR 5 Z (aa (ab (sR 2 Z (rN hQ results441 Z ?_))));exact ⟨H10.ext,H10.out 2 Z⟩
end Go.Wk
namespace Go.Wk
open Go.Proofs Rp Go.Proofs.Tryz
set_option maxRecDepth 10000
theorem gA {w:World}{xs:List Int}{xsA:Option Addr}{xsC:Nat}(xsS:Sees w [.slice xsA xs.length xsC] xs):Ret Tryz.prog 133 #[.slice xsA xs.length xsC] w fun v w'=>Ext No w w'∧(v = .int .i64 xs.length):=by
 have xsL:=sL xsS;obtain ⟨xsF,xsO⟩:=xsS;refine aA (vs:=[.slice xsA xs.length xsC]) func133 Z ntmps133 Z (fun Q hQ hN=>?_);have H0:=Sep.start (w:=w) (F:=[seen false [.slice xsA xs.length xsC] xs xsF]) (ae xsO (by simp));refine ab (sA Z Z (aa (ab (sM Z Z (sV Z (ax bd Z) (rA hQ results133 Z ?_))))));exact ⟨H0.ext,Z⟩
end Go.Wk
namespace Go.Wk
open Go.Proofs Rp Go.Proofs.Tryz
set_option maxRecDepth 10000
theorem jg {w:World}{n s:Nat}{xs:List (List UInt8)}{xsA:Option Addr}{xsC:Nat}(hn:1≤n∧n≤3∧s≤2) (hl:xs.length=n+s) (h4:Part xs) (xsS:Sees w [.slice xsA xs.length xsC] xs):Ret Tryz.prog 257 #[.agg #[.int .i64 n,.int .i64 s],.slice xsA xs.length xsC] w fun v w'=>Ext No w w'∧(∃ A C,v = .tuple #[.slice A (oO n xs).length C,.bool (eZ n xs)]∧Res w w' [.slice A (oO n xs).length C] (oO n xs)):=by
 have xsL:=sL xsS;obtain ⟨xsF,xsO⟩:=xsS;refine aA (vs:=[.agg #[.int .i64 n,.int .i64 s],.slice xsA xs.length xsC]) func257 Z ntmps257 Z (fun Q hQ hN=>?_);have H0:=Sep.start (w:=w) (F:=[seen false [.slice xsA xs.length xsC] xs xsF]) (ae xsO (by simp));refine ab (aV (wn Z) Z Z H0 (fun b1 w1 e1 g1 H1=>sR 2 Z (aa (ab (cZ (α:=Int) (wn Z) Z bd fa H1 (fun b2 w2 e2 g2 H2=>cZ (α:=View) (wn Z) Z bD bt H2 (fun b3 w3 e3 g3 H3=>sR 2 Z (aa (ac (ac ?_))))))))));have HR:=H3.noRows (β:=UInt8)
 try dsimp only[lNA,lCA,lSZ,lSS] at HR
 refine aj (sM Z Z (sV Z (ax bD Z) (sM Z Z (aa (ai (aM (γ:=Nat × Value × List Nat × Value × List View × List Nat × List Nat) (fun (k,vo,f,vp,vs,f2,g)=>[(2,.pointer (some ⟨b1,0,none⟩)),(6,vo),(7,vp),(14,.slice xsA xs.length xsC),(15,.int .i64 xs.length),(16,.int .i64 k)]) (fun (k,vo,f,vp,vs,f2,g) w'=>Sep No w [box b1 (.cells #[.int .i64 n,.int .i64 s] 226),mine [vo] (bc xs n k) f,mine [vp] vs f2] [seen false [.slice xsA xs.length xsC] xs xsF,rows vs (thereTo xs n k) g] w'∧k≤xs.length∧vs.length=(thereTo xs n k).length) (fun (k,vo,f,vp,vs,f2,g)=>xs.length-k) (0,_,_,_,_,_,_) ⟨Z,Z,Z,Z,Z,Z,trivial⟩ ⟨HR,by omega,Z⟩ (fun (k,vo,f,vp,vs,f2,g) w4 H4=>?_)))))));obtain ⟨H4,hk,vl⟩:=H4;refine ab (sV Z (aI Z Z) (aa (ac (au Z (fun c1=>?_) (fun c1=>?_)))))
 ·refine ag (ac (ai (ac ?_)));obtain ⟨eb1,eo1,ea1,ek1,ef1,ee1,ec1,eO1,eH1⟩:=cE (H4.seen 0 Z) k (by omega);have eP1:=H4.look1 0 Z eO1 eH1;refine aj (sM Z Z (sV Z (ao bD aW Z Z ee1 k (by omega) (by omega)) (sV Z (ah aH Z Z ec1) (sR 2 Z (aa (ac (bv (S:=Ext No _) (oQ [1,3,5,7,9,13,15,10,17,18]) (by kernel_rfl) (by kernel_rfl) (by kernel_rfl) Z (fun _=>Ext.refl.drawn _) (fun q1=>?_))))))));have H5:=eP1.drawn q1;refine dM Z Z Z (dV Z Z (fun zw hx=>ax aH Z) (dR 2 Z (cm (t:=24) Z (fun hg1=>?_) (fun hg1=>?_))))
  ·try simp only [decide_eq_true_eq,decide_eq_false_iff_not] at hg1
   refine aC Z (wg Z Z Z) Z Z (fun zw hx=>aG Z) (aC Z (wg Z Z Z) Z Z (fun zw hx=>am kL Z ts2 Z Z) (aC Z (wg Z Z Z) Z Z (fun zw hx=>ah tu2 Z Z (ar (hx.heap (H5.box 0 Z)) Z)) ?_));obtain ⟨a1,k1,q2⟩:=aB (H5.mine 1 Z);cases q2;refine cg Z (wg Z Z Z) Z Z (aO func133 Z gm Z) (gA (H5.msees 1 Z)) (fun hS _ _ r _=>hS.trans r.1.no) (fun v1 w5 r1=>?_);obtain ⟨e4,rfl⟩:=r1;have H6:=H5.to e4;refine aC Z (wg Z Z Z) Z Z (fun zw hx=>aI Z Z) (aQ Z (wn Z) Z Z (aF Z Z) (aP (au Z (fun c2=>?_) (fun c2=>?_))))
   ·have tl:=fF (xs:=xs) (n:=n) (k:=k);have hl9:=jT (xs:=xs) (n:=n) (k:=k);refine aj (sR 2 Z (eC (wn Z) Z bd fa Z Z Z Z H6 (fun b4 w6 e5 g4 H7=>fj (wn Z) Z bd fa Z Z Z H7 1 3 Z Z (rj (by first | assumption | (unfold I64ok; omega))) (by unfold maxLen; omega) (by omega) (fun v2 w7 fp1 H8=>sR 2 Z (eC (wn Z) Z bD bt Z Z Z Z H8 (fun b5 w8 e6 g5 H9=>fj (α:=View) (u:=⟨_,_,_⟩) (wn Z) Z bD bt Z Z Z H9 2 4 Z Z ⟨Z,Z⟩ (by unfold maxLen; omega) (by omega) (fun v3 w9 fp2 H10=>?_)))))))
    try dsimp only[lNA,lCA,lSZ,lSS] at H10
    obtain ⟨rg1,H11,rh1⟩:=H10.rowApp 1 2 Z Z (by first | assumption | omega)
    try dsimp only[lNA,lCA,lSZ,lSS] at H11
    refine sR 2 Z (aa (aj (sV Z (aw Z Z iO) (sM Z Z (aa ?_)))));have hy:=fT (xs:=xs) (n:=n) (k:=k) ⟨by omega,by omega⟩;have hz:=((H11.ftake 2).dtake 3);rw [← hy.1,← hy.2] at hz;refine ⟨(k+1,_,_,_,_,_,_),⟨Z,Z,Z,Z,Z,Z,trivial⟩,⟨hz,by omega,(by rw [hy.2,List.length_append,List.length_append]; simp only [List.length_cons,List.length_nil]; omega)⟩,by dsimp only; omega⟩
   ·refine ag (aj (sV Z (aw Z Z iO) (sM Z Z (aa ?_))));have hy:=fU (xs:=xs) (n:=n) (k:=k) (by omega);have hz:=(H6.ftake 2);refine ⟨(k+1,_,_,_,_,_,_),⟨Z,Z,Z,Z,Z,Z,trivial⟩,⟨(by rw [hy.1,hy.2]; exact hz),by omega,(by rw [hy.2]; exact vl)⟩,by dsimp only; omega⟩
  ·try simp only [decide_eq_true_eq,decide_eq_false_iff_not] at hg1
   refine dR 5 Z (aQ Z (wn Z) Z Z (aJ Z Z) (aP (l4 Z (ag (aj (sV Z (aw Z Z iO) (sM Z Z (aa ?_))))))));have hy:=fU (xs:=xs) (n:=n) (k:=k) (by omega);have hz:=(H5.ftake 2);refine ⟨(k+1,_,_,_,_,_,_),⟨Z,Z,Z,Z,Z,Z,trivial⟩,⟨(by rw [hy.1,hy.2]; exact hz),by omega,(by rw [hy.2]; exact vl)⟩,by dsimp only; omega⟩
 ·refine aD (ac (ac ?_));obtain rfl:k=xs.length:=by omega
  have hl8:=jT (xs:=xs) (n:=n) (k:=xs.length);refine bv (S:=Ext No _) (oQ [1,5,7,2,8]) (by kernel_rfl) (by kernel_rfl) (by kernel_rfl) Z (fun _=>Ext.refl.drawn _) (fun q3=>?_);have H12:=H4.drawn q3;refine dM Z Z Z (dV Z Z (fun zw hx=>am kL Z ts2 Z Z) (dV Z Z (fun zw hx=>ah tu2 Z Z (ar (hx.heap (H12.box 0 Z)) Z)) ?_));obtain ⟨a2,k2,q4⟩:=aB (H12.mine 1 Z);cases q4;refine dC func133 gm Z (gA (H12.msees 1 Z)) (fun v4 w10 r2=>?_);obtain ⟨e7,rfl⟩:=r2;have H13:=H12.to e7;refine aQ Z (wn Z) Z Z (aI Z Z) (aP (au Z (fun c3=>?_) (fun c3=>?_)))
  ·refine ab (sR 2 Z (aa (cj (hQ _ _ (jx results257 Z Z ?_)))));obtain ⟨e1,e2,_⟩:=xY (xs:=xs) (n:=n) (by omega);exact ⟨H13.ext,none,0,(by rw [e1,e2]; rfl),(by rw [e2]; exact ⟨[],.inr (.inl ⟨Z,Z,Z⟩),.nil,by simp⟩)⟩
  ·refine ag (ac ?_);have tl:=fF (xs:=xs) (n:=n) (k:=xs.length);have hl9:=jT (xs:=xs) (n:=n) (k:=xs.length);obtain ⟨pA,pC,pq⟩:=aB (H13.mine 2 Z);rw [vl] at pq;cases pq;obtain ⟨tf,HV,_⟩:=H13.viewsIn 2 1 Z Z vl
   try dsimp only[lNA,lCA,lSZ,lSS] at HV
   have hh:(bc xs n xs.length).length=n:=by omega
   have hth:(thereTo xs n xs.length).length=n:=by omega
   have ht4:=xq (n:=n) h4;have hra:∀ i,i<n→0≤(bc xs n xs.length).getD i 0∧(bc xs n xs.length).getD i 0≤500:=fun i hi=>by have:=kl (xs:=xs) (n:=n) (k:=xs.length) i (by omega); omega
   have hrz:rises (bc xs n xs.length) ((n:Int)+s-1)=true:=by have:=rV (xs:=xs) (n:=n) (k:=xs.length); rwa [show ((xs.length:Nat):Int)-1=(n:Int)+s-1 by omega] at this
   refine aj (cZ (α:=UInt8) (wn Z) Z aH aR HV (fun b6 w11 e8 g6 H14=>sA Z Z (aa (ac (ab (sF kL Z ts2 (sLd tu2 (H14.box 0 Z) Z (sM Z Z (aa (ai (aM (γ:=Nat × Value × List Nat) (fun (i,vo,f3)=>[(2,.pointer (some ⟨b1,0,none⟩)),(6,.slice a2 (bc xs n xs.length).length k2),(7,.slice pA (thereTo xs n xs.length).length pC),(10,vo),(47,.int .i64 n),(48,.int .i64 i)]) (fun (i,vo,f3) w'=>Sep No w [box b1 (.cells #[.int .i64 n,.int .i64 s] 226),mine [.slice a2 (bc xs n xs.length).length k2] (bc xs n xs.length) f,gone,mine [vo] (nT n xs i) f3] _ w'∧i≤n) (fun (i,vo,f3)=>n-i) (0,_,_) ⟨Z,Z,Z,Z,Z,Z,trivial⟩ ⟨H14,by omega⟩ (fun (i,vo,f3) w12 H15=>?_))))))))))));obtain ⟨H15,hi⟩:=H15;refine ab (sV Z (aI Z Z) (aa (ac (au Z (fun c4=>?_) (fun c4=>?_)))))
   ·refine ag (ac (ai (ab (sR 2 Z (aa ?_)))));have bl:=zF (n:=n) (s:=s) (hs:=(bc xs n xs.length)) (x:=(i:Int)) (by omega) (by omega) hrz (by omega) (by omega);have ml:=jA (cs:=betw n (bc xs n xs.length) i 0) ht4 (k:=(thereTo xs n xs.length).length) (Nat.le_refl _);have dl:=lE (n:=n) h4 i;refine aj (sR 2 Z (sV Z (an kL Z vi Z Z (At.whole (H15.box 0 Z))) (sR 2 Z (sC func353 xB Z (iU (H15.msees 1 Z) (by omega) (by first | assumption | omega) (by assumption) (by first | assumption | omega)) (fun v5 w13 r3=>?_)))));obtain ⟨e9,r3⟩:=r3;obtain ⟨fp3,H16⟩:=H15.res e9 r3;obtain ⟨a3,k3,q5⟩:=aB (H16.mine 4 Z);cases q5;refine sC func294 yr Z (p4 (H16.sees 2 Z) (H16.msees 4 Z) (by omega) (by omega) (by assumption) (by omega)) (fun v6 w14 r4=>?_);obtain ⟨e10,r4⟩:=r4;obtain ⟨fp4,H17⟩:=H16.res e10 r4;obtain ⟨a4,k4,q6⟩:=aB (H17.mine 5 Z);cases q6;refine oP (wn Z) Z aH aR Z Z Z H17 3 Z (H17.mine 5 Z) (by (try simp only [List.length_nil]); unfold maxLen; omega) (by (try simp only [List.length_nil]); omega) (fun v7 w15 fp5 H18=>sA Z Z (aa (aj (sV Z (aw Z Z iO) (sM Z Z (aa ?_))))));have hz:=(H18.dtake 4);rw [mP] at hz;refine ⟨(i+1,_,_),⟨Z,Z,Z,Z,Z,Z,trivial⟩,⟨hz,by omega⟩,by dsimp only; omega⟩
   ·refine aD (ab (sR 3 Z (aa (cj (hQ _ _ (jx results257 Z Z ?_))))));obtain rfl:n=i:=by omega
    obtain ⟨e1,e2,_⟩:=qe (xs:=xs) (n:=n) (by omega);obtain ⟨qa,qc,qq⟩:=aB (H15.mine 3 Z);cases qq;exact ⟨H15.ext,qa,qc,(by rw [e1,e2]),(by rw [e2]; exact H15.out 3 Z)⟩
theorem ou {w:World}{n s:Nat}{p:Int}{xs:List (List UInt8)}{xsA:Option Addr}{xsC:Nat}(hn:1≤n∧n≤3∧s≤2) (hl:xs.length=n+s) (h4:Part xs) (hp:0≤p∧p≤(n:Int)+s-1) (xsS:Sees w [.slice xsA xs.length xsC] xs):Ret Tryz.prog 400 #[.int .i64 n,.slice xsA xs.length xsC,.int .i64 p] w fun v w'=>Ext No w w'∧(∃ A C,v = .tuple #[.slice A (ub n xs p).length C,.bool (eZ n xs)]∧Res w w' [.slice A (ub n xs p).length C] (ub n xs p)):=by
 have xsL:=sL xsS;obtain ⟨xsF,xsO⟩:=xsS;refine aA (vs:=[.int .i64 n,.slice xsA xs.length xsC,.int .i64 p]) func400 Z ntmps400 Z (fun Q hQ hN=>?_);have H0:=Sep.start (w:=w) (F:=[seen false [.slice xsA xs.length xsC] xs xsF]) (ae xsO (by simp));refine ab (sR 2 Z (aa (ab (cZ (α:=Int) (wn Z) Z bd fa H0 (fun b1 w1 e1 g1 H1=>sA Z Z (aa (ab (cZ (α:=View) (wn Z) Z bD bt H1 (fun b2 w2 e2 g2 H2=>sA Z Z (aa (ac (ac ?_))))))))))));have HR:=H2.noRows (β:=UInt8)
 try dsimp only[lNA,lCA,lSZ,lSS] at HR
 refine aj (sA Z Z (aa (ai (aM (γ:=Nat × Value × List Nat × Value × List View × List Nat × List Nat) (fun (k,vo,f,vp,vs,f2,g)=>[(0,.int .i64 n),(1,.slice xsA xs.length xsC),(2,.int .i64 p),(8,vo),(9,vp),(10,.int .i64 k)]) (fun (k,vo,f,vp,vs,f2,g) w'=>Sep No w [mine [vo] (bc xs n k) f,mine [vp] vs f2] [seen false [.slice xsA xs.length xsC] xs xsF,rows vs (thereTo xs n k) g] w'∧k≤xs.length∧vs.length=(thereTo xs n k).length) (fun (k,vo,f,vp,vs,f2,g)=>xs.length-k) (0,_,_,_,_,_,_) ⟨Z,Z,Z,Z,Z,Z,trivial⟩ ⟨HR,by omega,Z⟩ (fun (k,vo,f,vp,vs,f2,g) w3 H3=>?_)))));obtain ⟨H3,hk,vl⟩:=H3;refine ac (ac ?_);obtain ⟨a1,k1,q1⟩:=aB (H3.mine 0 Z);cases q1;refine aj (sR 2 Z (sV Z (ax bD Z) (sR 2 Z (bp 4 (j:=4) (want:=true) (t:=21) Z Z Z Z (fun hg1 kk1=>ak (wgE Z Z Z hg1) Z Z (aG Z) (ak (wgE Z Z Z hg1) Z Z (ax bd Z) (ak (wgE Z Z Z hg1) Z Z (aG Z) (ak (wgE Z Z Z hg1) Z Z (aI Z Z) (kk1 _ _ (kx Z (kx Z (kx Z (kx Z k0)))) Z Ext.refl))))) (fun w4 e3=>?_)))));have H4:=H3.to e3;refine sV Z (aY Z Z) (aa (bz Z (fun c1=>?_) (fun c1=>?_)))
 ·simp only [Bool.and_eq_true,decide_eq_true_eq] at c1;refine ag (ac (ai (ac ?_)));obtain ⟨eb1,eo1,ea1,ek1,ef1,ee1,ec1,eO1,eH1⟩:=cE (H4.seen 0 Z) k (by omega);have eP1:=H4.look1 0 Z eO1 eH1;refine aj (sR 2 Z (sV Z (ao bD aW Z Z ee1 k (by omega) (by omega)) (sV Z (ah aH Z Z ec1) (sV Z (ax aH Z) (sV Z (dd Z Z) (aa (au Z (fun c2=>?_) (fun c2=>?_))))))))
  ·refine ac ?_;have tl:=fF (xs:=xs) (n:=n) (k:=k);have hl9:=jT (xs:=xs) (n:=n) (k:=k);refine aj (sR 2 Z (eC (wn Z) Z bd fa Z Z Z Z eP1 (fun b3 w5 e4 g3 H5=>fj (wn Z) Z bd fa Z Z Z H5 0 2 Z Z (rj (by first | assumption | (unfold I64ok; omega))) (by unfold maxLen; omega) (by omega) (fun v1 w6 fp1 H6=>sA Z Z (aa ?_)))));obtain ⟨eb2,eo2,ea2,ek2,ef2,ee2,ec2,eO2,eH2⟩:=cE (H6.seen 0 Z) k (by omega);have eP2:=H6.look1 0 Z eO2 eH2;refine aj (sR 3 Z (sV Z (ao bD aW Z Z ee2 k (by omega) (by omega)) (sV Z (ah aH Z Z ec2) (eC (wn Z) Z bD bt Z Z Z Z eP2 (fun b4 w7 e5 g4 H7=>fj (α:=View) (u:=⟨_,_,_⟩) (wn Z) Z bD bt Z Z Z H7 1 3 Z Z ⟨Z,Z⟩ (by unfold maxLen; omega) (by omega) (fun v2 w8 fp2 H8=>?_))))))
   try dsimp only[lNA,lCA,lSZ,lSS] at H8
   obtain ⟨rg1,H9,rh1⟩:=H8.rowApp 1 3 Z Z (by first | assumption | omega)
   try dsimp only[lNA,lCA,lSZ,lSS] at H9
   refine sA Z Z (aa (aj (sM Z Z (sV Z (aw Z Z iO) (sA Z Z (aa ?_))))));have hy:=fT (xs:=xs) (n:=n) (k:=k) ⟨by omega,by omega⟩;have hz:=((H9.ftake 2).dtake 2);rw [← hy.1,← hy.2] at hz;refine ⟨(k+1,_,_,_,_,_,_),⟨Z,Z,Z,Z,Z,Z,trivial⟩,⟨hz,by omega,(by rw [hy.2,List.length_append,List.length_append]; simp only [List.length_cons,List.length_nil]; omega)⟩,by dsimp only; omega⟩
  ·refine ag (aj (sM Z Z (sV Z (aw Z Z iO) (sA Z Z (aa ?_)))));have hy:=fU (xs:=xs) (n:=n) (k:=k) (by omega);have hz:=(eP1.ftake 2);refine ⟨(k+1,_,_,_,_,_,_),⟨Z,Z,Z,Z,Z,Z,trivial⟩,⟨(by rw [hy.1,hy.2]; exact hz),by omega,(by rw [hy.2]; exact vl)⟩,by dsimp only; omega⟩
 ·simp only [Bool.and_eq_false_iff,decide_eq_false_iff_not] at c1;have hend:=Bw hk c1;refine aD (ac (ab (sM Z Z (sV Z (ax bd Z) (sR 2 Z (aa (au Z (fun c3=>?_) (fun c3=>?_))))))))
  ·refine ab (sR 2 Z (aa (cj (hQ _ _ (jx results400 Z Z ?_)))));obtain ⟨e1,_,e2⟩:=xY (xs:=xs) (n:=n) (by rw [hend.1]; omega);exact ⟨H4.ext,none,0,(by rw [e1,e2]; rfl),(by rw [e2]; exact ⟨[],.inr (.inl ⟨Z,Z,Z⟩),.nil,by simp⟩)⟩
  ·refine ag (ac ?_);have hl9:=jT (xs:=xs) (n:=n) (k:=k);have tl:=fF (xs:=xs) (n:=n) (k:=k);obtain ⟨pA,pC,pq⟩:=aB (H4.mine 1 Z);rw [vl] at pq;cases pq;obtain ⟨tf,HV,_⟩:=H4.viewsIn 1 1 Z Z vl
   try dsimp only[lNA,lCA,lSZ,lSS] at HV
   have hh:(bc xs n k).length=n:=by omega
   have hth:(thereTo xs n k).length=n:=by omega
   have ht4:=xq (n:=n) h4;rw [hend.2] at ht4;have hrz:=wG (xs:=xs) (n:=n) (s:=s) hl;rw [hend.1] at hrz;have hra:∀ i,i<n→0≤(bc xs n k).getD i 0∧(bc xs n k).getD i 0≤500:=fun i hi=>by have:=kl (xs:=xs) (n:=n) (k:=k) i (by omega); omega
   have bl:=zF (n:=n) (s:=s) (hs:=(bc xs n k)) (x:=p) (by omega) (by omega) hrz (by omega) (by omega);refine aj (sR 4 Z (sC func441 wd Z (lN (HV.msees 0 Z) (by omega) (by first | assumption | omega) (by assumption) (by first | assumption | omega)) (fun v3 w9 r1=>?_)));obtain ⟨e6,r1⟩:=r1;obtain ⟨fp3,H10⟩:=HV.res e6 r1;obtain ⟨a2,k2,q2⟩:=aB (H10.mine 2 Z);cases q2;refine sC func335 xW Z (pX (H10.sees 2 Z) (H10.msees 2 Z) (by omega) (by omega) (by assumption) (by omega)) (fun v4 w10 r2=>?_);obtain ⟨e7,r2⟩:=r2;obtain ⟨fp4,H11⟩:=H10.res e7 r2;obtain ⟨a3,k3,q3⟩:=aB (H11.mine 3 Z);cases q3;refine sR 2 Z (aa (cj (hQ _ _ (jx results400 Z Z ?_))));obtain ⟨e1,_,e2⟩:=qe (xs:=xs) (n:=n) (by rw [hend.1]; omega);have e3:=e2 p;rw [decAt,hend.1,hend.2] at e3;obtain ⟨qa,qc,qq⟩:=aB (H11.mine 3 Z);exact ⟨H11.ext,_,_,(by rw [e1,e3]),(by rw [e3]; exact H11.out 3 Z)⟩
theorem mX {w:World}{n s:Nat}{xs:List (List UInt8)}{xsA:Option Addr}{xsC:Nat}(hn:1≤n∧n≤3∧s≤2) (hl:xs.length=n+s) (h4:Part xs) (xsS:Sees w [.slice xsA xs.length xsC] xs):Ret Tryz.prog 332 #[.int .i64 n,.slice xsA xs.length xsC] w fun v w'=>Ext No w w'∧(∃ A C,v = .tuple #[.slice A (oO n xs).length C,.bool (eZ n xs)]∧Res w w' [.slice A (oO n xs).length C] (oO n xs)):=by
 have xsL:=sL xsS;obtain ⟨xsF,xsO⟩:=xsS;refine aA (vs:=[.int .i64 n,.slice xsA xs.length xsC]) func332 Z ntmps332 Z (fun Q hQ hN=>?_);have H0:=Sep.start (w:=w) (F:=[seen false [.slice xsA xs.length xsC] xs xsF]) (ae xsO (by simp));refine ab (sR 2 Z (aa (ab (cZ (α:=UInt8) (wn Z) Z aH aR H0 (fun b1 w1 e1 g1 H1=>sA Z Z (aa (ac (ab (sA Z Z (aa (ai (aM (γ:=Nat × Value × List Nat) (fun (i,vo,f)=>[(0,.int .i64 n),(1,.slice xsA xs.length xsC),(6,vo),(7,.int .i64 i)]) (fun (i,vo,f) w'=>Sep No w [mine [vo] (nT n xs i) f] [seen false [.slice xsA xs.length xsC] xs xsF] w'∧i≤n∧(0<i→eZ n xs=true)) (fun (i,vo,f)=>n-i) (0,_,_) ⟨Z,Z,Z,Z,trivial⟩ ⟨H1,by omega,fun h=>absurd h (by omega)⟩ (fun (i,vo,f) w2 H2=>?_)))))))))))));obtain ⟨H2,hi,hok⟩:=H2;refine ac (ab (sR 3 Z (aa (au Z (fun c1=>?_) (fun c1=>?_)))))
 ·refine ag (ac (ai (ab (sR 3 Z (sC func400 xp Z (ou (s:=s) (by omega) (by omega) h4 (by omega) (H2.sees 0 Z)) (fun v1 w3 r1=>?_))))));obtain ⟨e2,sa1,sk1,rfl,r1⟩:=r1;obtain ⟨fp1,H3⟩:=H2.res e2 r1;refine sR 5 Z (aa (ac (ab (sM Z Z (sV Z (aN Z) (aa (bz Z (fun c2=>?_) (fun c2=>?_))))))))
  ·refine ab (sR 2 Z (aa (cj (hQ _ _ (jx results332 Z Z ?_)))));obtain ⟨e1,e2,_⟩:=xY (xs:=xs) (n:=n) (EE (cz c2));exact ⟨H3.ext,none,0,(by rw [e1,e2]; rfl),(by rw [e2]; exact ⟨[],.inr (.inl ⟨Z,Z,Z⟩),.nil,by simp⟩)⟩
  ·refine ag ?_;have hok2:=ay c2;have dl:=lE (n:=n) h4 i;have bl:(ub n xs i).length=4:=by rw [Bs hok2]; exact tx h4
   refine aj (sR 2 Z (oP (wn Z) Z aH aR Z Z Z H3 0 Z (H3.mine 1 Z) (by (try simp only [List.length_nil]); unfold maxLen; omega) (by (try simp only [List.length_nil]); omega) (fun v2 w4 fp2 H4=>sA Z Z (aa (aj (sM Z Z (sV Z (aw Z Z iO) (sA Z Z (aa ?_)))))))));have hz:=(H4.dtake 1);rw [Bs hok2,decAt,mP] at hz;refine ⟨(i+1,_,_),⟨Z,Z,Z,Z,trivial⟩,⟨hz,by omega,fun _=>hok2⟩,by dsimp only; omega⟩
 ·refine aD (ab (sR 3 Z (aa (cj (hQ _ _ (jx results332 Z Z ?_))))));obtain rfl:n=i:=by omega
  have e1:=hok (by omega);have e2:=Eu e1;obtain ⟨qa,qc,qq⟩:=aB (H2.mine 0 Z);cases qq;exact ⟨H2.ext,qa,qc,(by rw [e1,e2]),(by rw [e2]; exact H2.out 0 Z)⟩
end Go.Wk
namespace Go.Wk
open Go.Proofs Rp Go.Proofs.Tryz
set_option maxRecDepth 10000
theorem lP {w:World}{s:Shape}(hs:s.ok=true):Ret Tryz.prog 244 #[s.v] w fun v w'=>Ext No w w'∧(v = .agg #[.int .i64 (s.Data.toNat:Nat),.int .i64 (s.Spare.toNat:Nat)]):=by
 have sbd:=bi hs;refine aA (vs:=[s.v]) func244 Z ntmps244 Z (fun Q hQ hN=>?_);have H0:=Sep.start (w:=w) (F:=[]) (by simp);refine ab (aV (wn Z) Z Z H0 (fun b1 w1 e1 g1 H1=>cI (wn Z) Z zeroValue226 H1 (fun b2 w2 e2 g2 H2=>aa (ab (sF be Z ts2 (sLd tu2 (H2.box 0 Z) Z (sF be Z ts2 (sLd tu2 (H2.box 0 Z) Z (sV Z (dH yQ Z Z) (bE (wn Z) vi Z Z Z Z H2 1 Z Z (fun w3 e3 H3=>?_)))))))))));dsimp only[lNA,lCA,lSZ,lSS,bk] at H3;refine aa (cj (hQ _ _ (jz results244 Z (bh kL Z vi Z (At.whole (H3.box 1 Z))) (⟨H3.ext,?_⟩))));rw [Int.toNat_of_nonneg (by omega),Int.toNat_of_nonneg (by omega)]
 rfl
theorem kc {w:World}{zb zC9 zC10 zC11:Nat}{z:Wld}{zA9 zA10 zA11:Option Addr}{zF9 zF10 zF11:List Nat}{g row:Int}(zB:w.heap[zb]? = some (.cells [.int .i64 z.Shape.Groups,.int .i64 z.Shape.Column,.int .i64 z.Shape.Data,.int .i64 z.Shape.Spare,.int .i64 z.Shape.Rows,.int .i64 z.Shape.Cap,.int .i64 z.Shape.Batch,.int .i64 z.Shape.Queue,.int .i64 z.Shape.Stage,.slice zA9 z.Groups.length zC9,.slice zA10 z.On.length zC10,.slice zA11 z.Tapes.length zC11,.int .i64 z.Writes,.int .i64 z.Stop,.bool z.Down].toArray 34)) (zK:z.Ok) (zO9:own false w [.slice zA9 z.Groups.length zC9] z.Groups zF9) (zO10:own false w [.slice zA10 z.On.length zC10] z.On zF10) (zO11:own false w [.slice zA11 z.Tapes.length zC11] z.Tapes zF11) (hs:z.Shape.ok=true) (hG:bR z=true) (hg:ins g 0 (z.Shape.Groups+z.Shape.Column-1)=true) (hr:ins row 0 (z.Shape.Rows-1)=true):Ret Tryz.prog 255 #[.pointer (some ⟨zb,0,none⟩),.int .i64 g,.int .i64 row] w fun v w'=>Ext No w w'∧(∃ fp,own false w' [v] (hC z g row) fp∧∀ b∈fp,b∈zF9∨w.heap.size≤b):=by
 have zK2:=zK;unfold Wld.Ok Shape.Ok at zK2
 try unfold I64ok at zK2
 try unfold maxLen at zK2
 have zL9:=oL zO9;have zL10:=oL zO10;have zL11:=oL zO11;have sbd:=bi hs;have hgg:=iP hG;have hgl:=hgg.1;have hgi:=bM.1 hg;obtain ⟨hdl,hdd⟩:=hgg.2 g.toNat (by omega);have hri:=bM.1 hr;refine aA (vs:=[.pointer (some ⟨zb,0,none⟩),.int .i64 g,.int .i64 row]) func255 Z ntmps255 Z (fun Q hQ hN=>?_);have H0:=Sep.start (w:=w) (F:=[box zb (.cells [.int .i64 z.Shape.Groups,.int .i64 z.Shape.Column,.int .i64 z.Shape.Data,.int .i64 z.Shape.Spare,.int .i64 z.Shape.Rows,.int .i64 z.Shape.Cap,.int .i64 z.Shape.Batch,.int .i64 z.Shape.Queue,.int .i64 z.Shape.Stage,.slice zA9 z.Groups.length zC9,.slice zA10 z.On.length zC10,.slice zA11 z.Tapes.length zC11,.int .i64 z.Writes,.int .i64 z.Stop,.bool z.Down].toArray 34),seen false [.slice zA9 z.Groups.length zC9] z.Groups zF9,seen false [.slice zA10 z.On.length zC10] z.On zF10,seen false [.slice zA11 z.Tapes.length zC11] z.Tapes zF11]) (ae (by exact zB) (ae zO9 (ae zO10 (ae zO11 (by simp)))));refine ab (sA Z Z (aa (ab (cZ (α:=View) (wn Z) Z bD bt H0 (fun b1 w1 e1 g1 H1=>sA Z Z (aa (ac (ac ?_))))))));obtain ⟨eb1,eo1,ea1,ek1,ef1,ee1,ec1,eO1,eH1⟩:=cE (H1.seen 1 Z) g.toNat (by omega);have eP1:=H1.look1 1 Z eO1 eH1;refine aj (sR 2 Z (sF bn Z lf (sLd eo (eP1.fbox 0 Z) Z (sM Z Z (sV Z (ao eo nj Z Z ee1 g.toNat (by omega) (by omega)) (sV Z (ah eI Z Z ec1) (sV Z (ax eI Z) (sM Z Z (aa (ai ?_))))))))));have H3:=eP1.noRows (β:=UInt8)
 try dsimp only[lNA,lCA,lSZ,lSS] at H3
 refine zJ (β:=UInt8) (γ:=Nat) (fun k=>iQ (z.Groups.getD g.toNat []) row.toNat k) 0 H3 0 Z 5 Z Z 7 Z (fun gg=>∀ b∈gg,b∈zF9) (by simp) [(2,_),(6,_),(17,_),(18,_)] ⟨Z,Z,Z,Z,trivial⟩ (fun k=>[(19,.int .i64 k)]) (fun k=>k≤(z.Groups.getD g.toNat []).length∧True) (fun k=>(z.Groups.getD g.toNat []).length-k) ⟨Z,trivial⟩ ⟨by omega,trivial⟩ (fun k vA1 fA1 vs1 gA1 w2 H2 vl vg ⟨hk,_⟩=>?_);dsimp only[lCA,lNA,lSZ,lSS] at H2 ⊢;refine ab (sV Z (aI Z Z) (aa (ac (au Z (fun c1=>?_) (fun c1=>?_)))))
 ·refine ag (ac (ai (ac ?_)));obtain ⟨eb2,eo2,es1,ef2,ee2,ec2,eO2,eH2,em1⟩:=bf (H2.seen 4 Z) k (by omega);obtain ⟨ea2,ek2,eg1,rfl,eq1,eK1,eo3⟩:=dG eO2;have eP2:=H2.look1 4 Z eo3 (fun b hb=>eH2 b (by rw [eq1]; simp [hb]));have eL1:=oL eo3;refine aj (sV Z (ao eI iy Z Z ee2 k (by omega) (by omega)) (sV Z (an iC Z iy Z Z ec2) (cI (wn Z) Z zeroValue62 eP2 (fun b2 w3 e2 g2 H4=>bE (wn Z) iy Z Z Z Z H4 1 Z Z (fun w4 e3 H5=>?_)))));dsimp only[lNA,lCA,lSZ,lSS,bk] at H5;refine aa (ab (sF iC Z ts4 (sLd tu4 (H5.box 1 Z) Z (aa (bz Z (fun c2=>?_) (fun c2=>?_))))))
  ·have bl:=od (G:=(z.Groups.getD g.toNat [])) (row:=row.toNat) (k:=k);refine aj (sM Z Z (eC (wn Z) Z bD bt Z Z Z Z H5 (fun b3 w5 e4 g3 H6=>?_)));have H8:=H6.nilF (β:=UInt8)
   try dsimp only[lNA,lCA,lSZ,lSS] at H8
   refine fj (α:=View) (u:=⟨_,_,_⟩) (wn Z) Z bD bt Z Z Z H8 0 2 Z Z ⟨Z,Z⟩ (by unfold maxLen; omega) (by omega) (fun v1 w6 fp1 H7=>?_)
   try dsimp only[lNA,lCA,lSZ,lSS] at H7
   obtain ⟨rg1,H9,rh1⟩:=H7.rowApp (y:=([]:List UInt8)) 5 7 Z Z (by first | assumption | omega)
   try dsimp only[lNA,lCA,lSZ,lSS] at H9
   refine sA Z Z (aa (aj (sV Z (aw Z Z iO) (sM Z Z (aa ?_)))));have bq:=su (row:=row.toNat) c2;rw [← bq] at H9;exact ⟨(k+1,_,_,_,_),⟨Z,Z,Z,Z,Z,Z,trivial⟩,⟨((H9.ftake 6).dtake 1),by rw [bq,List.length_append,List.length_append,vl]; rfl,(fun b hb=>(rh1 b hb).elim (vg b) (fun h=>absurd h (by simp))),by omega,trivial⟩,by dsimp only; omega⟩
  ·have bl:=od (G:=(z.Groups.getD g.toNat [])) (row:=row.toNat) (k:=k);have hbl:=hdd k (by omega);obtain ⟨eb3,eo4,es2,ef3,ee3,ec3,eO3,eH3,em2⟩:=bf (H5.seen 6 Z) row.toNat (by omega);obtain ⟨ea3,ek3,eg2,rfl,eq2,eK2,eo5⟩:=eP eO3;have eK2U:=eK2;unfold Block.Ok at eK2U
   try unfold I64ok at eK2U
   try unfold maxLen at eK2U
   have eP3:=H5.look1 6 Z eo5 (fun b hb=>eH3 b (by rw [eq2]; simp [hb]));have eL2:=oL eo5;refine aj (sM Z Z (sF iC Z rX (sLd gt (eP3.box 1 Z) Z (sM Z Z (sV Z (ao gt kO Z Z ee3 row.toNat (by omega) (by omega)) (sF jC Z aW (sV Z (ah aH Z Z (bW ec3 1 Z)) (eC (wn Z) Z bD bt Z Z Z Z eP3 (fun b4 w7 e5 g4 H10=>fj (α:=View) (u:=⟨_,_,_⟩) (wn Z) Z bD bt Z Z Z H10 0 2 Z Z ⟨Z,Z⟩ (by unfold maxLen; omega) (by omega) (fun v2 w8 fp2 H11=>?_))))))))))
   try dsimp only[lNA,lCA,lSZ,lSS] at H11
   obtain ⟨rg2,H12,rh2⟩:=H11.rowApp 5 7 Z Z (by first | assumption | omega)
   try dsimp only[lNA,lCA,lSZ,lSS] at H12
   refine sA Z Z (aa (aj (sV Z (aw Z Z iO) (sM Z Z (aa ?_)))));have bq:=uW (row:=row.toNat) c2;rw [← bq] at H12;exact ⟨(k+1,_,_,_,_),⟨Z,Z,Z,Z,Z,Z,trivial⟩,⟨((H12.ftake 6).dtake 1),by rw [bq,List.length_append,List.length_append,vl]; rfl,(fun b hb=>(rh2 b hb).elim (vg b) (fun h=>eH1 _ (eH2 _ (by rw [eq1]; exact eH3 _ (by rw [eq2]; exact h))))),by omega,trivial⟩,by dsimp only; omega⟩
 ·refine aD (ab (sR 2 Z (rN hQ results255 Z ?_)));obtain rfl:k=(z.Groups.getD g.toNat []).length:=by omega
  obtain ⟨fpV,HV,hfV⟩:=H2.viewsIn 0 5 Z Z vl;exact ⟨H2.ext,fpV,(HV.seen 6 Z),fun b hb=>(hfV b hb).elim (fun h => .inr (H2.freshD 0 Z b h)) (fun h => .inl (vg b h))⟩
theorem jm {w:World}{zb zC9 zC10 zC11:Nat}{z:Wld}{zA9 zA10 zA11:Option Addr}{zF9 zF10 zF11:List Nat}{g row:Int}(zB:w.heap[zb]? = some (.cells [.int .i64 z.Shape.Groups,.int .i64 z.Shape.Column,.int .i64 z.Shape.Data,.int .i64 z.Shape.Spare,.int .i64 z.Shape.Rows,.int .i64 z.Shape.Cap,.int .i64 z.Shape.Batch,.int .i64 z.Shape.Queue,.int .i64 z.Shape.Stage,.slice zA9 z.Groups.length zC9,.slice zA10 z.On.length zC10,.slice zA11 z.Tapes.length zC11,.int .i64 z.Writes,.int .i64 z.Stop,.bool z.Down].toArray 34)) (zK:z.Ok) (zO9:own false w [.slice zA9 z.Groups.length zC9] z.Groups zF9) (zO10:own false w [.slice zA10 z.On.length zC10] z.On zF10) (zO11:own false w [.slice zA11 z.Tapes.length zC11] z.Tapes zF11) (hs:z.Shape.ok=true) (hG:bR z=true) (hg:ins g 0 (z.Shape.Groups+z.Shape.Column-1)=true) (hr:ins row 0 (z.Shape.Rows-1)=true):Ret Tryz.prog 151 #[.pointer (some ⟨zb,0,none⟩),.int .i64 g,.int .i64 row] w fun v w'=>Ext No w w'∧(Res w w' [v] (vM z g row)):=by
 have zK2:=zK;unfold Wld.Ok Shape.Ok at zK2
 try unfold I64ok at zK2
 try unfold maxLen at zK2
 have zL9:=oL zO9;have zL10:=oL zO10;have zL11:=oL zO11;have sbd:=bi hs;have hgg:=iP hG;have hgl:=hgg.1;have hgi:=bM.1 hg;obtain ⟨hdl,hdd⟩:=hgg.2 g.toNat (by omega);have hri:=bM.1 hr;obtain ⟨pl,pp,pd⟩:=rt (row:=row) hs hG hg hr;refine aA (vs:=[.pointer (some ⟨zb,0,none⟩),.int .i64 g,.int .i64 row]) func151 Z ntmps151 Z (fun Q hQ hN=>?_);have H0:=Sep.start (w:=w) (F:=[box zb (.cells [.int .i64 z.Shape.Groups,.int .i64 z.Shape.Column,.int .i64 z.Shape.Data,.int .i64 z.Shape.Spare,.int .i64 z.Shape.Rows,.int .i64 z.Shape.Cap,.int .i64 z.Shape.Batch,.int .i64 z.Shape.Queue,.int .i64 z.Shape.Stage,.slice zA9 z.Groups.length zC9,.slice zA10 z.On.length zC10,.slice zA11 z.Tapes.length zC11,.int .i64 z.Writes,.int .i64 z.Stop,.bool z.Down].toArray 34),seen false [.slice zA9 z.Groups.length zC9] z.Groups zF9,seen false [.slice zA10 z.On.length zC10] z.On zF10,seen false [.slice zA11 z.Tapes.length zC11] z.Tapes zF11]) (ae (by exact zB) (ae zO9 (ae zO10 (ae zO11 (by simp)))));refine ab (sA Z Z (aa (ab (sR 2 Z (sF bn Z bV (sV Z (an be Z bV Z Z (At.sub (H0.fbox 0 Z) 9)) (sE func244 yk Z (lP (by assumption)) H0 (fun w1 e1 H1=>sR 3 Z (sC func255 yn Z (kc (H1.fbox 0 Z) (by assumption) (bu (H1.seen 1 Z)) (bu (H1.seen 2 Z)) (bu (H1.seen 3 Z)) (by assumption) (by assumption) (by assumption) (by assumption)) (fun v2 w2 r2=>?_))))))))));obtain ⟨e2,fpS1,oS1,hS1⟩:=r2;have H2:=H1.lookS e2 1 Z oS1 hS1;obtain ⟨a1,k1,q1⟩:=aB (H2.seen 4 Z);cases q1;refine sC func257 wN Z (jg (n:=z.Shape.Data.toNat) (s:=z.Shape.Spare.toNat) (by omega) pl pp (H2.sees 4 Z)) (fun v3 w3 r3=>?_);obtain ⟨e3,sa1,sk1,rfl,r3⟩:=r3;obtain ⟨fp1,H3⟩:=H2.res e3 r3;refine sR 5 Z (aa (ab (sR 2 Z (rN hQ results151 Z ?_))));exact ⟨H3.ext,H3.out 0 Z⟩
theorem nC {w:World}{zb zC9 zC10 zC11:Nat}{z:Wld}{zA9 zA10 zA11:Option Addr}{g row:Int}(zB:w.heap[zb]? = some (.cells [.int .i64 z.Shape.Groups,.int .i64 z.Shape.Column,.int .i64 z.Shape.Data,.int .i64 z.Shape.Spare,.int .i64 z.Shape.Rows,.int .i64 z.Shape.Cap,.int .i64 z.Shape.Batch,.int .i64 z.Shape.Queue,.int .i64 z.Shape.Stage,.slice zA9 z.Groups.length zC9,.slice zA10 z.On.length zC10,.slice zA11 z.Tapes.length zC11,.int .i64 z.Writes,.int .i64 z.Stop,.bool z.Down].toArray 34)) (zK:z.Ok) (zS9:Sees w [.slice zA9 z.Groups.length zC9] z.Groups) (zS10:Sees w [.slice zA10 z.On.length zC10] z.On) (zS11:Sees w [.slice zA11 z.Tapes.length zC11] z.Tapes) (hs:z.Shape.ok=true) (hG:bR z=true) (hg:ins g 0 (z.Shape.Groups+z.Shape.Column-1)=true) (hr:ins row 0 (z.Shape.Rows-1)=true):Ret Tryz.prog 220 #[.pointer (some ⟨zb,0,none⟩),.int .i64 g,.int .i64 row] w fun v w'=>Ext No w w'∧(∃ A C,v = .tuple #[.slice A (vM z g row).length C,.bool (!ip z g)]∧Res w w' [.slice A (vM z g row).length C] (vM z g row)):=by
 have zK2:=zK;unfold Wld.Ok Shape.Ok at zK2
 try unfold I64ok at zK2
 try unfold maxLen at zK2
 have zL9:=sL zS9;obtain ⟨zF9,zO9⟩:=zS9;have zL10:=sL zS10;obtain ⟨zF10,zO10⟩:=zS10;have zL11:=sL zS11;obtain ⟨zF11,zO11⟩:=zS11;have sbd:=bi hs;have hgg:=iP hG;have hgl:=hgg.1;have hgi:=bM.1 hg;obtain ⟨hdl,hdd⟩:=hgg.2 g.toNat (by omega);have hri:=bM.1 hr;obtain ⟨pl,pp,pd⟩:=rt (row:=row) hs hG hg hr;refine aA (vs:=[.pointer (some ⟨zb,0,none⟩),.int .i64 g,.int .i64 row]) func220 Z ntmps220 Z (fun Q hQ hN=>?_);have H0:=Sep.start (w:=w) (F:=[box zb (.cells [.int .i64 z.Shape.Groups,.int .i64 z.Shape.Column,.int .i64 z.Shape.Data,.int .i64 z.Shape.Spare,.int .i64 z.Shape.Rows,.int .i64 z.Shape.Cap,.int .i64 z.Shape.Batch,.int .i64 z.Shape.Queue,.int .i64 z.Shape.Stage,.slice zA9 z.Groups.length zC9,.slice zA10 z.On.length zC10,.slice zA11 z.Tapes.length zC11,.int .i64 z.Writes,.int .i64 z.Stop,.bool z.Down].toArray 34),seen false [.slice zA9 z.Groups.length zC9] z.Groups zF9,seen false [.slice zA10 z.On.length zC10] z.On zF10,seen false [.slice zA11 z.Tapes.length zC11] z.Tapes zF11]) (ae (by exact zB) (ae zO9 (ae zO10 (ae zO11 (by simp)))));refine ab (sR 2 Z (aa (ab (cZ (α:=View) (wn Z) Z bD bt H0 (fun b1 w1 e1 g1 H1=>sA Z Z (aa (ac (ab (sA Z Z (aa (ai ?_)))))))))));have H3:=H1.noRows (β:=UInt8)
 try dsimp only[lNA,lCA,lSZ,lSS] at H3
 refine zJ (β:=UInt8) (γ:=Nat) (fun k=>iQ (z.Groups.getD g.toNat []) row.toNat k) 0 H3 0 Z 4 Z Z 8 Z (fun _=>True) trivial [(0,_),(1,_),(2,_),(6,_),(7,_)] ⟨Z,Z,Z,Z,Z,trivial⟩ (fun k=>[(9,.int .i64 k)]) (fun k=>k≤(z.Groups.getD g.toNat []).length∧True) (fun k=>(z.Groups.getD g.toNat []).length-k) ⟨Z,trivial⟩ ⟨by omega,trivial⟩ (fun k vA1 fA1 vs1 gA1 w2 H2 vl vg ⟨hk,_⟩=>?_);dsimp only[lCA,lNA,lSZ,lSS] at H2 ⊢;refine ac (ac ?_);obtain ⟨eb1,eo1,ea1,ek1,ef1,ee1,ec1,eO1,eH1⟩:=cE (H2.seen 1 Z) g.toNat (by omega);have eP1:=H2.look1 1 Z eO1 eH1;refine aj (sR 3 Z (sF bn Z lf (sLd eo (eP1.fbox 0 Z) Z (sM Z Z (sV Z (ao eo nj Z Z ee1 g.toNat (by omega) (by omega)) (sV Z (ah eI Z Z ec1) (sV Z (ax eI Z) (sV Z (aI Z Z) (aa (au Z (fun c1=>?_) (fun c1=>?_)))))))))))
 ·refine ag (ac (ai (ac ?_)));obtain ⟨eb2,eo2,ea2,ek2,ef2,ee2,ec2,eO2,eH2⟩:=cE (eP1.seen 1 Z) g.toNat (by omega);have eP2:=eP1.look1 1 Z eO2 eH2;obtain ⟨eb3,eo3,es1,ef3,ee3,ec3,eO3,eH3,em1⟩:=bf (eP2.seen 6 Z) k (by omega);obtain ⟨ea3,ek3,eg1,rfl,eq1,eK1,eo4⟩:=dG eO3;have eP3:=eP2.look1 6 Z eo4 (fun b hb=>eH3 b (by rw [eq1]; simp [hb]));have eL1:=oL eo4;refine aj (sR 2 Z (sF bn Z lf (sLd eo (eP3.fbox 0 Z) Z (sM Z Z (sV Z (ao eo nj Z Z ee2 g.toNat (by omega) (by omega)) (sV Z (ah eI Z Z ec2) (sM Z Z (sV Z (ao eI iy Z Z ee3 k (by omega) (by omega)) (sF iC Z ts4 (sV Z (ah tu4 Z Z (bW ec3 0 Z)) (aa (bz Z (fun c2=>?_) (fun c2=>?_)))))))))))))
  ·have bl:=od (G:=(z.Groups.getD g.toNat [])) (row:=row.toNat) (k:=k);refine aj (sM Z Z (eC (wn Z) Z bD bt Z Z Z Z eP3 (fun b2 w3 e2 g2 H4=>?_)));have H6:=H4.nilF (β:=UInt8)
   try dsimp only[lNA,lCA,lSZ,lSS] at H6
   refine fj (α:=View) (u:=⟨_,_,_⟩) (wn Z) Z bD bt Z Z Z H6 0 1 Z Z ⟨Z,Z⟩ (by unfold maxLen; omega) (by omega) (fun v1 w4 fp1 H5=>?_)
   try dsimp only[lNA,lCA,lSZ,lSS] at H5
   obtain ⟨rg1,H7,rh1⟩:=H5.rowApp (y:=([]:List UInt8)) 4 8 Z Z (by first | assumption | omega)
   try dsimp only[lNA,lCA,lSZ,lSS] at H7
   refine sA Z Z (aa (aj (sM Z Z (sV Z (aw Z Z iO) (sA Z Z (aa ?_))))));have bq:=su (row:=row.toNat) c2;rw [← bq] at H7;exact ⟨(k+1,_,_,_,_),⟨Z,Z,Z,Z,Z,Z,Z,trivial⟩,⟨((H7.ftake 5).dtake 1),by rw [bq,List.length_append,List.length_append,vl]; rfl,trivial,by omega,trivial⟩,by dsimp only; omega⟩
  ·have bl:=od (G:=(z.Groups.getD g.toNat [])) (row:=row.toNat) (k:=k);have hbl:=hdd k (by omega);obtain ⟨eb4,eo5,ea4,ek4,ef4,ee4,ec4,eO4,eH4⟩:=cE (eP3.seen 1 Z) g.toNat (by omega);have eP4:=eP3.look1 1 Z eO4 eH4;obtain ⟨eb5,eo6,es2,ef5,ee5,ec5,eO5,eH5,em2⟩:=bf (eP4.seen 8 Z) k (by omega);obtain ⟨ea5,ek5,eg2,rfl,eq2,eK2,eo7⟩:=dG eO5;have eP5:=eP4.look1 8 Z eo7 (fun b hb=>eH5 b (by rw [eq2]; simp [hb]));have eL2:=oL eo7;obtain ⟨eb6,eo8,es3,ef6,ee6,ec6,eO6,eH6,em3⟩:=bf (eP5.seen 9 Z) row.toNat (by omega);obtain ⟨ea6,ek6,eg3,rfl,eq3,eK3,eo9⟩:=eP eO6;have eK3U:=eK3;unfold Block.Ok at eK3U
   try unfold I64ok at eK3U
   try unfold maxLen at eK3U
   have eP6:=eP5.look1 9 Z eo9 (fun b hb=>eH6 b (by rw [eq3]; simp [hb]));have eL3:=oL eo9;refine aj (sR 3 Z (sF bn Z lf (sLd eo (eP6.fbox 0 Z) Z (sM Z Z (sV Z (ao eo nj Z Z ee4 g.toNat (by omega) (by omega)) (sV Z (ah eI Z Z ec4) (sM Z Z (sV Z (ao eI iy Z Z ee5 k (by omega) (by omega)) (sF iC Z rX (sV Z (ah gt Z Z (bW ec5 1 Z)) (sM Z Z (sV Z (ao gt kO Z Z ee6 row.toNat (by omega) (by omega)) (sF jC Z aW (sV Z (ah aH Z Z (bW ec6 1 Z)) (eC (wn Z) Z bD bt Z Z Z Z eP6 (fun b3 w5 e3 g3 H8=>fj (α:=View) (u:=⟨_,_,_⟩) (wn Z) Z bD bt Z Z Z H8 0 1 Z Z ⟨Z,Z⟩ (by unfold maxLen; omega) (by omega) (fun v2 w6 fp2 H9=>?_)))))))))))))))))
   try dsimp only[lNA,lCA,lSZ,lSS] at H9
   obtain ⟨rg2,H10,rh2⟩:=H9.rowApp 4 10 Z Z (by first | assumption | omega)
   try dsimp only[lNA,lCA,lSZ,lSS] at H10
   refine sA Z Z (aa (aj (sM Z Z (sV Z (aw Z Z iO) (sA Z Z (aa ?_))))));have bq:=uW (row:=row.toNat) c2;rw [← bq] at H10;exact ⟨(k+1,_,_,_,_),⟨Z,Z,Z,Z,Z,Z,Z,trivial⟩,⟨((H10.ftake 5).dtake 1),by rw [bq,List.length_append,List.length_append,vl]; rfl,trivial,by omega,trivial⟩,by dsimp only; omega⟩
 ·refine aD (ac ?_);obtain rfl:k=(z.Groups.getD g.toNat []).length:=by omega
  obtain ⟨pA,pC,pq⟩:=aB (eP1.mine 0 Z);rw [vl,show (iQ (z.Groups.getD g.toNat []) row.toNat (z.Groups.getD g.toNat []).length).length=(hC z g row).length from by rw [hC]] at pq;cases pq;obtain ⟨tf,HV,_⟩:=eP1.viewsIn 0 4 Z Z vl
  try dsimp only[lNA,lCA,lSZ,lSS] at HV
  refine aj (sR 2 Z (sF bn Z bV (sF be Z ts2 (sLd tu2 (HV.fbox 0 Z) Z (sM Z Z (sC func332 xv Z (by have hS:Sees _ [.slice pA (hC z g row).length pC] (hC z g row):=HV.sees 6 Z; have lc:=mX (n:=z.Shape.Data.toNat) (s:=z.Shape.Spare.toNat) (xs:=hC z g row) (by omega) pl pp hS; rw [Int.toNat_of_nonneg (show 0≤z.Shape.Data by omega)] at lc; exact lc) (fun v3 w7 r1=>?_)))))));obtain ⟨e4,sa1,sk1,rfl,r1⟩:=r1;obtain ⟨fp3,H11⟩:=HV.res e4 r1;refine sR 4 Z (aa (cj (hQ _ _ (jx results220 Z Z ?_))));exact ⟨H11.ext,_,_,(by rw [← pd]; rfl),H11.out 1 Z⟩
end Go.Wk
namespace Go.Wk
open Go.Proofs Rp Go.Proofs.Tryz
set_option maxRecDepth 10000
theorem iV {w:World}{zb zC9 zC10 zC11:Nat}{z:Wld}{zA9 zA10 zA11:Option Addr}{g:Int}(zB:w.heap[zb]? = some (.cells [.int .i64 z.Shape.Groups,.int .i64 z.Shape.Column,.int .i64 z.Shape.Data,.int .i64 z.Shape.Spare,.int .i64 z.Shape.Rows,.int .i64 z.Shape.Cap,.int .i64 z.Shape.Batch,.int .i64 z.Shape.Queue,.int .i64 z.Shape.Stage,.slice zA9 z.Groups.length zC9,.slice zA10 z.On.length zC10,.slice zA11 z.Tapes.length zC11,.int .i64 z.Writes,.int .i64 z.Stop,.bool z.Down].toArray 34)) (zK:z.Ok) (zS9:Sees w [.slice zA9 z.Groups.length zC9] z.Groups) (zS10:Sees w [.slice zA10 z.On.length zC10] z.On) (zS11:Sees w [.slice zA11 z.Tapes.length zC11] z.Tapes) (hs:z.Shape.ok=true) (hG:bR z=true):Ret Tryz.prog 110 #[.pointer (some ⟨zb,0,none⟩),.int .i64 g] w fun v w'=>Ext No w w'∧(v = .int .i64 (ja z g)):=by
 have zK2:=zK;unfold Wld.Ok Shape.Ok at zK2
 try unfold I64ok at zK2
 try unfold maxLen at zK2
 have zL9:=sL zS9;obtain ⟨zF9,zO9⟩:=zS9;have zL10:=sL zS10;obtain ⟨zF10,zO10⟩:=zS10;have zL11:=sL zS11;obtain ⟨zF11,zO11⟩:=zS11;have sbd:=bi hs;refine aA (vs:=[.pointer (some ⟨zb,0,none⟩),.int .i64 g]) func110 Z ntmps110 Z (fun Q hQ hN=>?_);have H0:=Sep.start (w:=w) (F:=[box zb (.cells [.int .i64 z.Shape.Groups,.int .i64 z.Shape.Column,.int .i64 z.Shape.Data,.int .i64 z.Shape.Spare,.int .i64 z.Shape.Rows,.int .i64 z.Shape.Cap,.int .i64 z.Shape.Batch,.int .i64 z.Shape.Queue,.int .i64 z.Shape.Stage,.slice zA9 z.Groups.length zC9,.slice zA10 z.On.length zC10,.slice zA11 z.Tapes.length zC11,.int .i64 z.Writes,.int .i64 z.Stop,.bool z.Down].toArray 34),seen false [.slice zA9 z.Groups.length zC9] z.Groups zF9,seen false [.slice zA10 z.On.length zC10] z.On zF10,seen false [.slice zA11 z.Tapes.length zC11] z.Tapes zF11]) (ae (by exact zB) (ae zO9 (ae zO10 (ae zO11 (by simp)))));refine ab (sA Z Z (aa (ab (sR 2 Z (sE func86 AJ Z (iF (H0.fbox 0 Z) (by assumption) (H0.sees 1 Z) (H0.sees 2 Z) (H0.sees 3 Z) (by assumption)) H0 (fun w1 e1 H1=>sA Z Z (aa (ac (ac ?_)))))))));have hgz:=fun h=>(vb (z:=z) (g:=g) h).1
 refine aj (sR 3 Z (bp 3 (j:=2) (want:=true) (t:=14) Z Z Z Z (fun hg1 kk1=>ak (wgE Z Z Z hg1) Z Z (aG Z) (ak (wgE Z Z Z hg1) Z Z (aG Z) (co (wgE Z Z Z hg1) Z Z (aO func150 Z wx Z) (lg (H1.fbox 0 Z) (by assumption) (H1.sees 1 Z) (H1.sees 2 Z) (H1.sees 3 Z) (by first | assumption | exact hgz (by simp_all)) (by first | assumption | exact hgz (by simp_all)) (by first | assumption | exact hgz (by simp_all))) (fun w3 e3=>kk1 _ _ (kx Z (kx Z (kx Z k0))) Z (Ext.refl.trans e3))))) (fun w2 e2=>?_)));have H2:=H1.to e2;refine sV Z (aY Z Z) (aa (bz Z (fun c1=>?_) (fun c1=>?_)))
 ·refine aj (sA Z Z (aa (ab (sR 2 Z (rN hQ results110 Z ?_)))));exact ⟨H2.ext,congrArg (Value.int .i64) (by unfold ja; (repeat' split)<;>first | rfl | omega | simp_all)⟩
 ·refine ag (ab (sR 2 Z (rN hQ results110 Z ?_)));exact ⟨H2.ext,congrArg (Value.int .i64) (by unfold ja; (repeat' split)<;>first | rfl | omega | simp_all)⟩
end Go.Wk
namespace Go.Wk
open Rp (sz own)
theorem vt {b:ByteArray}(h:aT b=0):b.size≤8:=by
  unfold aT at h
  split at h
  · next e=>
    simp only [iK,Bool.and_eq_true,decide_eq_true_eq] at e
    omega
  · omega
end Go.Wk
namespace Go.Wk
open Rp (sz own)
section
variable {P:Program}{n:Nat}{L:Env}{w:World}{d:Option Tmp}{ty:TypeId}{p:String}{af:Array Edge}{g:Option (Nat × Bool)}
theorem Cf {t e:TypeId}{x hi mx:Operand}{ad:Option Addr}{len cap s:Nat}{k2 k3:IntKind}{h m:Int}(hu:P.underlying t=some (.slice e)) (hs:∀ w,(sizeOf e).run P w = .ok s w)
    (hx:evL L x=some (.slice ad len cap)) (hh:evL L hi=some (.int k2 h)) (hm:evL L mx=some (.int k3 m)) (h' m':Nat) (eh:h=h') (em:m=m') (h2:h'≤m') (h3:m'≤cap) :
    Py P n L w ⟨d,.slice t x none (some hi) (some mx),ty,p,af,g⟩ (.slice (slA ad 0 m' s) (h'-0) (m'-0)):=fun a ha=>by
  obtain ⟨hu',he⟩:=un hu
  have:=run_slice_hm (P:=P) w t ad len cap hu' k2 k3 h m (by omega) (by omega) (by omega)
  rw [he,hs] at this
  subst eh em
  simp [execOp,ha.eval hx,ha.eval hh,ha.eval hm,run_sliceAt_slice w t _ _ _ _ hu',this,Result.andThen,sliced,slA]
end
theorem mj {w:World}:∀ {xs:List UInt8}{cs f0} (i:Nat),bG true w cs xs f0→bG true w cs (xs.take i) []∧f0=[]
  | [],_,_,i,h=>by rw [List.take_nil]; exact ⟨rfl,h⟩
  | v::vs,cs,f0,0,⟨g1,g2,e0,⟨e1,eg⟩,h2⟩=>by
    have:=(mj 0 h2).2
    exact ⟨rfl,by rw [e0,eg,this]; rfl⟩
  | v::vs,cs,f0,i+1,⟨g1,g2,e0,⟨e1,eg⟩,h2⟩=>by
    obtain ⟨h3,h4⟩:=mj i h2
    exact ⟨⟨[],[],rfl,⟨e1,rfl⟩,h3⟩,by rw [e0,eg,h4]; rfl⟩
theorem zZ {w:World}{A:Option Addr}{n c i m:Nat}{xs:List UInt8}{fp:List Nat}(h:own true w [.slice A n c] xs fp) (hi:i≤xs.length) (hm:i≤m) (hc:m≤c):own true w [.slice (slA A 0 m 1) (i-0) (m-0)] (xs.take i) fp:=by
  rcases h with ⟨hf,_⟩ | ⟨e,rfl,rfl⟩ | ⟨b,o,cap',cur,T,fr,fs,h1,h2,h3,h4,h5,h6,h7,h8⟩
  · cases hf
  · simp only [List.cons.injEq,Value.slice.injEq,and_true] at e
    obtain ⟨rfl,rfl,rfl⟩:=e
    have e1:i=0:=by simpa using hi
    have e2:m=0:=by omega
    subst e1 e2
    exact .inr (.inl ⟨rfl,rfl,rfl⟩)
  · simp only [List.cons.injEq,Value.slice.injEq,and_true] at h1
    obtain ⟨rfl,rfl,rfl⟩:=h1
    have hl:(xs.take i).length=i:=by rw [List.length_take]; omega
    have eA:slA (some (⟨b,o,none⟩:Addr)) 0 m 1=some ⟨b,o,none⟩:=by unfold slA; split<;>rfl
    obtain ⟨h9,rfl⟩:=mj i h8
    refine .inr (.inr ⟨b,o,m,cur,T,fr,[],by rw [eA,hl]; rfl,h2,h3,h4,by omega,by omega,?_,h9⟩)
    have:=Nat.mul_le_mul_right (sz UInt8) hc
    omega
theorem sN {w w':World}{A:Option Addr}{n c i m:Nat}{xs:List UInt8}(h:Res w w' [.slice A n c] xs) (hi:i≤xs.length) (hm:i≤m) (hc:m≤c):Res w w' [.slice (slA A 0 m 1) (i-0) (m-0)] (xs.take i):=by
  obtain ⟨fp,h1,h2,h3⟩:=h
  exact ⟨fp,zZ h1 hi hm hc,h2,h3⟩
def rowsTo (z:Wld) (g:Int) (rows:List Int):Nat→List UInt8
  | 0=>[]
  | k+1=>rowsTo z g rows k++vM z g (rows.getD k 0)
def qL (z:Wld) (g:Int) (rows:List Int):Nat→List (List UInt8)
  | 0=>[]
  | k+1=>qL z g rows k++[vM z g (rows.getD k 0)]
def RowsIn (z:Wld) (rows:List Int):Prop:=∀ i,i<rows.length→ins (rows.getD i 0) 0 (z.Shape.Rows-1)=true
section
variable {z:Wld}{g:Int}{rows:List Int}{k:Nat}{r:Rec}{nm:ByteArray}{s:Shape}
theorem gp:∀ {k},(qL z g rows k).flatten=rowsTo z g rows k
  | 0=>rfl
  | k+1=>by rw [qL,rowsTo,List.flatten_append,gp]; simp
theorem Ag:Do (qL z g rows k)=(rowsTo z g rows k).length:=by rw [← BV,gp]
theorem sK:∀ {k},(qL z g rows k).length=k
  | 0=>rfl
  | k+1=>by rw [qL,List.length_append,sK]; rfl
theorem kA (hs:z.Shape.ok=true) (hG:bR z=true) (hg:ins g 0 (z.Shape.Groups+z.Shape.Column-1)=true) (hd:ip z g=false) (hi:RowsIn z rows):∀ {k},k≤rows.length→((rowsTo z g rows k).length:Int)=k*(z.Shape.Data*4)
  | 0,_=>by simp [rowsTo]
  | k+1,hk=>by
    have h1:=kA hs hG hg hd hi (k:=k) (by omega)
    have h2:=vF hs hG hg (hi k (by omega)) hd
    rw [rowsTo,List.length_append,Int.natCast_add,h1,h2,Int.natCast_add,Int.add_mul]
    simp
theorem t7 (hs:s.ok=true):ins (cS s nm) 0 (s.Groups+s.Column-1)=true:=by
  have sbd:=bi hs
  have h0:0≤kG nm nm.size:=(la _).1
  have h1:cS s nm=(kG nm nm.size) % s.Groups:=by unfold cS; rw [Int.tmod_eq_emod_of_nonneg h0]
  have h2:=Int.emod_nonneg (kG nm nm.size) (show s.Groups≠0 by omega)
  have h3:=Int.emod_lt_of_pos (kG nm nm.size) (show 0<s.Groups by omega)
  exact bM.2 (by omega)
theorem pj (hf:recF z.Shape r=0) (h1:r.Kind=1) (h2:r.Length ≠ -1):db z.Shape r.Length=0∧(0<r.Data.length→(r.Data.length:Int)=r.Length)∧(¬ 0<r.Data.length→(r.Rows.length:Int)=dp z.Shape r.Length∧RowsIn z r.Rows):=by
  have hi:dB z.Shape r=true:=by
    cases e:dB z.Shape r with
    | true=>rfl
    | false=>
      exfalso
      have hA:(if aT r.Name≠0 then aT r.Name else if dB z.Shape r=true then 0 else 3)≠(0:Int):=by
        by_cases n:aT r.Name=0
        · rw [if_neg (by simp [n]),e]; simp
        · rw [if_pos n]; exact n
      unfold recF eq at hf
      rw [if_pos h1,if_pos hA] at hf
      split at hf
      · split at hf
        · exact hA hf
        · omega
      · omega
  unfold dB at hi
  rw [if_neg h2,Bool.and_eq_true,decide_eq_true_eq] at hi
  refine ⟨hi.1,fun h=>?_,fun h=>?_⟩
  · have:=hi.2
    rw [if_pos h,Bool.and_eq_true,decide_eq_true_eq] at this
    exact this.1
  · have:=hi.2
    rw [if_neg h,Bool.and_eq_true,decide_eq_true_eq] at this
    refine ⟨this.1,fun i hi=>?_⟩
    have h3:=nn this.2 i hi
    unfold apartAt at h3
    rw [Bool.and_eq_true] at h3
    exact h3.1
theorem qB (hs:s.ok=true) {len:Int}(h:1≤len):len≤dp s len*(s.Data*4)∧1≤dp s len:=by
  have sbd:=bi hs
  rw [dp,Int.tdiv_eq_ediv_of_nonneg (by omega)]
  have:s.Data=1∨s.Data=2∨s.Data=3:=by omega
  rcases this with e | e | e<;>rw [e]<;>omega
end
noncomputable def itB (z:Wld) (nm:ByteArray):List UInt8:=if 0<(itR z nm).Data.length then (itR z nm).Data else (rowsTo z (cS z.Shape nm) (itR z nm).Rows (itR z nm).Rows.length).take (itR z nm).Length.toNat
noncomputable def itC (z:Wld) (nm:ByteArray):Int:=if itO z nm=true then if 0<(itR z nm).Data.length then 0 else ja z (cS z.Shape nm) else 4
noncomputable def dc (z:Wld) (nm:ByteArray):BytesResult:=if upF z=0 then if aT nm=0 then if itC z nm=0 then ⟨0,itB z nm⟩ else ⟨itC z nm,[]⟩ else ⟨aT nm,[]⟩ else ⟨upF z,[]⟩
section
variable {z:Wld}{nm:ByteArray}
theorem vu (h:upF z≠0):dc z nm=⟨upF z,[]⟩:=if_neg h
theorem qI (h:upF z=0) (h2:aT nm≠0):dc z nm=⟨aT nm,[]⟩:=by rw [dc,if_pos h,if_neg h2]
theorem tJ (h:upF z=0) (h2:aT nm=0) (h3:itC z nm≠0):dc z nm=⟨itC z nm,[]⟩:=by rw [dc,if_pos h,if_pos h2,if_neg h3]
theorem uL (h:upF z=0) (h2:aT nm=0) (h3:itC z nm=0):dc z nm=⟨0,itB z nm⟩:=by rw [dc,if_pos h,if_pos h2,if_pos h3]
theorem uj (h:itO z nm=false):itC z nm=4:=by rw [itC,if_neg (by simp [h])]
theorem qR (h:itO z nm=true) (h2:0<(itR z nm).Data.length):itC z nm=0∧itB z nm=(itR z nm).Data:=⟨by rw [itC,if_pos h,if_pos h2],by rw [itB,if_pos h2]⟩
theorem rH (h:itO z nm=true) (h2:¬ 0<(itR z nm).Data.length):itC z nm=ja z (cS z.Shape nm)∧itB z nm=(rowsTo z (cS z.Shape nm) (itR z nm).Rows (itR z nm).Rows.length).take (itR z nm).Length.toNat:=⟨by rw [itC,if_pos h,if_neg h2],by rw [itB,if_neg h2]⟩
theorem wC:0≤itC z nm∧itC z nm≤10:=by
  unfold itC ja ep
  repeat' split
  all_goals omega
noncomputable def z1 (z:Wld) (nm:ByteArray):List UInt8:=if itC z nm=0 then itB z nm else []
theorem qb (h:itC z nm≠0):z1 z nm=[]:=if_neg h
theorem zr (h:itC z nm=0):z1 z nm=itB z nm:=if_pos h
theorem AP (h:upF z=0) (h2:aT nm=0):dc z nm=⟨itC z nm,z1 z nm⟩:=by
  rw [dc,if_pos h,if_pos h2,z1]
  split
  · next e=>rw [e]
  · rfl
theorem CN {g:Int}(hg:ins g 0 (z.Shape.Groups+z.Shape.Column-1)=true) (h:g ∉ z.On):ja z g=8:=by
  have e:ep z g=8:=by rw [ep,if_pos hg,if_neg h]
  rw [ja,if_neg (by omega),e]
theorem AK {g:Int}(hg:ins g 0 (z.Shape.Groups+z.Shape.Column-1)=true) (h:g∈z.On) (hd:ip z g=true):ja z g=10:=by
  have e:ep z g=0:=by rw [ep,if_pos hg,if_pos h]
  rw [ja,if_pos e,if_pos hd]
theorem Bc {g:Int}(hg:ins g 0 (z.Shape.Groups+z.Shape.Column-1)=true) (h:g∈z.On) (hd:ip z g=false):ja z g=0:=by
  have e:ep z g=0:=by rw [ep,if_pos hg,if_pos h]
  rw [ja,if_pos e,if_neg (by simp [hd])]
theorem B3:(dc z nm).Ok:=by
  have h1:=wC (z:=z) (nm:=nm)
  have h2:=wy (z:=z)
  have h3:=qZ (nm:=nm)
  unfold dc
  repeat' split
  all_goals (show I64ok _; unfold I64ok; dsimp only; omega)
theorem Ah (hb:ga z≤1048576):(dc z nm).Bytes.length≤1048576:=by
  unfold dc
  split
  · next hu=>
    split
    · split
      · next hc=>
        show (itB z nm).length≤_
        have hw:=(yS hu).1
        cases ho:itO z nm with
        | false=>rw [uj ho] at hc; omega
        | true=>
          obtain ⟨m1,m2,m3,m4⟩:=qd ho
          obtain ⟨f1,f2,f3⟩:=pj (oe hw m1) m3 m4
          have h1:=CA m1
          have h2:(itR z nm).Data.length≤cx (itR z nm):=by unfold cx; omega
          by_cases q:0<(itR z nm).Data.length
          · rw [(qR ho q).2]; omega
          · rw [(rH ho q).2,List.length_take]
            have h3:=jy f1
            have sbd:=bi (eN hw).1
            omega
      · show ([]:List UInt8).length≤_; simp
    · show ([]:List UInt8).length≤_; simp
  · show ([]:List UInt8).length≤_; simp
end
end Go.Wk
namespace Go.Wk
open Go.Proofs Rp Go.Proofs.Tryz
set_option maxRecDepth 10000
theorem jl {w:World}{zb zC9 zC10 zC11 rC6 rC7 rC8:Nat}{z:Wld}{zA9 zA10 zA11 rA6 rA7 rA8:Option Addr}{zF9 zF10 zF11:List Nat}{r:Rec}(zB:w.heap[zb]? = some (.cells [.int .i64 z.Shape.Groups,.int .i64 z.Shape.Column,.int .i64 z.Shape.Data,.int .i64 z.Shape.Spare,.int .i64 z.Shape.Rows,.int .i64 z.Shape.Cap,.int .i64 z.Shape.Batch,.int .i64 z.Shape.Queue,.int .i64 z.Shape.Stage,.slice zA9 z.Groups.length zC9,.slice zA10 z.On.length zC10,.slice zA11 z.Tapes.length zC11,.int .i64 z.Writes,.int .i64 z.Stop,.bool z.Down].toArray 34)) (zK:z.Ok) (zO9:own false w [.slice zA9 z.Groups.length zC9] z.Groups zF9) (zO10:own false w [.slice zA10 z.On.length zC10] z.On zF10) (zO11:own false w [.slice zA11 z.Tapes.length zC11] z.Tapes zF11) (rK:r.Ok) (rS6:Sees w [.slice rA6 r.Rows.length rC6] r.Rows) (rS7:Sees w [.slice rA7 r.Data.length rC7] r.Data) (rS8:Sees w [.slice rA8 r.Delta.length rC8] r.Delta) (hs:z.Shape.ok=true) (hG:bR z=true) (hd:ip z (cS z.Shape r.Name)=false) (hi:RowsIn z r.Rows) (hn8:r.Name.size≤8) (hlo:0≤r.Length) (hle:r.Length≤r.Rows.length*(z.Shape.Data*4)) (hrl:r.Rows.length≤1048576):Ret Tryz.prog 112 #[.pointer (some ⟨zb,0,none⟩),r.val rA6 rC6 rA7 rC7 rA8 rC8] w fun v w'=>Ext No w w'∧(Res w w' [v] ((rowsTo z (cS z.Shape r.Name) r.Rows r.Rows.length).take r.Length.toNat)):=by
 have zK2:=zK;unfold Wld.Ok Shape.Ok at zK2
 try unfold I64ok at zK2
 try unfold maxLen at zK2
 have zL9:=oL zO9;have zL10:=oL zO10;have zL11:=oL zO11;have rK2:=rK;unfold Rec.Ok at rK2
 try unfold I64ok at rK2
 try unfold maxLen at rK2
 have rN2:r.Name.size≤maxLen:=by unfold maxLen; omega
 have rL6:=sL rS6;obtain ⟨rF6,rO6⟩:=rS6;have rL7:=sL rS7;obtain ⟨rF7,rO7⟩:=rS7;have rL8:=sL rS8;obtain ⟨rF8,rO8⟩:=rS8;have sbd:=bi hs;have hg:=t7 (nm:=r.Name) hs;have hln:=kA hs hG hg hd hi (k:=r.Rows.length) (Nat.le_refl _);refine aA (vs:=[.pointer (some ⟨zb,0,none⟩),r.val rA6 rC6 rA7 rC7 rA8 rC8]) func112 Z ntmps112 Z (fun Q hQ hN=>?_);have H0:=Sep.start (w:=w) (F:=[box zb (.cells [.int .i64 z.Shape.Groups,.int .i64 z.Shape.Column,.int .i64 z.Shape.Data,.int .i64 z.Shape.Spare,.int .i64 z.Shape.Rows,.int .i64 z.Shape.Cap,.int .i64 z.Shape.Batch,.int .i64 z.Shape.Queue,.int .i64 z.Shape.Stage,.slice zA9 z.Groups.length zC9,.slice zA10 z.On.length zC10,.slice zA11 z.Tapes.length zC11,.int .i64 z.Writes,.int .i64 z.Stop,.bool z.Down].toArray 34),seen false [.slice zA9 z.Groups.length zC9] z.Groups zF9,seen false [.slice zA10 z.On.length zC10] z.On zF10,seen false [.slice zA11 z.Tapes.length zC11] z.Tapes zF11,seen false [.slice rA6 r.Rows.length rC6] r.Rows rF6,seen false [.slice rA7 r.Data.length rC7] r.Data rF7,seen false [.slice rA8 r.Delta.length rC8] r.Delta rF8]) (ae (by exact zB) (ae zO9 (ae zO10 (ae zO11 (ae rO6 (ae rO7 (ae rO8 (by simp))))))));refine ab (aV (wn Z) Z Z H0 (fun b1 w1 e1 g1 H1=>sA Z Z (aa (ab (cZ (α:=UInt8) (wn Z) Z aH aR H1 (fun b2 w2 e2 g2 H2=>sA Z Z (aa (ac (ab (sF az Z cB (sLd bd (H2.box 0 Z) Z (sV Z (ax bd Z) (sM Z Z (aa (ai (jM (α:=UInt8) (γ:=Nat) (fun k=>(rowsTo z (cS z.Shape r.Name) r.Rows k)) 0 H2 1 Z 5 Z [(0,_),(3,_),(4,_),(10,_),(11,_)] ⟨Z,Z,Z,Z,Z,trivial⟩ (fun k=>[(12,.int .i64 k)]) (fun k=>k≤r.Rows.length∧True) (fun k=>r.Rows.length-k) ⟨Z,trivial⟩ ⟨by omega,trivial⟩ (fun k vA1 fA1 w3 H3 ⟨hk,_⟩=>?_)))))))))))))))));dsimp only[lCA,lNA,lSZ,lSS] at H3 ⊢;refine ab (sV Z (aI Z Z) (aa (ac (au Z (fun c1=>?_) (fun c1=>?_)))))
 ·refine ag (ac (ai (ac ?_)));obtain ⟨eb1,eo1,ee1,ec1⟩:=bT (H3.seen 4 Z) k (by omega);have eI1:=ca (H3.seen 4 Z) k (by omega);refine aj (sV Z (ao bd ts2 Z Z ee1 k (by omega) (by omega)) (sV Z (ah tu2 Z Z ec1) (sA Z Z (aa ?_))));have hlk:=kA hs hG hg hd hi (k:=k) (by omega);have hrk:=hi k (by omega);have hrl2:=vF hs hG hg hrk hd;have hkk:(k:Int)*(z.Shape.Data*4)≤1048576*12:=by
   have h1:(k:Int)*(z.Shape.Data*4)≤1048576*(z.Shape.Data*4):=Int.mul_le_mul_of_nonneg_right (by omega) (by omega)
   omega
  refine bv (S:=Ext (· ∈ fA1) _) (oQ [1,3,5,7,9,11,13,15,19,16,20,22,24]) (by kernel_rfl) (by kernel_rfl) (by kernel_rfl) Z (fun _=>Ext.refl.drawn _) (fun q1=>?_);have H4:=H3.drawn q1;refine dR 4 Z (dV Z Z (fun zw hx=>am bn Z bV Z Z) (dV Z Z (fun zw hx=>an be Z bV Z Z (At.sub (hx.heapM (H4.foff 0 Z 1 Z Z) (H4.fbox 0 Z)) 9)) (dV Z Z (fun zw hx=>am az Z ts9 Z Z) (dV Z Z (fun zw hx=>ah tu9 Z Z (ar (hx.heapM (H4.boff 0 Z 1 Z Z) (H4.box 0 Z)) Z)) (dM Z Z Z (dC func111 q9 Z (gM (by omega) (by omega)) (fun v1 w4 r1=>?_)))))));obtain ⟨e3,rfl⟩:=r1;have H5:=H4.to e3;refine dC func151 yh Z (jm (H5.fbox 0 Z) (by assumption) (bu (H5.seen 1 Z)) (bu (H5.seen 2 Z)) (bu (H5.seen 3 Z)) (by assumption) (by assumption) (by assumption) (by assumption)) (fun v2 w5 r2=>?_);obtain ⟨e4,r2⟩:=r2;obtain ⟨fp1,H6⟩:=H5.res e4 r2;obtain ⟨a1,k1,q2⟩:=aB (H6.mine 2 Z);cases q2;refine Ed Z (wn Z) Z aH aR Z Z Z H6 1 Z (H6.mine 2 Z) (by (try simp only [List.length_nil]); unfold maxLen; omega) (by (try simp only [List.length_nil]); omega) (fun _ h e=>h.trans e) (fun v3 w6 fp2 H7=>aQ Z (wn Z) Z Z (aZ Z) (aP (aj (sV Z (aw Z Z iO) (sM Z Z (aa ?_))))));exact ⟨(k+1,_,_),⟨Z,Z,Z,Z,Z,Z,Z,trivial⟩,⟨(H7.dtake 2),by (try dsimp only); omega,trivial⟩,by dsimp only; omega⟩
 ·refine aD (ac ?_);obtain ⟨oa1,ok1,oq1⟩:=aB (H3.mine 1 Z);cases oq1;obtain rfl:k=r.Rows.length:=by omega
  refine aj (sM Z Z (sF az Z ts2 (sLd tu2 (H3.box 0 Z) Z (sF az Z ts2 (sLd tu2 (H3.box 0 Z) Z (sV Z (Cf aH ts5 Z Z Z r.Length.toNat r.Length.toNat (by omega) (by omega) (Nat.le_refl _) (by have:=cR (H3.mine 1 Z); omega)) (rA hQ results112 Z ?_)))))));have hcp:=cR (H3.mine 1 Z);exact ⟨H3.ext,sN (H3.out 1 Z) (by omega) (Nat.le_refl _) (by omega)⟩
theorem hX {w:World}{z:Wld}{zA9 zA10 zA11:Option Addr}{zC9 zC10 zC11:Nat}{nm:ByteArray}(zK:z.Ok) (zS9:Sees w [.slice zA9 z.Groups.length zC9] z.Groups) (zS10:Sees w [.slice zA10 z.On.length zC10] z.On) (zS11:Sees w [.slice zA11 z.Tapes.length zC11] z.Tapes) (hb:ga z≤1048576) (hnm:nm.size≤1048576):Ret Tryz.prog 31 #[z.val zA9 zC9 zA10 zC10 zA11 zC11,.string nm] w fun v w'=>Ext No w w'∧(∃ A1 C1,v=(dc z nm).val A1 C1∧Res w w' [.int .i64 (dc z nm).Code,.slice A1 (dc z nm).Bytes.length C1] (dc z nm)):=by
 have zK2:=zK;unfold Wld.Ok Shape.Ok at zK2
 try unfold I64ok at zK2
 try unfold maxLen at zK2
 have zL9:=sL zS9;obtain ⟨zF9,zO9⟩:=zS9;have zL10:=sL zS10;obtain ⟨zF10,zO10⟩:=zS10;have zL11:=sL zS11;obtain ⟨zF11,zO11⟩:=zS11;refine aA (vs:=[z.val zA9 zC9 zA10 zC10 zA11 zC11,.string nm]) func31 Z ntmps31 Z (fun Q hQ hN=>?_);have H0:=Sep.start (w:=w) (F:=[seen false [.slice zA9 z.Groups.length zC9] z.Groups zF9,seen false [.slice zA10 z.On.length zC10] z.On zF10,seen false [.slice zA11 z.Tapes.length zC11] z.Tapes zF11]) (ae zO9 (ae zO10 (ae zO11 (by simp))));refine ab (aV (wn Z) Z Z H0 (fun b1 w1 e1 g1 H1=>cI (wn Z) Z zeroValue48 H1 (fun b2 w2 e2 g2 H2=>aa (ac (ab (sV Z (an bn Z lR Z Z (At.whole (H2.box 0 Z))) (sM Z Z (sE func107 vX Z (k9 (by assumption) (H2.sees 0 Z) (H2.sees 1 Z) (H2.sees 2 Z) (by first | assumption | omega)) H2 (fun w3 e3 H3=>sA Z Z (aa (ab (sR 2 Z (aa (au Z (fun c1=>?_) (fun c1=>?_)))))))))))))))
 ·refine ab (sM Z Z (sV Z (dH fE Z Z) (bE (wn Z) fZ Z Z Z Z H3 1 Z Z (fun w4 e4 H4=>?_))));dsimp only[lNA,lCA,lSZ,lSS,bk] at H4;refine aa (cj (hQ _ _ (jz results31 Z (bh iR Z fZ Z (At.whole (H4.box 1 Z))) ?_)))
  by_cases q:upF z=0
  ·have aq:aT nm≠0:=by have:=c1; rwa [if_pos q] at this
   rw [qI q aq,if_pos q];exact ⟨H4.ext,none,0,Z,ij (by unfold I64ok; have:=qZ (nm:=nm); (try dsimp only); omega)⟩
  ·rw [vu q,if_neg q];exact ⟨H4.ext,none,0,Z,ij (by unfold I64ok; have:=wy (z:=z); (try dsimp only); omega)⟩
 ·refine ag (ac ?_);have hu:upF z=0:=by
   by_cases q:upF z=0
   ·exact q
   ·have:=c1; rw [if_neg q] at this; omega
  have aq:aT nm=0:=by have:=c1; rw [if_pos hu] at this; omega
  obtain ⟨hw0,hdn⟩:=yS hu;obtain ⟨hs,hG,hO⟩:=eN hw0;have hT:=(eN hw0).2.2.2.1;have hrl:=zA hw0;have hn8:=vt aq;have sbd:=bi hs;have hszi:=CJ (z:=z) (nm:=nm);have hdl:(itR z nm).Data.length≤cx (itR z nm):=by unfold cx; omega
  have hrw:(itR z nm).Rows.length≤cx (itR z nm):=by unfold cx; omega
  refine aj (sM Z Z (sC func108 wM Z (lh (H3.box 0 Z) (by assumption) (bu (H3.seen 0 Z)) (bu (H3.seen 1 Z)) (bu (H3.seen 2 Z)) (by first | assumption | omega) (by first | assumption | omega)) (fun v2 w5 r2=>?_)));obtain ⟨e5,pA1,pA2,pA3,pA4,pA5,pA6,rfl,hI1⟩:=r2;have H5:=H3.to e5;obtain ⟨pf1,pf2,pf3,pok1,pl1,pl2,pl3,H6⟩:=H5.recF 2 Z hI1;unfold maxLen at pl1 pl2 pl3
  try dsimp only[lNA,lCA,lSZ,lSS] at H6
  refine sR 3 Z (cI (wn Z) Z zeroValue55 H6 (fun b3 w6 e6 g3 H7=>bE (wn Z) aL Z Z Z Z H7 2 Z Z (fun w7 e7 H8=>?_)));dsimp only[lNA,lCA,lSZ,lSS,bk] at H8;refine sA Z Z (aa (ac (ai (ab (sM Z Z (sV Z (aN Z) (sA Z Z (aa (bz Z (fun c2=>?_) (fun c2=>?_))))))))))
  ·refine ab (sV Z (dH fE Z Z) (bE (wn Z) fZ Z Z Z Z H8 1 Z Z (fun w8 e8 H9=>?_)));dsimp only[lNA,lCA,lSZ,lSS,bk] at H9;refine aa (cj (hQ _ _ (jz results31 Z (bh iR Z fZ Z (At.whole (H9.box 1 Z))) ?_)));have hc:=uj (z:=z) (nm:=nm) (by simpa using c2);rw [tJ hu aq (by omega),hc];exact ⟨H9.ext,none,0,Z,ij (by unfold I64ok; dsimp only; omega)⟩
  ·refine ac ?_;have ho:itO z nm=true:=by simpa using c2
   refine aj (sF az Z aW (sLd aH (H8.box 2 Z) Z (sV Z (ax aH Z) (sR 2 Z (aa (au Z (fun c3=>?_) (fun c3=>?_)))))))
   ·refine ab (sF az Z aW (sLd aH (H8.box 2 Z) Z (sC func109 ke Z (ue (H8.sees 4 Z) (by omega)) (fun v3 w9 r3=>?_))));obtain ⟨e9,r3⟩:=r3;obtain ⟨fp1,H10⟩:=H8.res e9 r3;obtain ⟨a1,k1,q1⟩:=aB (H10.mine 3 Z);cases q1;refine sV Z (dH fE Z Z) (bE (wn Z) fZ Z Z Z Z H10 1 Z Z (fun w10 e10 H11=>?_));dsimp only[lNA,lCA,lSZ,lSS,bk] at H11;refine aa (cj (hQ _ _ (jz results31 Z (bh iR Z fZ Z (At.whole (H11.box 1 Z))) ?_)));obtain ⟨hc1,hc2⟩:=qR ho (by omega);rw [uL hu aq hc1,hc2];exact ⟨H11.ext,_,_,Z,BytesResult.out (x:=⟨0,(itR z nm).Data⟩) (H11.sub (.cons _ (.cons _ (.cons _ (.cons_cons _ List.Sublist.slnil))))) (by show I64ok 0; unfold I64ok; omega)⟩
   ·refine ag (ac (ac ?_));have hnd:¬ 0<(itR z nm).Data.length:=by omega
    obtain ⟨m1,m2,m3,m4⟩:=qd ho;obtain ⟨f1,f2,f3⟩:=pj (oe hw0 m1) m3 m4;obtain ⟨q1,q2⟩:=f3 hnd;have hlz:=jy f1;have hpr:=qB hs hlz.1;rw [← q1] at hpr;have eh:cS z.Shape (itR z nm).Name=cS z.Shape nm:=by rw [m2]
    obtain ⟨hc1,hc2⟩:=rH ho hnd;have hcp:(itR z nm).Name.size≤8:=by rw [m2]; exact hn8
    have hgi:=t7 (nm:=nm) hs;refine aj (sF bn Z bV (sV Z (an be Z bV Z Z (At.sub (H8.box 0 Z) 9)) (sM Z Z (sE func111 q9 Z (gM (by omega) (by omega)) H8 (fun w11 e11 H12=>sE func110 vW Z (iV (H12.box 0 Z) (by assumption) (H12.sees 0 Z) (H12.sees 1 Z) (H12.sees 2 Z) (by assumption) (by assumption)) H12 (fun w12 e12 H13=>sA Z Z (aa (ab (sR 2 Z (aa (au Z (fun c4=>?_) (fun c4=>?_))))))))))))
    ·refine ab (sM Z Z (sV Z (dH fE Z Z) (bE (wn Z) fZ Z Z Z Z H13 1 Z Z (fun w13 e13 H14=>?_))));dsimp only[lNA,lCA,lSZ,lSS,bk] at H14;refine aa (cj (hQ _ _ (jz results31 Z (bh iR Z fZ Z (At.whole (H14.box 1 Z))) ?_)));rw [tJ hu aq (by omega),hc1];exact ⟨H14.ext,none,0,Z,ij (by unfold I64ok; have:=wC (z:=z) (nm:=nm); dsimp only; omega)⟩
    ·refine ag (ac ?_);have hlv:ja z (cS z.Shape nm)=0:=by omega
     have hd:ip z (cS z.Shape nm)=false:=by
      cases e:ip z (cS z.Shape nm) with
      | false=>rfl
      | true=>exfalso; unfold ja at hlv; rw [e] at hlv; split at hlv<;>(first | (simp at hlv; done) | omega)
     have hd2:ip z (cS z.Shape (itR z nm).Name)=false:=by rw [eh]; exact hd
     refine aj (sV Z (an az Z aL Z Z (At.whole (H13.box 2 Z))) (sC func112 zi Z (jl (H13.box 0 Z) (by assumption) (bu (H13.seen 0 Z)) (bu (H13.seen 1 Z)) (bu (H13.seen 2 Z)) (by assumption) (H13.sees 3 Z) (H13.sees 4 Z) (H13.sees 5 Z) (by first | assumption | omega) (by first | assumption | omega) (by first | assumption | omega) (by first | assumption | omega) (by first | assumption | omega) (by first | assumption | omega) (by first | assumption | omega) (by first | assumption | omega) (r:=(itR z nm))) (fun v6 w14 r6=>?_)));obtain ⟨e14,r6⟩:=r6;obtain ⟨fp2,H15⟩:=H13.res e14 r6;obtain ⟨a2,k2,q2⟩:=aB (H15.mine 3 Z);cases q2;refine sV Z (dH fE Z Z) (bE (wn Z) fZ Z Z Z Z H15 1 Z Z (fun w15 e15 H16=>?_));dsimp only[lNA,lCA,lSZ,lSS,bk] at H16;refine aa (cj (hQ _ _ (jz results31 Z (bh iR Z fZ Z (At.whole (H16.box 1 Z))) ?_)));rw [uL hu aq (by omega),hc2,← eh];exact ⟨H16.ext,_,_,Z,BytesResult.out (x:=⟨0,((rowsTo z (cS z.Shape (itR z nm).Name) (itR z nm).Rows (itR z nm).Rows.length).take (itR z nm).Length.toNat)⟩) (H16.sub (.cons _ (.cons _ (.cons _ (.cons_cons _ List.Sublist.slnil))))) (by show I64ok 0; unfold I64ok; omega)⟩
end Go.Wk
namespace Go.Wk
open Go.Proofs Rp Go.Proofs.Tryz
set_option maxRecDepth 10000
theorem n0 {w:World}{zb zC9 zC10 zC11:Nat}{z:Wld}{zA9 zA10 zA11:Option Addr}{zF9 zF10 zF11:List Nat}{nm:ByteArray}(zB:w.heap[zb]? = some (.cells [.int .i64 z.Shape.Groups,.int .i64 z.Shape.Column,.int .i64 z.Shape.Data,.int .i64 z.Shape.Spare,.int .i64 z.Shape.Rows,.int .i64 z.Shape.Cap,.int .i64 z.Shape.Batch,.int .i64 z.Shape.Queue,.int .i64 z.Shape.Stage,.slice zA9 z.Groups.length zC9,.slice zA10 z.On.length zC10,.slice zA11 z.Tapes.length zC11,.int .i64 z.Writes,.int .i64 z.Stop,.bool z.Down].toArray 34)) (zK:z.Ok) (zO9:own false w [.slice zA9 z.Groups.length zC9] z.Groups zF9) (zO10:own false w [.slice zA10 z.On.length zC10] z.On zF10) (zO11:own false w [.slice zA11 z.Tapes.length zC11] z.Tapes zF11) (hw0:eD z=0) (hT:z.Tapes.length=2) (hrl:∀ k,(z.Tapes.getD k default).Recs.length≤200000) (hb:ga z≤1048576) (hn8:nm.size≤8):Ret Tryz.prog 106 #[.pointer (some ⟨zb,0,none⟩),.string nm] w fun v w'=>Ext No w w'∧(∃ A n C,v = .tuple #[.slice A n C,.int .i64 (itC z nm)]∧Res w w' [.slice A n C] (z1 z nm)):=by
 have zK2:=zK;unfold Wld.Ok Shape.Ok at zK2
 try unfold I64ok at zK2
 try unfold maxLen at zK2
 have zL9:=oL zO9;have zL10:=oL zO10;have zL11:=oL zO11;have hs:=(eN hw0).1;have hG:=(eN hw0).2.1;have sbd:=bi hs;refine aA (vs:=[.pointer (some ⟨zb,0,none⟩),.string nm]) func106 Z ntmps106 Z (fun Q hQ hN=>?_);have H0:=Sep.start (w:=w) (F:=[box zb (.cells [.int .i64 z.Shape.Groups,.int .i64 z.Shape.Column,.int .i64 z.Shape.Data,.int .i64 z.Shape.Spare,.int .i64 z.Shape.Rows,.int .i64 z.Shape.Cap,.int .i64 z.Shape.Batch,.int .i64 z.Shape.Queue,.int .i64 z.Shape.Stage,.slice zA9 z.Groups.length zC9,.slice zA10 z.On.length zC10,.slice zA11 z.Tapes.length zC11,.int .i64 z.Writes,.int .i64 z.Stop,.bool z.Down].toArray 34),seen false [.slice zA9 z.Groups.length zC9] z.Groups zF9,seen false [.slice zA10 z.On.length zC10] z.On zF10,seen false [.slice zA11 z.Tapes.length zC11] z.Tapes zF11]) (ae (by exact zB) (ae zO9 (ae zO10 (ae zO11 (by simp)))));refine ab (sR 2 Z (aa (ab (sM Z Z (sC func208 wD Z (lU (H0.fbox 0 Z) (by assumption) (bu (H0.seen 1 Z)) (bu (H0.seen 2 Z)) (bu (H0.seen 3 Z)) (by first | assumption | omega) (by first | assumption | omega)) (fun v1 w1 r1=>?_))))));obtain ⟨e1,vs1,r1,hR1,hM1⟩:=r1;obtain ⟨fp1,H1⟩:=H0.res e1 r1;obtain ⟨sa1,sk1,sq1⟩:=aB (H1.mine 0 Z);cases sq1;have hl1:vs1.length=(bZ z).length:=by rw [← hM1,List.length_map]
 have hb1:=tW (z:=z) (by first | assumption | omega) (by assumption);have hRw1:RdV w zF11 vs1:=hR1.back H1.ext (Rp.lt zO11);refine sA Z Z (aa (ac ?_))
 skip
 refine aj (sM Z Z (sM Z Z ?_));have lc2:=mz (xs:=vs1.map RecV.r) (nm:=nm) (by rw [List.length_map]; exact (hRw1.to H1.ext).list (H1.mine 0 Z));rw [List.length_map,hM1] at lc2;refine sE func232 yE Z lc2 H1 (fun w2 e2 H2=>sA Z Z (aa (ac (ac ?_))));have hlb:=BI (p:=itP nm) (rs:=bZ z);refine aj (sR 3 Z (dX (t:=21) Z (fun hg1=>?_) (fun hg1=>?_)))
 ·try simp only [decide_eq_true_eq,decide_eq_false_iff_not] at hg1
  refine sR 6 Z (sV Z (aF Z Z) (aa (cU Z (ab (sR 2 Z (aa (cj (hQ _ _ (jx results106 Z Z ?_)))))))));have hc:=uj (z:=z) (nm:=nm) (AH hw0 (by omega));rw [qb (by omega)];exact ⟨H2.ext,none,0,0,(by rw [hc]),⟨[],.inr (.inl ⟨Z,Z,Z⟩),.nil,by simp⟩⟩
 ·try simp only [decide_eq_true_eq,decide_eq_false_iff_not] at hg1
  refine ak (wg Z Z Z) Z Z (aG Z) (ak (wg Z Z Z) Z Z (aG Z) ?_);obtain ⟨eb1,eo1,ee1,ec1,eK1⟩:=H2.viewAt 0 Z (ct (itP nm) (bZ z)).toNat (by omega);refine ak (wg Z Z Z) Z Z (ao aS aL Z Z ee1 (ct (itP nm) (bZ z)).toNat (by omega) (by omega)) (ak (wg Z Z Z) Z Z (am az Z ts2 Z Z) (ak (wg Z Z Z) Z Z (ah tu2 Z Z (bW ec1 3 Z)) (ak (wg Z Z Z) Z Z (aI Z Z) (sV Z (aJ Z Z) (aa (au Z (fun c1=>?_) (fun c1=>?_)))))))
  ·refine ab (sR 2 Z (aa (cj (hQ _ _ (jx results106 Z Z ?_)))));have hur:(vs1.getD (ct (itP nm) (bZ z)).toNat default).r=(bZ z).getD (ct (itP nm) (bZ z)).toNat default:=dZ hM1 (by omega);have hc:=uj (z:=z) (nm:=nm) (sc (by omega) (by rw [← hur]; first | omega | simp_all) hw0);rw [qb (by omega)];exact ⟨H2.ext,none,0,0,(by rw [hc]),⟨[],.inr (.inl ⟨Z,Z,Z⟩),.nil,by simp⟩⟩
  ·refine ag (ac ?_);obtain ⟨f6,f7,f8,hxk,l6,l7,l8,HU⟩:=H2.recF 3 Z (x:=(vs1.getD (ct (itP nm) (bZ z)).toNat default).r) (A6:=(vs1.getD (ct (itP nm) (bZ z)).toNat default).A6) (C6:=(vs1.getD (ct (itP nm) (bZ z)).toNat default).C6) (A7:=(vs1.getD (ct (itP nm) (bZ z)).toNat default).A7) (C7:=(vs1.getD (ct (itP nm) (bZ z)).toNat default).C7) (A8:=(vs1.getD (ct (itP nm) (bZ z)).toNat default).A8) (C8:=(vs1.getD (ct (itP nm) (bZ z)).toNat default).C8) ((hRw1.to H2.ext).inAt (k:=(ct (itP nm) (bZ z)).toNat) (by omega));unfold maxLen at l6 l7 l8
   try dsimp only[lNA,lCA,lSZ,lSS] at HU
   have hur:(vs1.getD (ct (itP nm) (bZ z)).toNat default).r=(bZ z).getD (ct (itP nm) (bZ z)).toNat default:=dZ hM1 (by omega);obtain ⟨ho,hiR⟩:=rZ (z:=z) (nm:=nm) (by omega) (by rw [← hur]; first | omega | simp_all);rw [← hur] at hiR;obtain ⟨m1,m2,m3,m4⟩:=qd ho;obtain ⟨f1,f2,f3⟩:=pj (oe hw0 m1) m3 m4;have hszi:=CJ (z:=z) (nm:=nm);have hdl:(itR z nm).Data.length≤cx (itR z nm):=by unfold cx; omega
   have hrw:(itR z nm).Rows.length≤cx (itR z nm):=by unfold cx; omega
   rw [hiR] at hszi hdl hrw f1 f2 f3;obtain ⟨eb2,eo2,ee2,ec2,eK2⟩:=HU.viewAt 0 Z (ct (itP nm) (bZ z)).toNat (by omega);refine aj (sR 2 Z (sV Z (ao aS aL Z Z ee2 (ct (itP nm) (bZ z)).toNat (by omega) (by omega)) (sV Z (an az Z aL Z Z ec2) (cI (wn Z) Z zeroValue55 HU (fun b1 w3 e3 g1 H3=>bE (wn Z) aL Z Z Z Z H3 1 Z Z (fun w4 e4 H4=>?_))))));dsimp only[lNA,lCA,lSZ,lSS,bk] at H4;refine aa (ac (ab (sF az Z aW (sLd aH (H4.box 1 Z) Z (sV Z (ax aH Z) (sV Z (dd Z Z) (aa (au Z (fun c2=>?_) (fun c2=>?_)))))))))
   ·refine ab (cZ (α:=UInt8) (wn Z) Z aH aR H4 (fun b2 w5 e5 g2 H5=>sF az Z aW (sLd aH (H5.box 1 Z) Z (oP (wn Z) Z aH aR Z Z Z H5 2 Z (H5.seen 5 Z) (by (try simp only [List.length_nil]); unfold maxLen; omega) (by (try simp only [List.length_nil]); omega) (fun v3 w6 fp2 H6=>sR 2 Z (aa (cj (hQ _ _ (jx results106 Z Z ?_)))))))));obtain ⟨hc,hc2⟩:=qR (z:=z) (nm:=nm) ho (by rw [hiR]; omega);obtain ⟨oa,ok2,oq⟩:=aB (H6.mine 2 Z);cases oq;have hz:=H6.out 2 Z;rw [List.nil_append] at hz;rw [zr hc,hc2,hiR];exact ⟨H6.ext,_,_,_,(by rw [hc]; rfl),hz⟩
   ·refine ag (ac ?_);have hnd:¬ 0<(itR z nm).Data.length:=by rw [hiR]; omega
    obtain ⟨q1,q2⟩:=f3 (by omega);have hlz:=jy f1;have hpr:=qB hs hlz.1;rw [← q1] at hpr;obtain ⟨hc1,hc2⟩:=rH ho hnd;rw [hiR] at hc2;have hgi:=t7 (nm:=nm) hs;have hrl9:(vs1.getD (ct (itP nm) (bZ z)).toNat default).r.Rows.length≤1048576:=by omega
    refine aj (sR 2 Z (sF bn Z bV (sV Z (an be Z bV Z Z (At.sub (H4.fbox 0 Z) 9)) (sM Z Z (sE func233 xR Z (oz (by omega) (by omega)) H4 (fun w7 e6 H7=>sA Z Z (aa (ac (ab (sR 2 Z (sF bn Z cB (sLd bd (H7.fbox 0 Z) Z (sM Z Z (sE func184 rF Z (kH (H7.sees 2 Z)) H7 (fun w8 e7 H8=>sV Z (aN Z) (aa (bz Z (fun c3=>?_) (fun c3=>?_))))))))))))))))))
    ·refine ab (sR 2 Z (aa (cj (hQ _ _ (jx results106 Z Z ?_)))));have hc:itC z nm=8:=by rw [hc1]; exact CN hgi (by simpa using c3)
     rw [qb (by omega)];exact ⟨H8.ext,none,0,0,(by rw [hc]),⟨[],.inr (.inl ⟨Z,Z,Z⟩),.nil,by simp⟩⟩
    ·refine ag (ac ?_);have hon:(cS z.Shape nm)∈z.On:=by simpa using c3
     refine aj (cZ (α:=(List UInt8)) (wn Z) Z bD bt H8 (fun b3 w9 e8 g3 H9=>sA Z Z (aa (ac (ab (sA Z Z (aa (ai (jM (α:=(List UInt8)) (γ:=Nat) (fun k=>(qL z (cS z.Shape nm) (vs1.getD (ct (itP nm) (bZ z)).toNat default).r.Rows k)) 0 H9 2 Z 10 Z [(0,_),(8,_),(9,_)] ⟨Z,Z,Z,trivial⟩ (fun k=>[(11,.int .i64 k)]) (fun k=>k≤(vs1.getD (ct (itP nm) (bZ z)).toNat default).r.Rows.length∧(0<k→ip z (cS z.Shape nm)=false)) (fun k=>(vs1.getD (ct (itP nm) (bZ z)).toNat default).r.Rows.length-k) ⟨Z,trivial⟩ ⟨by omega,fun h=>absurd h (by omega)⟩ (fun k vA1 fA1 w10 H10 ⟨hk,hdk⟩=>?_))))))))));dsimp only[lCA,lNA,lSZ,lSS] at H10 ⊢;refine ac (ab (sM Z Z (sF az Z cB (sLd bd (H10.box 1 Z) Z (sV Z (ax bd Z) (sV Z (aI Z Z) (aa (au Z (fun c4=>?_) (fun c4=>?_)))))))))
     ·refine ag (ac (ai (ac ?_)));have hrk:=q2 k (by omega);obtain ⟨eb3,eo3,ee3,ec3⟩:=bT (H10.seen 4 Z) k (by omega);have eI1:=ca (H10.seen 4 Z) k (by omega);refine aj (sR 2 Z (sF az Z cB (sLd bd (H10.box 1 Z) Z (sM Z Z (sV Z (ao bd ts2 Z Z ee3 k (by omega) (by omega)) (sV Z (ah tu2 Z Z ec3) (sC func220 we Z (nC (H10.fbox 0 Z) (by assumption) (H10.sees 1 Z) (H10.sees 2 Z) (H10.sees 3 Z) (by assumption) (by assumption) (by assumption) (by assumption)) (fun v6 w11 r5=>?_))))))));obtain ⟨e9,sa2,sk2,rfl,r5⟩:=r5;obtain ⟨fp3,H11⟩:=H10.res e9 r5;refine sR 5 Z (aa (ac (ab (sM Z Z (sV Z (aN Z) (aa (bz Z (fun c5=>?_) (fun c5=>?_))))))))
      ·refine ab (sR 2 Z (aa (cj (hQ _ _ (jx results106 Z Z ?_)))));have hc:itC z nm=10:=by rw [hc1]; exact AK hgi hon (by simpa using c5)
       rw [qb (by omega)];exact ⟨H11.ext,none,0,0,(by rw [hc]),⟨[],.inr (.inl ⟨Z,Z,Z⟩),.nil,by simp⟩⟩
      ·refine ag ?_;have hml:=sK (z:=z) (g:=(cS z.Shape nm)) (rows:=(vs1.getD (ct (itP nm) (bZ z)).toNat default).r.Rows) (k:=k);refine aj (sR 2 Z (eC (wn Z) Z bD bt Z Z Z Z H11 (fun b4 w12 e10 g4 H12=>Ep (wn Z) Z bD bt Z Z Z H12 2 4 3 Z Z Z Z (by unfold maxLen; omega) (by omega) (fun v7 w13 fp4 H13=>sA Z Z (aa (aj (sM Z Z (sV Z (aw Z Z iO) (sA Z Z (aa ?_))))))))));have hd:ip z (cS z.Shape nm)=false:=by simpa using c5
       exact ⟨(k+1,_,_),⟨Z,Z,Z,Z,Z,trivial⟩,⟨(H13.dtake 3),by (try dsimp only); omega,fun _=>hd⟩,by dsimp only; omega⟩
     ·refine aD (ac ?_);obtain rfl:k=(vs1.getD (ct (itP nm) (bZ z)).toNat default).r.Rows.length:=by omega
      obtain ⟨oa1,ok1,oq1⟩:=aB (H10.mine 2 Z);cases oq1;have hd:=hdk (by omega);have hln:=kA hs hG hgi hd q2 (k:=(vs1.getD (ct (itP nm) (bZ z)).toNat default).r.Rows.length) (Nat.le_refl _);have hcb9:=Ag (z:=z) (g:=(cS z.Shape nm)) (rows:=(vs1.getD (ct (itP nm) (bZ z)).toNat default).r.Rows) (k:=(vs1.getD (ct (itP nm) (bZ z)).toNat default).r.Rows.length);have hp3:((vs1.getD (ct (itP nm) (bZ z)).toNat default).r.Rows.length:Int)*(z.Shape.Data*4)≤1048576*12:=by
       have h1:((vs1.getD (ct (itP nm) (bZ z)).toNat default).r.Rows.length:Int)*(z.Shape.Data*4)≤1048576*(z.Shape.Data*4):=Int.mul_le_mul_of_nonneg_right (by omega) (by omega)
       omega
      refine bv (S:=Ext No _) (oQ [1,5,7,2,9,11,12]) (by kernel_rfl) (by kernel_rfl) (by kernel_rfl) Z (fun _=>Ext.refl.drawn _) (fun q1=>?_);have H14:=H10.drawn q1;refine dM Z Z Z (dV Z Z (fun zw hx=>am az Z ts2 Z Z) (dV Z Z (fun zw hx=>ah tu2 Z Z (ar (hx.heap (H14.box 1 Z)) Z)) (dC func234 yj Z (oG (H14.msees 2 Z) (by omega)) (fun v8 w14 r6=>?_))));obtain ⟨e11,r6⟩:=r6;obtain ⟨fp5,H15⟩:=H14.res e11 r6;obtain ⟨a1,k1,q2⟩:=aB (H15.mine 3 Z);cases q2;refine dV Z Z (fun zw hx=>zn aH ts5 Z Z (vs1.getD (ct (itP nm) (bZ z)).toNat default).r.Length.toNat (by omega) (by have hc9:=cR (H15.mine 3 Z); rw [gp] at hc9; omega)) (dV Z Z (fun zw hx=>aZ Z) (aQ Z (wn Z) Z Z (aZ Z) (aP (cj (hQ _ _ (jx results106 Z Z ?_))))));have hc:itC z nm=0:=by rw [hc1]; exact Bc hgi hon hd
      have hc9:=cR (H15.mine 3 Z);rw [gp] at hc9;rw [zr hc,hc2,← gp];exact ⟨H15.ext,_,_,_,(by rw [hc]),sN (H15.out 3 Z) (by rw [gp]; omega) (by omega) (Nat.le_refl _)⟩
theorem lS {w:World}{z:Wld}{zA9 zA10 zA11:Option Addr}{zC9 zC10 zC11:Nat}{nm:ByteArray}(zK:z.Ok) (zS9:Sees w [.slice zA9 z.Groups.length zC9] z.Groups) (zS10:Sees w [.slice zA10 z.On.length zC10] z.On) (zS11:Sees w [.slice zA11 z.Tapes.length zC11] z.Tapes) (hb:ga z≤1048576) (hnm:nm.size≤1048576):Ret Tryz.prog 30 #[z.val zA9 zC9 zA10 zC10 zA11 zC11,.string nm] w fun v w'=>Ext No w w'∧(∃ A1 C1,v=(dc z nm).val A1 C1∧Res w w' [.int .i64 (dc z nm).Code,.slice A1 (dc z nm).Bytes.length C1] (dc z nm)):=by
 have zK2:=zK;unfold Wld.Ok Shape.Ok at zK2
 try unfold I64ok at zK2
 try unfold maxLen at zK2
 have zL9:=sL zS9;obtain ⟨zF9,zO9⟩:=zS9;have zL10:=sL zS10;obtain ⟨zF10,zO10⟩:=zS10;have zL11:=sL zS11;obtain ⟨zF11,zO11⟩:=zS11;have hnb:nm.size≤maxLen:=by unfold maxLen; omega
 refine aA (vs:=[z.val zA9 zC9 zA10 zC10 zA11 zC11,.string nm]) func30 Z ntmps30 Z (fun Q hQ hN=>?_);have H0:=Sep.start (w:=w) (F:=[seen false [.slice zA9 z.Groups.length zC9] z.Groups zF9,seen false [.slice zA10 z.On.length zC10] z.On zF10,seen false [.slice zA11 z.Tapes.length zC11] z.Tapes zF11]) (ae zO9 (ae zO10 (ae zO11 (by simp))));refine ab (aV (wn Z) Z Z H0 (fun b1 w1 e1 g1 H1=>cI (wn Z) Z zeroValue48 H1 (fun b2 w2 e2 g2 H2=>aa (ac (ab (sV Z (an bn Z lR Z Z (At.whole (H2.box 0 Z))) (sE func100 wt Z (ng (by assumption) (H2.sees 0 Z) (H2.sees 1 Z) (H2.sees 2 Z)) H2 (fun w3 e3 H3=>sA Z Z (aa (ab (sR 2 Z (aa (au Z (fun c1=>?_) (fun c1=>?_))))))))))))))
 ·refine ab (sM Z Z (sV Z (dH fE Z Z) (bE (wn Z) fZ Z Z Z Z H3 1 Z Z (fun w4 e4 H4=>?_))));dsimp only[lNA,lCA,lSZ,lSS,bk] at H4;refine aa (cj (hQ _ _ (jz results30 Z (bh iR Z fZ Z (At.whole (H4.box 1 Z))) ?_)));rw [vu (by omega)];exact ⟨H4.ext,none,0,Z,ij (by unfold I64ok; have:=wy (z:=z); dsimp only; omega)⟩
 ·refine ag (ac (ac ?_));have hu:upF z=0:=by omega
  obtain ⟨hw0,hdn⟩:=yS hu;have hT:=(eN hw0).2.2.2.1;have hrl:=zA hw0;refine aj (sM Z Z (sE func105 rL Z (hY (by assumption)) H3 (fun w5 e5 H5=>sA Z Z (aa (ab (sR 2 Z (aa (au Z (fun c2=>?_) (fun c2=>?_)))))))))
  ·refine ab (sM Z Z (sV Z (dH fE Z Z) (bE (wn Z) fZ Z Z Z Z H5 1 Z Z (fun w6 e6 H6=>?_))));dsimp only[lNA,lCA,lSZ,lSS,bk] at H6;refine aa (cj (hQ _ _ (jz results30 Z (bh iR Z fZ Z (At.whole (H6.box 1 Z))) ?_)));rw [qI hu (by omega)];exact ⟨H6.ext,none,0,Z,ij (by unfold I64ok; have:=qZ (nm:=nm); dsimp only; omega)⟩
  ·refine ag (ac ?_);have aq:aT nm=0:=by omega
   have hn8:=vt aq;refine aj (sM Z Z (sC func106 yl Z (n0 (H5.box 0 Z) (by assumption) (bu (H5.seen 0 Z)) (bu (H5.seen 1 Z)) (bu (H5.seen 2 Z)) (by first | assumption | omega) (by first | assumption | omega) (by first | assumption | omega) (by first | assumption | omega) (by first | assumption | omega)) (fun v3 w7 r3=>?_)));obtain ⟨e7,sA1,sn1,sC1,rfl,r3⟩:=r3;obtain ⟨fp1,H7⟩:=H5.res e7 r3;obtain ⟨sa1,sk1,sq1⟩:=aB (H7.mine 2 Z);cases sq1;refine sR 5 Z (aa (ab (sR 2 Z (sV Z (dH fE Z Z) (bE (wn Z) fZ Z Z Z Z H7 1 Z Z (fun w8 e8 H8=>?_))))));dsimp only[lNA,lCA,lSZ,lSS,bk] at H8;refine aa (cj (hQ _ _ (jz results30 Z (bh iR Z fZ Z (At.whole (H8.box 1 Z))) ?_)));rw [AP hu aq];exact ⟨H8.ext,_,_,Z,BytesResult.out (x:=⟨itC z nm,z1 z nm⟩) (H8.sub (.cons _ (.cons _ (.cons_cons _ List.Sublist.slnil)))) (by have:=wC (z:=z) (nm:=nm); show I64ok (itC z nm); unfold I64ok; omega)⟩
end Go.Wk
namespace Go.Wk
open Go.Proofs Rp Go.Proofs.Tryz
set_option maxRecDepth 10000
theorem iA {w:World}{z:Wld}{zA9 zA10 zA11:Option Addr}{zC9 zC10 zC11:Nat}{nm:ByteArray}(zK:z.Ok) (zS9:Sees w [.slice zA9 z.Groups.length zC9] z.Groups) (zS10:Sees w [.slice zA10 z.On.length zC10] z.On) (zS11:Sees w [.slice zA11 z.Tapes.length zC11] z.Tapes):Ret Tryz.prog 7 #[z.val zA9 zC9 zA10 zC10 zA11 zC11,.string nm] w fun v w'=>Ext No w w'∧(v = .bool true):=by
 have zK2:=zK;unfold Wld.Ok Shape.Ok at zK2
 try unfold I64ok at zK2
 try unfold maxLen at zK2
 have zL9:=sL zS9;obtain ⟨zF9,zO9⟩:=zS9;have zL10:=sL zS10;obtain ⟨zF10,zO10⟩:=zS10;have zL11:=sL zS11;obtain ⟨zF11,zO11⟩:=zS11;refine aA (vs:=[z.val zA9 zC9 zA10 zC10 zA11 zC11,.string nm]) func7 Z ntmps7 Z (fun Q hQ hN=>?_);have H0:=Sep.start (w:=w) (F:=[seen false [.slice zA9 z.Groups.length zC9] z.Groups zF9,seen false [.slice zA10 z.On.length zC10] z.On zF10,seen false [.slice zA11 z.Tapes.length zC11] z.Tapes zF11]) (ae zO9 (ae zO10 (ae zO11 (by simp))));refine ab (aV (wn Z) Z Z H0 (fun b1 w1 e1 g1 H1=>sA Z Z (aa (ac (ab (sM Z Z (sV Z (ia tu9 Z) (sV Z (dd Z Z) (aa (au Z (fun c1=>?_) (fun c1=>?_)))))))))))
 ·refine ab (rA hQ results7 Z ?_);exact ⟨H1.ext,Z⟩
 ·refine ag (ab (sA Z Z (aa (ab (sV Z (an mh Z BD Z Z (At.whole (H1.box 0 Z))) (sM Z Z (sE func15 AC Z (nH (by assumption) (H1.sees 0 Z) (H1.sees 1 Z) (H1.sees 2 Z) (by omega)) H1 (fun w2 e2 H2=>sA Z Z (aa (ac (ab (sR 2 Z (aa (au Z (fun c2=>?_) (fun c2=>?_)))))))))))))))
  ·refine ab (rA hQ results7 Z ?_);exact ⟨H2.ext,Z⟩
  ·refine ag (ac ?_);have hsz:ga z≤1048576:=by omega
   have hmk:=Bl z;have cnt:=Ah (z:=z) (nm:=nm) hsz;have hOk:=B3 (z:=z) (nm:=nm);refine aj (sV Z (an mh Z BD Z Z (At.whole (H2.box 0 Z))) (sC func17 lJ Z (er (by assumption) (H2.sees 0 Z) (H2.sees 1 Z) (H2.sees 2 Z) (by assumption)) (fun v2 w3 r2=>?_)));obtain ⟨e3,sa1,sk1,sa2,sk2,sa3,sk3,rfl,r2⟩:=r2;obtain ⟨fp1,H3⟩:=H2.res e3 r2;have H4:=H3.share 1 Z;obtain ⟨sf1,sf2,sf3,sq1,sok1,so1,so2,so3⟩:=iG (H4.seen 3 Z);have H6:=H4.look1 3 Z so1 (fun b hb=>by rw [sq1]; simp [hb]);have H7:=H6.look1 3 Z so2 (fun b hb=>by rw [sq1]; simp [hb]);have H8:=H7.look1 3 Z so3 (fun b hb=>by rw [sq1]; simp [hb]);refine sM Z Z (sC func30 z8 Z (lS (by assumption) (H8.sees 4 Z) (H8.sees 5 Z) (H8.sees 6 Z) (by first | assumption | omega) (by first | assumption | omega)) (fun v3 w4 r3=>?_));obtain ⟨e4,sa4,sk4,rfl,r3⟩:=r3;obtain ⟨fp2,H9⟩:=H8.res e4 r3;have H10:=H9.share 2 Z;obtain ⟨sf4,sq2,sok2,so4⟩:=gd (H10.seen 7 Z);have H12:=H10.look1 7 Z so4 (fun b hb=>by rw [sq2]; simp [hb]);refine cI (wn Z) Z zeroValue48 H12 (fun b2 w5 e5 g2 H13=>bE (wn Z) fZ Z Z Z Z H13 3 Z Z (fun w6 e6 H14=>?_));dsimp only[lNA,lCA,lSZ,lSS,bk] at H14;refine aa (ab (sV Z (an mh Z BD Z Z (At.whole (H14.box 0 Z))) (sC func17 lJ Z (er (by assumption) (H14.sees 0 Z) (H14.sees 1 Z) (H14.sees 2 Z) (by assumption)) (fun v4 w7 r4=>?_))));obtain ⟨e7,sa5,sk5,sa6,sk6,sa7,sk7,rfl,r4⟩:=r4;obtain ⟨fp3,H15⟩:=H14.res e7 r4;refine cI (wn Z) Z zeroValue34 H15 (fun b3 w8 e8 g3 H16=>bE (wn Z) lR Z Z Z Z H16 5 Z Z (fun w9 e9 H17=>?_));dsimp only[lNA,lCA,lSZ,lSS,bk] at H17;refine aa (ab (sV Z (an bn Z lR Z Z (At.whole (H17.box 5 Z))) (sM Z Z (sC func31 tm Z (hX (by assumption) (Wld.see9 (H17.mine 4 Z)) (Wld.see10 (H17.mine 4 Z)) (Wld.see11 (H17.mine 4 Z)) (by first | assumption | omega) (by first | assumption | omega)) (fun v5 w10 r5=>?_)))));obtain ⟨e10,sa8,sk8,rfl,r5⟩:=r5;obtain ⟨fp4,H18⟩:=H17.res e10 r5;obtain ⟨sf5,sq3,sok3,so5⟩:=gd (H18.mine 6 Z);have H19:=H18.part 6 Z [mine [.slice _ (dc z nm).Bytes.length _] (dc z nm).Bytes sf5] (ae so5 (by simp)) (by simp [blocks,mine,sq3])
   try dsimp only[lNA,lCA,lSZ,lSS] at H19
   refine cI (wn Z) Z zeroValue48 H19 (fun b4 w11 e11 g4 H20=>bE (wn Z) fZ Z Z Z Z H20 8 Z Z (fun w12 e12 H21=>?_));dsimp only[lNA,lCA,lSZ,lSS,bk] at H21;refine aa (ac (ab (sV Z (an iR Z fZ Z Z (At.whole (H21.box 8 Z))) (sV Z (an iR Z fZ Z Z (At.whole (H21.box 3 Z))) (sE func32 oI Z (eF (by assumption) (H21.msees 7 Z) (by assumption) (H21.sees 8 Z)) H21 (fun w13 e13 H22=>sV Z (aN Z) (aa (bz Z (fun c3=>?_) (fun c3=>?_)))))))))
   ·exfalso; simp_all
   ·refine ag (ac (ac (bv (S:=Ext No _) (oQ [1,3,4,6,8]) (by kernel_rfl) (by kernel_rfl) (by kernel_rfl) Z (fun _=>Ext.refl.drawn _) (fun q1=>?_))));have H23:=H22.drawn q1;refine dV Z Z (fun zw hx=>an bn Z lR Z Z (At.whole (hx.heap (H23.box 5 Z)))) (dV Z Z (fun zw hx=>an mh Z BD Z Z (At.whole (hx.heap (H23.box 0 Z)))) (dC func17 lJ Z (er (by assumption) (H23.sees 0 Z) (H23.sees 1 Z) (H23.sees 2 Z) (by assumption)) (fun v7 w14 r7=>?_)));obtain ⟨e14,sa9,sk9,sa10,sk10,sa11,sk11,rfl,r7⟩:=r7;obtain ⟨fp5,H24⟩:=H23.res e14 r7;have H25:=H24.share 9 Z;obtain ⟨sf6,sf7,sf8,sq4,sok4,so6,so7,so8⟩:=iG (H25.seen 9 Z);have H27:=H25.look1 9 Z so6 (fun b hb=>by rw [sq4]; simp [hb]);have H28:=H27.look1 9 Z so7 (fun b hb=>by rw [sq4]; simp [hb]);have H29:=H28.look1 9 Z so8 (fun b hb=>by rw [sq4]; simp [hb]);refine dC func20 Bg Z (nz (by assumption) (Wld.see9 (H29.mine 4 Z)) (Wld.see10 (H29.mine 4 Z)) (Wld.see11 (H29.mine 4 Z)) (by assumption) (H29.sees 10 Z) (H29.sees 11 Z) (H29.sees 12 Z)) (fun v8 w15 r8=>?_);obtain ⟨e15,rfl⟩:=r8;have H30:=H29.to e15;refine aQ Z (wn Z) Z Z (aN Z) (aP (bz Z (fun c4=>?_) (fun c4=>?_)))
    ·exfalso; simp_all
    ·refine ag (ab (sA Z Z (aa (ab (sV Z (an bn Z lR Z Z (At.whole (H30.box 5 Z))) (sM Z Z (sC func21 Ab Z (lV (by assumption) (H30.mine 4 Z) (H30.nodup1 (i:=4) Z) (by constructor<;>omega)) (fun v9 w16 r9=>?_))))))));obtain ⟨rfl,mx1,mm1,ml1⟩:=r9;obtain ⟨fp6,H31⟩:=H30.mut 4 Z mm1
     try dsimp only[lNA,lCA,lSZ,lSS] at H31
     refine sA Z Z (aa (ac (ab (sR 3 Z (bp 4 (j:=2) (want:=false) (t:=48) Z Z Z Z (fun hg1 kk1=>ak (wgE Z Z Z hg1) Z Z (an iR Z fZ Z Z (At.whole (H31.box 8 Z))) (ak (wgE Z Z Z hg1) Z Z (an iR Z fZ Z Z (At.whole (H31.box 3 Z))) (co (wgE Z Z Z hg1) Z Z (aO func32 Z oI Z) (eF (by assumption) (H31.msees 7 Z) (by assumption) (H31.sees 8 Z)) (fun w18 e18=>ak (wgE Z Z Z hg1) Z Z (aN Z) (kk1 _ _ (kx Z (kx Z (kx Z (kx Z k0)))) Z (Ext.refl.trans e18)))))) (fun w17 e17=>?_))))));have H32:=H31.to e17;refine sV Z (en Z Z) (aa (bz Z (fun c5=>?_) (fun c5=>?_)))
     ·exact absurd c5 (by simp; omega)
     ·refine ag (ab (sA Z Z (aa (ab (sV Z (an iR Z fZ Z Z (At.whole (H32.box 8 Z))) (sM Z Z (sC func33 AU Z (jQ (H32.mine 7 Z) (H32.nodup1 (i:=7) Z) (by constructor<;>omega)) (fun v10 w19 r10=>?_))))))));obtain ⟨rfl,mx2,mm2,ml2,mk1⟩:=r10;obtain ⟨fp7,H33⟩:=H32.mut 7 Z mm2
      try dsimp only[lNA,lCA,lSZ,lSS] at H33
      refine sA Z Z (aa (ab (sA Z Z (aa (ab (sV Z (an iR Z fZ Z Z (At.whole (H33.box 8 Z))) (sM Z Z (sE func34 tC Z (fX (H33.msees 7 Z) (by constructor<;>omega) (by assumption)) H33 (fun w20 e20 H34=>sA Z Z (aa (ac (ab (sR 2 Z (aa (au Z (fun c6=>?_) (fun c6=>?_))))))))))))))))
      ·exact absurd c6 (by omega)
      ·refine ag (ac (ab (sR 3 Z (aa (au Z (fun c7=>?_) (fun c7=>?_))))))
       ·exact absurd c7 (by omega)
       ·refine ag (ab (sV Z (an mh Z BD Z Z (At.whole (H34.box 0 Z))) (sC func17 lJ Z (er (by assumption) (H34.sees 0 Z) (H34.sees 1 Z) (H34.sees 2 Z) (by assumption)) (fun v12 w21 r12=>?_))));obtain ⟨e21,sa12,sk12,sa13,sk13,sa14,sk14,rfl,r12⟩:=r12;obtain ⟨fp8,H35⟩:=H34.res e21 r12;have H36:=H35.share 10 Z;obtain ⟨sf9,sf10,sf11,sq5,sok5,so9,so10,so11⟩:=iG (H36.seen 13 Z);have H38:=H36.look1 13 Z so9 (fun b hb=>by rw [sq5]; simp [hb]);have H39:=H38.look1 13 Z so10 (fun b hb=>by rw [sq5]; simp [hb]);have H40:=H39.look1 13 Z so11 (fun b hb=>by rw [sq5]; simp [hb]);refine sM Z Z (sC func31 tm Z (hX (by assumption) (H40.sees 14 Z) (H40.sees 15 Z) (H40.sees 16 Z) (by first | assumption | omega) (by first | assumption | omega)) (fun v13 w22 r13=>?_));obtain ⟨e22,sa15,sk15,rfl,r13⟩:=r13;obtain ⟨fp9,H41⟩:=H40.res e22 r13;have H42:=H41.share 11 Z;obtain ⟨sf12,sq6,sok6,so12⟩:=gd (H42.seen 17 Z);have H44:=H42.look1 17 Z so12 (fun b hb=>by rw [sq6]; simp [hb]);refine cI (wn Z) Z zeroValue48 H44 (fun b5 w23 e23 g5 H45=>bE (wn Z) fZ Z Z Z Z H45 12 Z Z (fun w24 e24 H46=>?_));dsimp only[lNA,lCA,lSZ,lSS,bk] at H46;refine aa (ac (ab (sV Z (an iR Z fZ Z Z (At.whole (H46.box 12 Z))) (sV Z (an iR Z fZ Z Z (At.whole (H46.box 3 Z))) (sE func32 oI Z (eF (by assumption) (H46.sees 18 Z) (by assumption) (H46.sees 8 Z)) H46 (fun w25 e25 H47=>sV Z (aN Z) (aa (bz Z (fun c8=>?_) (fun c8=>?_)))))))))
        ·exfalso; simp_all
        ·refine ag (ab (sA Z Z (aa (ab (sV Z (an iR Z fZ Z Z (At.whole (H47.box 8 Z))) (sM Z Z (sE func34 tC Z (fX (H47.msees 7 Z) (by constructor<;>omega) (by assumption)) H47 (fun w26 e26 H48=>sA Z Z (aa (ac (ab (sR 2 Z (aa (au Z (fun c9=>?_) (fun c9=>?_)))))))))))))))
         ·exact absurd c9 (by omega)
         ·refine ag (ac (ab (sR 3 Z (aa (au Z (fun c10=>?_) (fun c10=>?_))))))
          ·exact absurd c10 (by omega)
          ·refine ag (ab (rA hQ results7 Z ?_));exact ⟨H48.ext,Z⟩
end Go.Wk
