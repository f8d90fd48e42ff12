/-
  Laws on walking, and the functions walked, each once: what this claim comes to.
-/
import Derived.Test.YthfpkjhjkbpbiaaGreatZe2
set_option linter.unusedVariables false
set_option linter.unusedSimpArgs false
namespace Go.Wk
open Go.Proofs Rp
set_option maxRecDepth 10000
theorem Tryz_ins0 {w : World} {A : Option Addr} {C : Nat} {gf : FuncId} {gL : List Value}  : Ret Tryz.prog 313 #[.slice A 0 C, .int .i64 (0 : Nat), .int .i64 (0 : Nat), .func (.func gf) #[] gL.toArray] w fun v w' => Ext No w w' ∧ (True) := by
 refine ret_Q (vs := [.slice A 0 C, .int .i64 (0 : Nat), .int .i64 (0 : Nat), .func (.func gf) #[] gL.toArray]) Tryz.func313 rfl Tryz.ntmps313 rfl (fun Q hQ hN => ?_)
 have H0 := Sep.start (w := w) (F := []) (by simp)
 refine W_sr (sM rfl rfl (sV rfl (py_add rfl rfl (in64 ⟨by omega, by omega⟩)) (sA rfl rfl (s_nil (W_block (W_loopS (γ := Unit) H0 [(0, _), (1, _), (2, _), (3, _)] ⟨rfl, rfl, rfl, rfl, trivial⟩ (fun _ => [(8, .int .i64 (1 : Nat))]) (fun _ => True ∧ True) (fun _ => 0) () ⟨rfl, trivial⟩ ⟨trivial, trivial⟩ (fun _ w1 H1 ⟨_, _⟩ => ?_)))))))
 dsimp only [lCA, lNA]
 refine W_seq (W_sr (sM rfl rfl (sM rfl rfl (sV rfl (py_lss rfl rfl) (s_nil (W_ifd rfl (fun c1 => ?_) (fun c1 => ?_)))))))
 ·exfalso
  omega
 ·refine W_exit (hN _ _ (fin0 Tryz.results313 ?_))
  exact ⟨H1.ext, trivial⟩
theorem Tryz_stab0 {w : World} {A : Option Addr} {C : Nat} {gf : FuncId} {gL : List Value}  : Ret Tryz.prog 261 #[.slice A 0 C, .int .i64 (0 : Nat), .func (.func gf) #[] gL.toArray] w fun v w' => Ext No w w' ∧ (True) := by
 refine ret_Q (vs := [.slice A 0 C, .int .i64 (0 : Nat), .func (.func gf) #[] gL.toArray]) Tryz.func261 rfl Tryz.ntmps261 rfl (fun Q hQ hN => ?_)
 have H0 := Sep.start (w := w) (F := []) (by simp)
 refine W_sr (sA rfl rfl (s_nil (W_sr (sM rfl rfl (sA rfl rfl (sA rfl rfl (s_nil (W_seq (W_block (W_loopS (γ := Unit) H0 [(0, _), (1, _), (2, _), (6, _)] ⟨rfl, rfl, rfl, rfl, trivial⟩ (fun _ => [(7, .int .i64 (0 : Nat)), (8, .int .i64 (20 : Nat))]) (fun _ => True ∧ True) (fun _ => 0) () ⟨rfl, rfl, trivial⟩ ⟨trivial, trivial⟩ (fun _ w1 H1 ⟨_, _⟩ => ?_)))))))))))
 dsimp only [lCA, lNA]
 refine W_seq (W_sr (sM rfl rfl (sM rfl rfl (sV rfl (py_leq rfl rfl) (s_nil (W_ifd rfl (fun c1 => ?_) (fun c1 => ?_)))))))
 ·exfalso
  omega
 ·refine W_exit (W_sr (sM rfl rfl (sM rfl rfl (sM rfl rfl (sM rfl rfl (s_call (wn rfl) rfl rfl (pc_call Tryz.func313 rfl Tryz_nm313 rfl) (Tryz_ins0) (fun v1 w2 r1 => ?_)))))))
  have H2 := H1.to r1.1
  refine s_nil (W_block (W_loopS (γ := Unit) H2 [(0, _), (1, _), (2, _)] ⟨rfl, rfl, rfl, trivial⟩ (fun _ => [(6, .int .i64 (20 : Nat))]) (fun _ => True ∧ True) (fun _ => 0) () ⟨rfl, trivial⟩ ⟨trivial, trivial⟩ (fun _ w3 H3 ⟨_, _⟩ => ?_)))
  dsimp only [lCA, lNA]
  refine W_seq (W_sr (sM rfl rfl (sM rfl rfl (sV rfl (py_lss rfl rfl) (s_nil (W_ifd rfl (fun c2 => ?_) (fun c2 => ?_)))))))
  ·exfalso
   omega
  ·refine W_exit (hN _ _ (fin0 Tryz.results261 ?_))
   exact ⟨H3.ext, trivial⟩
theorem Tryz_cmp_isNaN_int64 {w : World} {x : Int}  : Ret Tryz.prog 262 #[.int .i64 x] w fun v w' => Ext No w w' ∧ (v = .bool false) := by
 refine ret_Q (vs := [.int .i64 x]) Tryz.func262 rfl Tryz.ntmps262 rfl (fun Q hQ hN => ?_)
 have H0 := Sep.start (w := w) (F := []) (by simp)
 refine W_sr (sA rfl rfl (s_nil (W_sr (sM rfl rfl (sM rfl rfl (sV rfl (py_neq rfl rfl) (sA rfl rfl (s_nil (rT hQ Tryz.results262 rfl ?_)))))))))
 exact ⟨H0.ext, congrArg Value.bool (by simp)⟩
theorem Tryz_slices_SortStableFunc_impl_Rec_impl_Rec {w : World} {ws : List RecV} {A : Option Addr} {n C : Nat} {fp : List Nat} {gf : FuncId} {gL : List Value} {gF : Func}  (o : own true w [.slice A n C] ws fp) (nd : fp.Nodup)  (gH : Tryz.prog.funcs[gf]? = some gF) (gB : gF.body.isNone = false) (gN : NG gF) (gC : ∀ w1, Ext (· ∈ fp) w w1 → ∀ (x y : Rec) (A6 : Option Addr) (C6 : Nat) (A7 : Option Addr) (C7 : Nat) (A8 : Option Addr) (C8 : Nat) (B6 : Option Addr) (D6 : Nat) (B7 : Option Addr) (D7 : Nat) (B8 : Option Addr) (D8 : Nat), Ret Tryz.prog gf (([x.val A6 C6 A7 C7 A8 C8, y.val B6 D6 B7 D7 B8 D8] : List Value) ++ gL).toArray w1 fun v w' => Ext No w1 w' ∧ v = .int .i64 (cfR x y)) (h0 : 0 < ws.length) (hL : ws.length ≤ 1000000) : Ret Tryz.prog 169 #[.slice A n C, .func (.func gf) #[] gL.toArray] w fun v w' => (∃ ws', Mut w w' fp [.slice A n C] ws' ∧ Stable kLt keyV ws ws') := by
 obtain rfl := own_n o
 obtain ⟨hb0, ho0, had0⟩ := own_addr o 0 (by omega)
 subst had0
 have wL := oL o
 refine ret_Q (vs := [.slice (some ⟨hb0, ho0, none⟩) ws.length C, .func (.func gf) #[] gL.toArray]) Tryz.func169 rfl Tryz.ntmps169 rfl (fun Q hQ hN => ?_)
 have H0 := Sep.begin o nd
 refine W_reg (sM rfl rfl (sM rfl rfl (sV rfl (py_len tu30 rfl) (sM rfl rfl (s_call (wn rfl) rfl rfl (pc_call Tryz.func261 rfl Tryz_nm261 rfl) (Tryz_slices_stableCmpFunc_impl_Rec (m := ws.length) (H0.mine 0 rfl) (H0.nodup1 (i := 0) rfl) rfl gH gB gN (fun w1 e1 => gC w1 (H0.ext.step e1 fun b hb => H0.new b (H0.inB 0 rfl hb))) rfl h0 hL) (fun v1 w1 r1 => ?_))))))
 obtain ⟨y1, mm1, hs1⟩ := r1
 obtain ⟨fp1, H1⟩ := H0.mut 0 rfl mm1
 try dsimp only [lNA, lCA, lSZ, lSS] at H1
 refine s_nil (hN _ _ (fin0 Tryz.results169 ?_))
 exact ⟨_, H1.done, sort_all hs1⟩
theorem Tryz_ssf0 {w : World} {A : Option Addr} {C : Nat} {gf : FuncId} {gL : List Value}  : Ret Tryz.prog 169 #[.slice A 0 C, .func (.func gf) #[] gL.toArray] w fun v w' => Ext No w w' ∧ (True) := by
 refine ret_Q (vs := [.slice A 0 C, .func (.func gf) #[] gL.toArray]) Tryz.func169 rfl Tryz.ntmps169 rfl (fun Q hQ hN => ?_)
 have H0 := Sep.start (w := w) (F := []) (by simp)
 refine W_reg (sM rfl rfl (sM rfl rfl (sV rfl (py_len tu30 rfl) (sM rfl rfl (s_call (wn rfl) rfl rfl (pc_call Tryz.func261 rfl Tryz_nm261 rfl) (Tryz_stab0) (fun v1 w1 r1 => ?_))))))
 have H1 := H0.to r1.1
 refine s_nil (hN _ _ (fin0 Tryz.results169 ?_))
 exact ⟨H1.ext, trivial⟩
theorem Tryz_ssf {w : World} {ws : List RecV} {A : Option Addr} {n C : Nat} {fp : List Nat} {gf : FuncId} {gL : List Value} {gF : Func}  (o : own true w [.slice A n C] ws fp) (nd : fp.Nodup)  (gH : Tryz.prog.funcs[gf]? = some gF) (gB : gF.body.isNone = false) (gN : NG gF) (gC : ∀ w1, Ext (· ∈ fp) w w1 → ∀ (x y : Rec) (A6 : Option Addr) (C6 : Nat) (A7 : Option Addr) (C7 : Nat) (A8 : Option Addr) (C8 : Nat) (B6 : Option Addr) (D6 : Nat) (B7 : Option Addr) (D7 : Nat) (B8 : Option Addr) (D8 : Nat), Ret Tryz.prog gf (([x.val A6 C6 A7 C7 A8 C8, y.val B6 D6 B7 D7 B8 D8] : List Value) ++ gL).toArray w1 fun v w' => Ext No w1 w' ∧ v = .int .i64 (cfR x y)) (hL : ws.length ≤ 1000000) : Ret Tryz.prog 169 #[.slice A n C, .func (.func gf) #[] gL.toArray] w fun v w' => ∃ ws', Mut w w' fp [.slice A n C] ws' ∧ Stable kLt keyV ws ws' := by
 rcases Nat.eq_zero_or_pos ws.length with e | e
 ·obtain rfl := List.eq_nil_of_length_eq_zero e
  obtain rfl := own_n o
  exact Ret.mono Tryz_ssf0 fun v w' h => ⟨[], .none h.1 o nd, stable_nil⟩
 ·exact Tryz_slices_SortStableFunc_impl_Rec_impl_Rec o nd gH gB gN gC e hL
theorem Tryz_cmp_Compare_int64 {w : World} {x y : Int}  : Ret Tryz.prog 172 #[.int .i64 x, .int .i64 y] w fun v w' => Ext No w w' ∧ (v = .int .i64 (cmpI x y)) := by
 refine ret_Q (vs := [.int .i64 x, .int .i64 y]) Tryz.func172 rfl Tryz.ntmps172 rfl (fun Q hQ hN => ?_)
 have H0 := Sep.start (w := w) (F := []) (by simp)
 refine W_sr (sA rfl rfl (s_nil (W_sr (sM rfl rfl (s_call (wn rfl) rfl rfl (pc_call Tryz.func262 rfl Tryz_nm262 rfl) Tryz_cmp_isNaN_int64 (fun v1 w1 r1 => ?_))))))
 obtain ⟨e1, rfl⟩ := r1
 have H1 := H0.to e1
 refine sA rfl rfl (s_nil (W_sr (sM rfl rfl (s_call (wn rfl) rfl rfl (pc_call Tryz.func262 rfl Tryz_nm262 rfl) Tryz_cmp_isNaN_int64 (fun v2 w2 r2 => ?_)))))
 obtain ⟨e2, rfl⟩ := r2
 have H2 := H1.to e2
 refine sA rfl rfl (s_nil (W_seq (W_sr (sM rfl rfl (s_nil (W_if rfl (fun c1 => ?_) (fun c1 => ?_)))))))
 ·refine W_seq (W_sr (sM rfl rfl (s_nil (W_if rfl (fun c2 => ?_) (fun c2 => ?_)))))
  ·refine W_sr (sA rfl rfl (s_nil (rT hQ Tryz.results172 rfl ?_)))
   exact ⟨H2.ext, congrArg (Value.int .i64) (by unfold cmpI; split <;> (try split) <;> simp_all <;> omega)⟩
  ·refine W_skip (W_sr (sA rfl rfl (s_nil (rT hQ Tryz.results172 rfl ?_))))
   exact ⟨H2.ext, congrArg (Value.int .i64) (by unfold cmpI; split <;> (try split) <;> simp_all <;> omega)⟩
 ·refine W_skip (W_seq (W_sr (sM rfl rfl (s_nil (W_if rfl (fun c3 => ?_) (fun c3 => ?_))))))
  ·refine W_sr (sA rfl rfl (s_nil (rT hQ Tryz.results172 rfl ?_)))
   exact ⟨H2.ext, congrArg (Value.int .i64) (by unfold cmpI; split <;> (try split) <;> simp_all <;> omega)⟩
  ·refine W_skip (W_seq (W_sr (sM rfl rfl (sM rfl rfl (sV rfl (py_lss rfl rfl) (s_nil (W_ifd rfl (fun c4 => ?_) (fun c4 => ?_))))))))
   ·refine W_sr (sA rfl rfl (s_nil (rT hQ Tryz.results172 rfl ?_)))
    exact ⟨H2.ext, congrArg (Value.int .i64) (by unfold cmpI; split <;> (try split) <;> simp_all <;> omega)⟩
   ·refine W_skip (W_seq (W_sr (sM rfl rfl (sM rfl rfl (sV rfl (py_gtr rfl rfl) (s_nil (W_ifd rfl (fun c5 => ?_) (fun c5 => ?_))))))))
    ·refine W_sr (sA rfl rfl (s_nil (rT hQ Tryz.results172 rfl ?_)))
     exact ⟨H2.ext, congrArg (Value.int .i64) (by unfold cmpI; split <;> (try split) <;> simp_all <;> omega)⟩
    ·refine W_skip (W_sr (sA rfl rfl (s_nil (rT hQ Tryz.results172 rfl ?_))))
     exact ⟨H2.ext, congrArg (Value.int .i64) (by unfold cmpI; split <;> (try split) <;> simp_all <;> omega)⟩
theorem Tryz_cmp_Or_int {w : World} {xs : List Int} {xsA : Option Addr} {xsC : Nat} (xsS : Sees w [.slice xsA xs.length xsC] xs) : Ret Tryz.prog 171 #[.slice xsA xs.length xsC] w fun v w' => Ext No w w' ∧ (v = .int .i64 (orI xs)) := by
 have xsL := sL xsS
 obtain ⟨xsF, xsO⟩ := xsS
 refine ret_Q (vs := [.slice xsA xs.length xsC]) Tryz.func171 rfl Tryz.ntmps171 rfl (fun Q hQ hN => ?_)
 have H0 := Sep.start (w := w) (F := [seen false [.slice xsA xs.length xsC] xs xsF]) (all_cons xsO (by simp))
 refine W_sr (sA rfl rfl (s_nil (W_sr (sA rfl rfl (s_nil (W_seq (W_sr (sM rfl rfl (sV rfl (py_len tu229 rfl) (sM rfl rfl (s_nil (W_block (W_loopS (γ := Nat) H0 [(3, _), (6, _), (7, _)] ⟨rfl, rfl, rfl, trivial⟩ (fun k => [(8, .int .i64 k)]) (fun k => k ≤ xs.length ∧ (∀ i, i < k → xs.getD i 0 = 0)) (fun k => xs.length - k) 0 ⟨rfl, trivial⟩ ⟨by omega, fun i hi => by omega⟩ (fun k w1 H1 ⟨hk, he⟩ => ?_))))))))))))))
 dsimp only [lCA, lNA]
 refine W_sr (sV rfl (py_lss rfl rfl) (s_nil (W_seq (W_ifd rfl (fun c1 => ?_) (fun c1 => ?_)))))
 ·refine W_skip (W_seq (W_block (W_seq ?_)))
  obtain ⟨eb1, eo1, ee1, ec1⟩ := elem_int (H1.seen 0 rfl) k (by omega)
  have eI1 := elem_i64 (H1.seen 0 rfl) k (by omega)
  refine W_reg (sV rfl (py_elz tu229 ts3 rfl rfl ee1 k (by omega) (by omega)) (sV rfl (py_load tu3 rfl rfl ec1) (sA rfl rfl (s_nil (W_sr (sM rfl rfl (sM rfl rfl (sV rfl (py_neq rfl rfl) (s_nil (W_ifd rfl (fun c2 => ?_) (fun c2 => ?_)))))))))))
  ·refine W_sr (sM rfl rfl (sA rfl rfl (s_nil (rT hQ Tryz.results171 rfl ?_))))
   exact ⟨H1.ext, congrArg (Value.int .i64) (or_yes (k := k) (by omega) he c2).symm⟩
  ·refine W_skip (W_reg (sV rfl (py_add rfl rfl (in64 ⟨by omega, by omega⟩)) (sM rfl rfl (s_nil (⟨k + 1, ⟨rfl, rfl, rfl, rfl, trivial⟩, ⟨H1, by omega, fun i hi => ?_⟩, by dsimp only; omega⟩)))))
   by_cases e : i = k
   ·subst e
    omega
   ·exact he i (by omega)
 ·refine W_exit (W_sr (sM rfl rfl (sA rfl rfl (s_nil (rT hQ Tryz.results171 rfl ?_)))))
  exact ⟨H1.ext, congrArg (Value.int .i64) (or_no (fun i hi => he i (by omega))).symm⟩
theorem Tryz_impl_World_counted_1 {w : World} {x y : Rec} {xA6 xA7 xA8 yA6 yA7 yA8 : Option Addr} {xC6 xC7 xC8 yC6 yC7 yC8 : Nat}  : Ret Tryz.prog 170 #[x.val xA6 xC6 xA7 xC7 xA8 xC8, y.val yA6 yC6 yA7 yC7 yA8 yC8] w fun v w' => Ext No w w' ∧ (v = .int .i64 (cfR x y)) := by
 have b1 := cmpI_bd (a := x.Seq) (b := y.Seq)
 have b2 := cmpI_bd (a := x.Kind) (b := y.Kind)
 have b3 := cmpI_bd (a := x.Group) (b := y.Group)
 refine ret_Q (vs := [x.val xA6 xC6 xA7 xC7 xA8 xC8, y.val yA6 yC6 yA7 yC7 yA8 yC8]) Tryz.func170 rfl Tryz.ntmps170 rfl (fun Q hQ hN => ?_)
 have H0 := Sep.start (w := w) (F := []) (by simp)
 refine W_sr (s_box (wn rfl) rfl rfl H0 (fun b1 w1 e1 g1 H1 => ?_))
 refine s_box (wn rfl) rfl rfl H1 (fun b2 w2 e2 g2 H2 => ?_)
 refine sA rfl rfl (s_nil (W_seq (W_drw (S := Ext No _) [(0, true), (1, true), (2, true), (3, true), (5, true), (6, true), (7, true), (8, true), (10, true), (11, true), (12, true), (13, true), (4, false), (9, false), (14, false), (15, false), (16, false), (17, false)] (by kernel_rfl) (by kernel_rfl) (by kernel_rfl) rfl (fun _ => Ext.refl.drawn _) (fun q1 => ?_))))
 have H3 := H2.drawn q1
 refine dV rfl rfl (fun zw hx => py_field tu68 rfl ts2 rfl rfl) (dV rfl rfl (fun zw hx => py_load tu2 rfl rfl (cell_atL (hx.heap (H3.box 0 rfl)) rfl)) (dV rfl rfl (fun zw hx => py_field tu68 rfl ts2 rfl rfl) (dV rfl rfl (fun zw hx => py_load tu2 rfl rfl (cell_atL (hx.heap (H3.box 1 rfl)) rfl)) (dV rfl rfl (fun zw hx => py_field tu68 rfl ts2 rfl rfl) (dV rfl rfl (fun zw hx => py_load tu2 rfl rfl (cell_atL (hx.heap (H3.box 0 rfl)) rfl)) (dV rfl rfl (fun zw hx => py_field tu68 rfl ts2 rfl rfl) (dV rfl rfl (fun zw hx => py_load tu2 rfl rfl (cell_atL (hx.heap (H3.box 1 rfl)) rfl)) (dV rfl rfl (fun zw hx => py_field tu68 rfl ts2 rfl rfl) (dV rfl rfl (fun zw hx => py_load tu2 rfl rfl (cell_atL (hx.heap (H3.box 0 rfl)) rfl)) (dV rfl rfl (fun zw hx => py_field tu68 rfl ts2 rfl rfl) (dV rfl rfl (fun zw hx => py_load tu2 rfl rfl (cell_atL (hx.heap (H3.box 1 rfl)) rfl)) (d_call rfl (wn rfl) rfl rfl (pc_call Tryz.func172 rfl Tryz_nm172 rfl) Tryz_cmp_Compare_int64 (fun hS _ _ r _ => hS.trans r.1.no) (fun v1 w3 r1 => ?_)))))))))))))
 obtain ⟨e3, rfl⟩ := r1
 have H4 := H3.to e3
 refine d_call rfl (wn rfl) rfl rfl (pc_call Tryz.func172 rfl Tryz_nm172 rfl) Tryz_cmp_Compare_int64 (fun hS _ _ r _ => hS.trans r.1.no) (fun v2 w4 r2 => ?_)
 obtain ⟨e4, rfl⟩ := r2
 have H5 := H4.to e4
 refine d_call rfl (wn rfl) rfl rfl (pc_call Tryz.func172 rfl Tryz_nm172 rfl) Tryz_cmp_Compare_int64 (fun hS _ _ r _ => hS.trans r.1.no) (fun v3 w5 r3 => ?_)
 obtain ⟨e5, rfl⟩ := r3
 have H6 := H5.to e5
 refine d_litI ([cmpI x.Seq y.Seq, cmpI x.Kind y.Kind, cmpI x.Group y.Group]) rfl (wn rfl) rfl tu229 Tryz_ty3 rfl rfl (by intro x hx; unfold I64ok; simp only [List.mem_cons, List.not_mem_nil, or_false] at hx; omega) (by simp) (by simp) H6 (fun _ h e => h.trans e.no) (fun b3 w6 e6 g3 H7 => ?_)
 refine d_call rfl (wn rfl) rfl rfl (pc_call Tryz.func171 rfl Tryz_nm171 rfl) (Tryz_cmp_Or_int (H7.msees 2 rfl)) (fun hS _ _ r _ => hS.trans r.1.no) (fun v4 w7 r4 => ?_)
 obtain ⟨e7, rfl⟩ := r4
 have H8 := H7.to e7
 refine d_end rfl (wn rfl) rfl rfl (py_assign rfl) (d_nil (rT hQ Tryz.results170 rfl ?_))
 exact ⟨H8.ext, congrArg (Value.int .i64) or_cf⟩
theorem Tryz_impl_has_1 {w : World} {x r : Rec} {xA6 xA7 xA8 rA6 rA7 rA8 : Option Addr} {xC6 xC7 xC8 rb rC6 rC7 rC8 : Nat} (xK : x.Ok) (xS6 : Sees w [.slice xA6 x.Rows.length xC6] x.Rows) (xS7 : Sees w [.slice xA7 x.Data.length xC7] x.Data) (xS8 : Sees w [.slice xA8 x.Delta.length xC8] x.Delta) (rB : w.heap[rb]? = some (.cells [.int .i64 r.Kind, .int .i64 r.Seq, .string r.Name, .int .i64 r.Length, .int .i64 r.Group, .int .i64 r.Row, .slice rA6 r.Rows.length rC6, .slice rA7 r.Data.length rC7, .slice rA8 r.Delta.length rC8].toArray 68)) (rK : r.Ok) (rS6 : Sees w [.slice rA6 r.Rows.length rC6] r.Rows) (rS7 : Sees w [.slice rA7 r.Data.length rC7] r.Data) (rS8 : Sees w [.slice rA8 r.Delta.length rC8] r.Delta) : Ret Tryz.prog 260 #[x.val xA6 xC6 xA7 xC7 xA8 xC8, .pointer (some ⟨rb, 0, none⟩)] w fun v w' => Ext No w w' ∧ (v = .bool (decide (x = r))) := by
 have xK2 := xK
 unfold Rec.Ok at xK2
 try unfold I64ok at xK2
 try unfold maxLen at xK2
 have xN2 : x.Name.size ≤ maxLen := by unfold maxLen; omega
 have xL6 := sL xS6
 obtain ⟨xF6, xO6⟩ := xS6
 have xL7 := sL xS7
 obtain ⟨xF7, xO7⟩ := xS7
 have xL8 := sL xS8
 obtain ⟨xF8, xO8⟩ := xS8
 have rK2 := rK
 unfold Rec.Ok at rK2
 try unfold I64ok at rK2
 try unfold maxLen at rK2
 have rN2 : r.Name.size ≤ maxLen := by unfold maxLen; omega
 have rL6 := sL rS6
 obtain ⟨rF6, rO6⟩ := rS6
 have rL7 := sL rS7
 obtain ⟨rF7, rO7⟩ := rS7
 have rL8 := sL rS8
 obtain ⟨rF8, rO8⟩ := rS8
 refine ret_Q (vs := [x.val xA6 xC6 xA7 xC7 xA8 xC8, .pointer (some ⟨rb, 0, none⟩)]) Tryz.func260 rfl Tryz.ntmps260 rfl (fun Q hQ hN => ?_)
 have H0 := Sep.start (w := w) (F := [seen false [.slice xA6 x.Rows.length xC6] x.Rows xF6, seen false [.slice xA7 x.Data.length xC7] x.Data xF7, seen false [.slice xA8 x.Delta.length xC8] x.Delta xF8, box rb (.cells [.int .i64 r.Kind, .int .i64 r.Seq, .string r.Name, .int .i64 r.Length, .int .i64 r.Group, .int .i64 r.Row, .slice rA6 r.Rows.length rC6, .slice rA7 r.Data.length rC7, .slice rA8 r.Delta.length rC8].toArray 68), seen false [.slice rA6 r.Rows.length rC6] r.Rows rF6, seen false [.slice rA7 r.Data.length rC7] r.Data rF7, seen false [.slice rA8 r.Delta.length rC8] r.Delta rF8]) (all_cons xO6 (all_cons xO7 (all_cons xO8 (all_cons (by exact rB) (all_cons rO6 (all_cons rO7 (all_cons rO8 (by simp))))))))
 refine W_sr (s_box (wn rfl) rfl rfl H0 (fun b1 w1 e1 g1 H1 => ?_))
 refine sA rfl rfl (s_nil (W_sr (sV rfl (py_loadS tu68 rfl ts68 rfl rfl (At.whole (H1.box 0 rfl))) (sV rfl (py_loadS tu68 rfl ts68 rfl rfl (At.whole (H1.fbox 3 rfl))) (s_call (wn rfl) rfl rfl (pc_call Tryz.func204 rfl Tryz_nm204 rfl) (Tryz_impl_sameRec (by assumption) (H1.sees 0 rfl) (H1.sees 1 rfl) (H1.sees 2 rfl) (by assumption) (H1.sees 4 rfl) (H1.sees 5 rfl) (H1.sees 6 rfl)) (fun v1 w2 r1 => ?_))))))
 obtain ⟨e2, rfl⟩ := r1
 have H2 := H1.to e2
 refine sA rfl rfl (s_nil (rT hQ Tryz.results260 rfl ?_))
 exact ⟨H2.ext, rfl⟩
theorem Tryz_impl_has {w : World} {xs : List Rec} {xsA rA6 rA7 rA8 : Option Addr} {xsC rC6 rC7 rC8 : Nat} {r : Rec} (xsS : Sees w [.slice xsA xs.length xsC] xs) (rK : r.Ok) (rS6 : Sees w [.slice rA6 r.Rows.length rC6] r.Rows) (rS7 : Sees w [.slice rA7 r.Data.length rC7] r.Data) (rS8 : Sees w [.slice rA8 r.Delta.length rC8] r.Delta) : Ret Tryz.prog 168 #[.slice xsA xs.length xsC, r.val rA6 rC6 rA7 rC7 rA8 rC8] w fun v w' => Ext No w w' ∧ (v = .bool (decide (r ∈ xs))) := by
 have xsL := sL xsS
 obtain ⟨xsF, xsO⟩ := xsS
 have rK2 := rK
 unfold Rec.Ok at rK2
 try unfold I64ok at rK2
 try unfold maxLen at rK2
 have rN2 : r.Name.size ≤ maxLen := by unfold maxLen; omega
 have rL6 := sL rS6
 obtain ⟨rF6, rO6⟩ := rS6
 have rL7 := sL rS7
 obtain ⟨rF7, rO7⟩ := rS7
 have rL8 := sL rS8
 obtain ⟨rF8, rO8⟩ := rS8
 refine ret_Q (vs := [.slice xsA xs.length xsC, r.val rA6 rC6 rA7 rC7 rA8 rC8]) Tryz.func168 rfl Tryz.ntmps168 rfl (fun Q hQ hN => ?_)
 have H0 := Sep.start (w := w) (F := [seen false [.slice xsA xs.length xsC] xs xsF, seen false [.slice rA6 r.Rows.length rC6] r.Rows rF6, seen false [.slice rA7 r.Data.length rC7] r.Data rF7, seen false [.slice rA8 r.Delta.length rC8] r.Delta rF8]) (all_cons xsO (all_cons rO6 (all_cons rO7 (all_cons rO8 (by simp)))))
 refine W_sr (s_box (wn rfl) rfl rfl H0 (fun b1 w1 e1 g1 H1 => ?_))
 refine sA rfl rfl (s_nil (W_sr (sM rfl rfl (sV rfl (py_func rfl) (s_call (wn rfl) rfl rfl (pc_call Tryz.func221 rfl Tryz_nm221 rfl) (Tryz_ContainsFunc_Rec (H1.sees 0 rfl) (p := (fun x => decide (x = r))) Tryz.func260 rfl Tryz_nm260 (fun w1 e1 i0 hi0 _ _ _ _ _ _ K0 o0_6 o0_7 o0_8 => Tryz_impl_has_1 K0 o0_6 o0_7 o0_8 ((H1.to e1).box 0 rfl) (by assumption) ((H1.to e1).sees 1 rfl) ((H1.to e1).sees 2 rfl) ((H1.to e1).sees 3 rfl))) (fun v1 w2 r1 => ?_))))))
 obtain ⟨e2, rfl⟩ := r1
 have H2 := H1.to e2
 refine sA rfl rfl (s_nil (rT hQ Tryz.results168 rfl ?_))
 exact ⟨H2.ext, congrArg Value.bool any_eq⟩
theorem Tryz_spec_l6Nums {w : World} {xs ys : List Int} {xsA ysA : Option Addr} {xsC ysC : Nat} (xsS : Sees w [.slice xsA xs.length xsC] xs) (ysS : Sees w [.slice ysA ys.length ysC] ys) : Ret Tryz.prog 306 #[.slice xsA xs.length xsC, .slice ysA ys.length ysC] w fun v w' => Ext No w w' ∧ (v = .bool (decide (xs = ys))) := by
 have xsL := sL xsS
 obtain ⟨xsF, xsO⟩ := xsS
 have ysL := sL ysS
 obtain ⟨ysF, ysO⟩ := ysS
 refine ret_Q (vs := [.slice xsA xs.length xsC, .slice ysA ys.length ysC]) Tryz.func306 rfl Tryz.ntmps306 rfl (fun Q hQ hN => ?_)
 have H0 := Sep.start (w := w) (F := [seen false [.slice xsA xs.length xsC] xs xsF, seen false [.slice ysA ys.length ysC] ys ysF]) (all_cons xsO (all_cons ysO (by simp)))
 refine W_sr (sA rfl rfl (s_nil (W_seq (W_sr (sM rfl rfl (sV rfl (py_len tu25 rfl) (sM rfl rfl (sV rfl (py_len tu25 rfl) (sV rfl (py_neq rfl rfl) (s_nil (W_ifd rfl (fun c1 => ?_) (fun c1 => ?_))))))))))))
 ·refine W_sr (sA rfl rfl (s_nil (rT hQ Tryz.results306 rfl (⟨H0.ext, ?_⟩))))
  rw [decide_eq_false (fun e => by subst e; exact c1 rfl)]
 ·refine W_skip (W_seq (W_sr (sA rfl rfl (s_nil (W_block (W_loopS (γ := Nat) H0 [(0, _), (1, _)] ⟨rfl, rfl, trivial⟩ (fun k => [(5, .int .i64 k)]) (fun k => k ≤ xs.length ∧ (∀ i, i < k → xs.getD i 0 = ys.getD i 0)) (fun k => xs.length - k) 0 ⟨rfl, trivial⟩ ⟨by omega, fun i hi => by omega⟩ (fun k w1 H1 ⟨hk, he⟩ => ?_)))))))
  dsimp only [lCA, lNA]
  refine W_seq (W_sr (sM rfl rfl (sM rfl rfl (sV rfl (py_len tu25 rfl) (sV rfl (py_lss rfl rfl) (s_nil (W_ifd rfl (fun c2 => ?_) (fun c2 => ?_))))))))
  ·refine W_skip (W_seq (W_block (W_seq ?_)))
   obtain ⟨eb1, eo1, ee1, ec1⟩ := elem_int (H1.seen 0 rfl) k (by omega)
   have eI1 := elem_i64 (H1.seen 0 rfl) k (by omega)
   obtain ⟨eb2, eo2, ee2, ec2⟩ := elem_int (H1.seen 1 rfl) k (by omega)
   have eI2 := elem_i64 (H1.seen 1 rfl) k (by omega)
   refine W_drw (S := Ext No _) [(0, true), (1, true), (2, true), (3, true), (4, true), (5, true), (6, true), (7, true), (8, false)] (by kernel_rfl) (by kernel_rfl) (by kernel_rfl) rfl (fun _ => Ext.refl.drawn _) (fun q1 => ?_)
   have H2 := H1.drawn q1
   refine dM rfl rfl rfl (dM rfl rfl rfl (dV rfl rfl (fun zw hx => py_elz tu25 ts2 rfl rfl ee1 k (by omega) (by omega)) (dV rfl rfl (fun zw hx => py_load tu2 rfl rfl (hx.cell ec1)) (dM rfl rfl rfl (dM rfl rfl rfl (dV rfl rfl (fun zw hx => py_elz tu25 ts2 rfl rfl ee2 k (by omega) (by omega)) (dV rfl rfl (fun zw hx => py_load tu2 rfl rfl (hx.cell ec2)) (d_end rfl (wn rfl) rfl rfl (py_neq rfl rfl) (d_nil (W_ifd rfl (fun c3 => ?_) (fun c3 => ?_)))))))))))
   ·refine W_sr (sA rfl rfl (s_nil (rT hQ Tryz.results306 rfl (⟨H2.ext, ?_⟩))))
    rw [decide_eq_false (fun e => by subst e; exact c3 rfl)]
   ·refine W_skip (W_reg (sM rfl rfl (sV rfl (py_add rfl rfl (in64 ⟨by omega, by omega⟩)) (sA rfl rfl (s_nil (⟨k + 1, ⟨rfl, rfl, rfl, trivial⟩, ⟨H2, by omega, fun i hi => ?_⟩, by dsimp only; omega⟩))))))
    by_cases e : i = k
    ·subst e
     omega
    ·exact he i (by omega)
  ·refine W_exit (W_sr (sA rfl rfl (s_nil (rT hQ Tryz.results306 rfl (⟨H1.ext, ?_⟩)))))
   rw [decide_eq_true (getD_ext (d := 0) (by omega) fun i hi => he i (by omega))]
theorem Tryz_l2Same_c {w : World} {xs ys : List UInt8} {xsA ysA : Option Addr} {xsC ysC : Nat} (xsS : Sees w [.slice xsA xs.length xsC] xs) (ysS : Sees w [.slice ysA ys.length ysC] ys) : Ret Tryz.prog 259 #[.slice xsA xs.length xsC, .slice ysA ys.length ysC] w fun v w' => Ext No w w' ∧ (v = .bool (decide (xs = ys))) := by
 have xsL := sL xsS
 obtain ⟨xsF, xsO⟩ := xsS
 have ysL := sL ysS
 obtain ⟨ysF, ysO⟩ := ysS
 refine ret_Q (vs := [.slice xsA xs.length xsC, .slice ysA ys.length ysC]) Tryz.func259 rfl Tryz.ntmps259 rfl (fun Q hQ hN => ?_)
 have H0 := Sep.start (w := w) (F := [seen false [.slice xsA xs.length xsC] xs xsF, seen false [.slice ysA ys.length ysC] ys ysF]) (all_cons xsO (all_cons ysO (by simp)))
 refine W_sr (sA rfl rfl (s_nil (W_seq (W_sr (sM rfl rfl (sV rfl (py_len tu45 rfl) (sM rfl rfl (sV rfl (py_len tu45 rfl) (sV rfl (py_neq rfl rfl) (s_nil (W_ifd rfl (fun c1 => ?_) (fun c1 => ?_))))))))))))
 ·refine W_sr (sA rfl rfl (s_nil (rT hQ Tryz.results259 rfl (⟨H0.ext, ?_⟩))))
  rw [decide_eq_false (fun e => by subst e; exact c1 rfl)]
 ·refine W_skip (W_seq (W_sr (sA rfl rfl (s_nil (W_block (W_loopS (γ := Nat) H0 [(0, _), (1, _)] ⟨rfl, rfl, trivial⟩ (fun k => [(5, .int .i64 k)]) (fun k => k ≤ xs.length ∧ (∀ i, i < k → xs.getD i 0 = ys.getD i 0)) (fun k => xs.length - k) 0 ⟨rfl, trivial⟩ ⟨by omega, fun i hi => by omega⟩ (fun k w1 H1 ⟨hk, he⟩ => ?_)))))))
  dsimp only [lCA, lNA]
  refine W_seq (W_sr (sM rfl rfl (sM rfl rfl (sV rfl (py_len tu45 rfl) (sV rfl (py_lss rfl rfl) (s_nil (W_ifd rfl (fun c2 => ?_) (fun c2 => ?_))))))))
  ·refine W_skip (W_seq (W_block (W_seq ?_)))
   obtain ⟨eb1, eo1, ee1, ec1⟩ := elem_u8 (H1.seen 0 rfl) k (by omega)
   obtain ⟨eb2, eo2, ee2, ec2⟩ := elem_u8 (H1.seen 1 rfl) k (by omega)
   refine W_drw (S := Ext No _) [(0, true), (1, true), (2, true), (3, true), (4, true), (5, true), (6, true), (7, true), (8, false)] (by kernel_rfl) (by kernel_rfl) (by kernel_rfl) rfl (fun _ => Ext.refl.drawn _) (fun q1 => ?_)
   have H2 := H1.drawn q1
   refine dM rfl rfl rfl (dM rfl rfl rfl (dV rfl rfl (fun zw hx => py_elz tu45 ts5 rfl rfl ee1 k (by omega) (by omega)) (dV rfl rfl (fun zw hx => py_load tu5 rfl rfl (hx.cell ec1)) (dM rfl rfl rfl (dM rfl rfl rfl (dV rfl rfl (fun zw hx => py_elz tu45 ts5 rfl rfl ee2 k (by omega) (by omega)) (dV rfl rfl (fun zw hx => py_load tu5 rfl rfl (hx.cell ec2)) (d_end rfl (wn rfl) rfl rfl (py_neq rfl rfl) (d_nil (W_ifd rfl (fun c3 => ?_) (fun c3 => ?_)))))))))))
   ·refine W_sr (sA rfl rfl (s_nil (rT hQ Tryz.results259 rfl (⟨H2.ext, ?_⟩))))
    rw [decide_eq_false (fun e => by subst e; exact c3 rfl)]
   ·refine W_skip (W_reg (sM rfl rfl (sV rfl (py_add rfl rfl (in64 ⟨by omega, by omega⟩)) (sA rfl rfl (s_nil (⟨k + 1, ⟨rfl, rfl, rfl, trivial⟩, ⟨H2, by omega, fun i hi => ?_⟩, by dsimp only; omega⟩))))))
    by_cases e : i = k
    ·subst e
     (apply u8_inj.1; omega)
    ·exact he i (by omega)
  ·refine W_exit (W_sr (sA rfl rfl (s_nil (rT hQ Tryz.results259 rfl (⟨H1.ext, ?_⟩)))))
   rw [decide_eq_true (getD_ext (d := 0) (by omega) fun i hi => he i (by omega))]
theorem Tryz_spec_SameRec {w : World} {a b : Rec} {aA6 aA7 aA8 bA6 bA7 bA8 : Option Addr} {aC6 aC7 aC8 bC6 bC7 bC8 : Nat} (aK : a.Ok) (aS6 : Sees w [.slice aA6 a.Rows.length aC6] a.Rows) (aS7 : Sees w [.slice aA7 a.Data.length aC7] a.Data) (aS8 : Sees w [.slice aA8 a.Delta.length aC8] a.Delta) (bK : b.Ok) (bS6 : Sees w [.slice bA6 b.Rows.length bC6] b.Rows) (bS7 : Sees w [.slice bA7 b.Data.length bC7] b.Data) (bS8 : Sees w [.slice bA8 b.Delta.length bC8] b.Delta) : Ret Tryz.prog 233 #[a.val aA6 aC6 aA7 aC7 aA8 aC8, b.val bA6 bC6 bA7 bC7 bA8 bC8] w fun v w' => Ext No w w' ∧ (v = .bool (decide (a = b))) := by
 have aK2 := aK
 unfold Rec.Ok at aK2
 try unfold I64ok at aK2
 try unfold maxLen at aK2
 have aN2 : a.Name.size ≤ maxLen := by unfold maxLen; omega
 have aL6 := sL aS6
 obtain ⟨aF6, aO6⟩ := aS6
 have aL7 := sL aS7
 obtain ⟨aF7, aO7⟩ := aS7
 have aL8 := sL aS8
 obtain ⟨aF8, aO8⟩ := aS8
 have bK2 := bK
 unfold Rec.Ok at bK2
 try unfold I64ok at bK2
 try unfold maxLen at bK2
 have bN2 : b.Name.size ≤ maxLen := by unfold maxLen; omega
 have bL6 := sL bS6
 obtain ⟨bF6, bO6⟩ := bS6
 have bL7 := sL bS7
 obtain ⟨bF7, bO7⟩ := bS7
 have bL8 := sL bS8
 obtain ⟨bF8, bO8⟩ := bS8
 refine ret_Q (vs := [a.val aA6 aC6 aA7 aC7 aA8 aC8, b.val bA6 bC6 bA7 bC7 bA8 bC8]) Tryz.func233 rfl Tryz.ntmps233 rfl (fun Q hQ hN => ?_)
 have H0 := Sep.start (w := w) (F := [seen false [.slice aA6 a.Rows.length aC6] a.Rows aF6, seen false [.slice aA7 a.Data.length aC7] a.Data aF7, seen false [.slice aA8 a.Delta.length aC8] a.Delta aF8, seen false [.slice bA6 b.Rows.length bC6] b.Rows bF6, seen false [.slice bA7 b.Data.length bC7] b.Data bF7, seen false [.slice bA8 b.Delta.length bC8] b.Delta bF8]) (all_cons aO6 (all_cons aO7 (all_cons aO8 (all_cons bO6 (all_cons bO7 (all_cons bO8 (by simp)))))))
 refine W_sr (s_box (wn rfl) rfl rfl H0 (fun b1 w1 e1 g1 H1 => ?_))
 refine s_box (wn rfl) rfl rfl H1 (fun b2 w2 e2 g2 H2 => ?_)
 refine sA rfl rfl (s_nil (W_sr (sV rfl (py_field tu68 rfl ts2 rfl rfl) (sV rfl (py_load tu2 rfl rfl (cell_atL (H2.box 0 rfl) rfl)) (sV rfl (py_field tu68 rfl ts2 rfl rfl) (sV rfl (py_load tu2 rfl rfl (cell_atL (H2.box 1 rfl) rfl)) (sV rfl (py_eql rfl rfl) (sM rfl rfl (s_grp 5 (j := 5) (want := true) (t := 15) rfl rfl rfl rfl (fun hg1 kk1 => s_val (wgE rfl rfl rfl hg1) rfl rfl (py_field tu68 rfl ts2 rfl rfl) (s_val (wgE rfl rfl rfl hg1) rfl rfl (py_load tu2 rfl rfl (cell_atL (H2.box 0 rfl) rfl)) (s_val (wgE rfl rfl rfl hg1) rfl rfl (py_field tu68 rfl ts2 rfl rfl) (s_val (wgE rfl rfl rfl hg1) rfl rfl (py_load tu2 rfl rfl (cell_atL (H2.box 1 rfl) rfl)) (s_val (wgE rfl rfl rfl hg1) rfl rfl (py_eql rfl rfl) (kk1 _ _ (kx rfl (kx rfl (kx rfl (kx rfl (kx rfl k0))))) rfl Ext.refl)))))) (fun w3 e3 => ?_))))))))))
 have H3 := H2.to e3
 refine sV rfl (py_band rfl rfl) (sM rfl rfl (s_grp 5 (j := 12) (want := true) (t := 22) rfl rfl rfl rfl (fun hg2 kk2 => s_val (wgE rfl rfl rfl hg2) rfl rfl (py_field tu68 rfl ts9 rfl rfl) (s_val (wgE rfl rfl rfl hg2) rfl rfl (py_load tu9 rfl rfl (cell_atL (H3.box 0 rfl) rfl)) (s_val (wgE rfl rfl rfl hg2) rfl rfl (py_field tu68 rfl ts9 rfl rfl) (s_val (wgE rfl rfl rfl hg2) rfl rfl (py_load tu9 rfl rfl (cell_atL (H3.box 1 rfl) rfl)) (s_val (wgE rfl rfl rfl hg2) rfl rfl (py_seql rfl rfl) (kk2 _ _ (kx rfl (kx rfl (kx rfl (kx rfl (kx rfl k0))))) rfl Ext.refl)))))) (fun w4 e4 => ?_)))
 have H4 := H3.to e4
 refine sV rfl (py_band rfl rfl) (sM rfl rfl (s_grp 5 (j := 19) (want := true) (t := 29) rfl rfl rfl rfl (fun hg3 kk3 => s_val (wgE rfl rfl rfl hg3) rfl rfl (py_field tu68 rfl ts2 rfl rfl) (s_val (wgE rfl rfl rfl hg3) rfl rfl (py_load tu2 rfl rfl (cell_atL (H4.box 0 rfl) rfl)) (s_val (wgE rfl rfl rfl hg3) rfl rfl (py_field tu68 rfl ts2 rfl rfl) (s_val (wgE rfl rfl rfl hg3) rfl rfl (py_load tu2 rfl rfl (cell_atL (H4.box 1 rfl) rfl)) (s_val (wgE rfl rfl rfl hg3) rfl rfl (py_eql rfl rfl) (kk3 _ _ (kx rfl (kx rfl (kx rfl (kx rfl (kx rfl k0))))) rfl Ext.refl)))))) (fun w5 e5 => ?_)))
 have H5 := H4.to e5
 refine sV rfl (py_band rfl rfl) (sM rfl rfl (s_grp 5 (j := 26) (want := true) (t := 36) rfl rfl rfl rfl (fun hg4 kk4 => s_val (wgE rfl rfl rfl hg4) rfl rfl (py_field tu68 rfl ts2 rfl rfl) (s_val (wgE rfl rfl rfl hg4) rfl rfl (py_load tu2 rfl rfl (cell_atL (H5.box 0 rfl) rfl)) (s_val (wgE rfl rfl rfl hg4) rfl rfl (py_field tu68 rfl ts2 rfl rfl) (s_val (wgE rfl rfl rfl hg4) rfl rfl (py_load tu2 rfl rfl (cell_atL (H5.box 1 rfl) rfl)) (s_val (wgE rfl rfl rfl hg4) rfl rfl (py_eql rfl rfl) (kk4 _ _ (kx rfl (kx rfl (kx rfl (kx rfl (kx rfl k0))))) rfl Ext.refl)))))) (fun w6 e6 => ?_)))
 have H6 := H5.to e6
 refine sV rfl (py_band rfl rfl) (sM rfl rfl (s_grp 5 (j := 33) (want := true) (t := 43) rfl rfl rfl rfl (fun hg5 kk5 => s_val (wgE rfl rfl rfl hg5) rfl rfl (py_field tu68 rfl ts2 rfl rfl) (s_val (wgE rfl rfl rfl hg5) rfl rfl (py_load tu2 rfl rfl (cell_atL (H6.box 0 rfl) rfl)) (s_val (wgE rfl rfl rfl hg5) rfl rfl (py_field tu68 rfl ts2 rfl rfl) (s_val (wgE rfl rfl rfl hg5) rfl rfl (py_load tu2 rfl rfl (cell_atL (H6.box 1 rfl) rfl)) (s_val (wgE rfl rfl rfl hg5) rfl rfl (py_eql rfl rfl) (kk5 _ _ (kx rfl (kx rfl (kx rfl (kx rfl (kx rfl k0))))) rfl Ext.refl)))))) (fun w7 e7 => ?_)))
 have H7 := H6.to e7
 refine sV rfl (py_band rfl rfl) (sM rfl rfl (s_grp 5 (j := 40) (want := true) (t := 50) rfl rfl rfl rfl (fun hg6 kk6 => s_val (wgE rfl rfl rfl hg6) rfl rfl (py_field tu68 rfl ts25 rfl rfl) (s_val (wgE rfl rfl rfl hg6) rfl rfl (py_load tu25 rfl rfl (cell_atL (H7.box 0 rfl) rfl)) (s_val (wgE rfl rfl rfl hg6) rfl rfl (py_field tu68 rfl ts25 rfl rfl) (s_val (wgE rfl rfl rfl hg6) rfl rfl (py_load tu25 rfl rfl (cell_atL (H7.box 1 rfl) rfl)) (s_callv (wgE rfl rfl rfl hg6) rfl rfl (pc_call Tryz.func306 rfl Tryz_nm306 rfl) (Tryz_spec_l6Nums (H7.sees 0 rfl) (H7.sees 3 rfl)) (fun w9 e9 => kk6 _ _ (kx rfl (kx rfl (kx rfl (kx rfl (kx rfl k0))))) rfl (Ext.refl.trans e9))))))) (fun w8 e8 => ?_)))
 have H8 := H7.to e8
 refine sV rfl (py_band rfl rfl) (sM rfl rfl (s_grp 5 (j := 47) (want := true) (t := 57) rfl rfl rfl rfl (fun hg7 kk7 => s_val (wgE rfl rfl rfl hg7) rfl rfl (py_field tu68 rfl ts45 rfl rfl) (s_val (wgE rfl rfl rfl hg7) rfl rfl (py_load tu45 rfl rfl (cell_atL (H8.box 0 rfl) rfl)) (s_val (wgE rfl rfl rfl hg7) rfl rfl (py_field tu68 rfl ts45 rfl rfl) (s_val (wgE rfl rfl rfl hg7) rfl rfl (py_load tu45 rfl rfl (cell_atL (H8.box 1 rfl) rfl)) (s_callv (wgE rfl rfl rfl hg7) rfl rfl (pc_call Tryz.func259 rfl Tryz_nm259 rfl) (Tryz_l2Same_c (H8.sees 1 rfl) (H8.sees 4 rfl)) (fun w11 e11 => kk7 _ _ (kx rfl (kx rfl (kx rfl (kx rfl (kx rfl k0))))) rfl (Ext.refl.trans e11))))))) (fun w10 e10 => ?_)))
 have H9 := H8.to e10
 refine sV rfl (py_band rfl rfl) (sM rfl rfl (s_grp 5 (j := 54) (want := true) (t := 64) rfl rfl rfl rfl (fun hg8 kk8 => s_val (wgE rfl rfl rfl hg8) rfl rfl (py_field tu68 rfl ts45 rfl rfl) (s_val (wgE rfl rfl rfl hg8) rfl rfl (py_load tu45 rfl rfl (cell_atL (H9.box 0 rfl) rfl)) (s_val (wgE rfl rfl rfl hg8) rfl rfl (py_field tu68 rfl ts45 rfl rfl) (s_val (wgE rfl rfl rfl hg8) rfl rfl (py_load tu45 rfl rfl (cell_atL (H9.box 1 rfl) rfl)) (s_callv (wgE rfl rfl rfl hg8) rfl rfl (pc_call Tryz.func259 rfl Tryz_nm259 rfl) (Tryz_l2Same_c (H9.sees 2 rfl) (H9.sees 5 rfl)) (fun w13 e13 => kk8 _ _ (kx rfl (kx rfl (kx rfl (kx rfl (kx rfl k0))))) rfl (Ext.refl.trans e13))))))) (fun w12 e12 => ?_)))
 have H10 := H9.to e12
 refine sV rfl (py_band rfl rfl) (sA rfl rfl (s_nil (rT hQ Tryz.results233 rfl ?_)))
 exact ⟨H10.ext, congrArg Value.bool (by rw [← same_rec]; simp only [Bool.and_assoc])⟩
theorem Tryz_spec_l6Holds {w : World} {xs : List Rec} {xsA rA6 rA7 rA8 : Option Addr} {xsC rC6 rC7 rC8 : Nat} {r : Rec} (xsS : Sees w [.slice xsA xs.length xsC] xs) (rK : r.Ok) (rS6 : Sees w [.slice rA6 r.Rows.length rC6] r.Rows) (rS7 : Sees w [.slice rA7 r.Data.length rC7] r.Data) (rS8 : Sees w [.slice rA8 r.Delta.length rC8] r.Delta) : Ret Tryz.prog 138 #[.slice xsA xs.length xsC, r.val rA6 rC6 rA7 rC7 rA8 rC8] w fun v w' => Ext No w w' ∧ (v = .bool (decide (r ∈ xs))) := by
 have xsL := sL xsS
 obtain ⟨xsF, xsO⟩ := xsS
 have rK2 := rK
 unfold Rec.Ok at rK2
 try unfold I64ok at rK2
 try unfold maxLen at rK2
 have rN2 : r.Name.size ≤ maxLen := by unfold maxLen; omega
 have rL6 := sL rS6
 obtain ⟨rF6, rO6⟩ := rS6
 have rL7 := sL rS7
 obtain ⟨rF7, rO7⟩ := rS7
 have rL8 := sL rS8
 obtain ⟨rF8, rO8⟩ := rS8
 refine ret_Q (vs := [.slice xsA xs.length xsC, r.val rA6 rC6 rA7 rC7 rA8 rC8]) Tryz.func138 rfl Tryz.ntmps138 rfl (fun Q hQ hN => ?_)
 have H0 := Sep.start (w := w) (F := [seen false [.slice xsA xs.length xsC] xs xsF, seen false [.slice rA6 r.Rows.length rC6] r.Rows rF6, seen false [.slice rA7 r.Data.length rC7] r.Data rF7, seen false [.slice rA8 r.Delta.length rC8] r.Delta rF8]) (all_cons xsO (all_cons rO6 (all_cons rO7 (all_cons rO8 (by simp)))))
 refine W_sr (s_box (wn rfl) rfl rfl H0 (fun b1 w1 e1 g1 H1 => ?_))
 refine sA rfl rfl (s_nil (W_seq (W_sr (sA rfl rfl (s_nil (W_block (W_loopS (γ := Nat) H1 [(0, _), (3, _)] ⟨rfl, rfl, trivial⟩ (fun k => [(5, .int .i64 k)]) (fun k => k ≤ xs.length ∧ (∀ i, i < k → decide (xs.getD i default = r) = false)) (fun k => xs.length - k) 0 ⟨rfl, trivial⟩ ⟨by omega, fun i hi => by omega⟩ (fun k w2 H2 ⟨hk, he⟩ => ?_))))))))
 dsimp only [lCA, lNA]
 refine W_seq (W_sr (sM rfl rfl (sM rfl rfl (sV rfl (py_len tu30 rfl) (sV rfl (py_lss rfl rfl) (s_nil (W_ifd rfl (fun c1 => ?_) (fun c1 => ?_))))))))
 ·refine W_skip (W_seq (W_block (W_seq ?_)))
  obtain ⟨eb1, eo1, es1, ef1, ee1, ec1, eO1, eH1, em1⟩ := elem_st (H2.seen 0 rfl) k (by omega)
  obtain ⟨ea1, ek1, ea2, ek2, ea3, ek3, eg1, eg2, eg3, rfl, eq1, eK1, eo2, eo3, eo4⟩ := own_Rec eO1
  have eK1U := eK1
  unfold Rec.Ok at eK1U
  try unfold I64ok at eK1U
  try unfold maxLen at eK1U
  have eP1 := H2.look1 0 rfl eo2 (fun b hb => eH1 b (by rw [eq1]; simp [hb]))
  have eL1 := oL eo2
  have eP2 := eP1.look1 0 rfl eo3 (fun b hb => eH1 b (by rw [eq1]; simp [hb]))
  have eL2 := oL eo3
  have eP3 := eP2.look1 0 rfl eo4 (fun b hb => eH1 b (by rw [eq1]; simp [hb]))
  have eL3 := oL eo4
  refine W_drw (S := Ext No _) [(0, true), (1, true), (2, true), (3, true), (4, true), (5, false)] (by kernel_rfl) (by kernel_rfl) (by kernel_rfl) rfl (fun _ => Ext.refl.drawn _) (fun q1 => ?_)
  have H3 := eP3.drawn q1
  refine dM rfl rfl rfl (dM rfl rfl rfl (dV rfl rfl (fun zw hx => py_elz tu30 ts68 rfl rfl ee1 k (by omega) (by omega)) (dV rfl rfl (fun zw hx => py_loadS tu68 rfl ts68 rfl rfl (hx.at ec1)) (dV rfl rfl (fun zw hx => py_loadS tu68 rfl ts68 rfl rfl (At.whole (hx.heap (H3.box 0 rfl)))) (d_call rfl (wn rfl) rfl rfl (pc_call Tryz.func233 rfl Tryz_nm233 rfl) (Tryz_spec_SameRec (by assumption) (H3.sees 4 rfl) (H3.sees 5 rfl) (H3.sees 6 rfl) (by assumption) (H3.sees 1 rfl) (H3.sees 2 rfl) (H3.sees 3 rfl)) (fun hS _ _ r _ => hS.trans r.1.no) (fun v1 w3 r1 => ?_))))))
  obtain ⟨e2, rfl⟩ := r1
  have H4 := H3.to e2
  refine d_nil (W_if rfl (fun c2 => ?_) (fun c2 => ?_))
  ·refine W_sr (sA rfl rfl (s_nil (rT hQ Tryz.results138 rfl ?_)))
   exact ⟨H4.ext, congrArg Value.bool (mem_yes (k := k) (by omega) (by simpa using c2))⟩
  ·refine W_skip (W_reg (sM rfl rfl (sV rfl (py_add rfl rfl (in64 ⟨by omega, by omega⟩)) (sA rfl rfl (s_nil (⟨k + 1, ⟨rfl, rfl, rfl, trivial⟩, ⟨(H4.ftake 4), by omega, fun i hi => ?_⟩, by dsimp only; omega⟩))))))
   by_cases e : i = k
   ·subst e
    simpa using c2
   ·exact he i (by omega)
 ·refine W_exit (W_sr (sA rfl rfl (s_nil (rT hQ Tryz.results138 rfl ?_))))
  exact ⟨H2.ext, congrArg Value.bool (mem_no (fun i hi => he i (by omega)))⟩
theorem Tryz_spec_l6Ahead {w : World} {x y : Rec} {xA6 xA7 xA8 yA6 yA7 yA8 : Option Addr} {xC6 xC7 xC8 yC6 yC7 yC8 : Nat}  : Ret Tryz.prog 139 #[x.val xA6 xC6 xA7 xC7 xA8 xC8, y.val yA6 yC6 yA7 yC7 yA8 yC8] w fun v w' => Ext No w w' ∧ (v = .bool (decide (kLt (keyR x) (keyR y)))) := by
 refine ret_Q (vs := [x.val xA6 xC6 xA7 xC7 xA8 xC8, y.val yA6 yC6 yA7 yC7 yA8 yC8]) Tryz.func139 rfl Tryz.ntmps139 rfl (fun Q hQ hN => ?_)
 have H0 := Sep.start (w := w) (F := []) (by simp)
 refine W_sr (s_box (wn rfl) rfl rfl H0 (fun b1 w1 e1 g1 H1 => ?_))
 refine s_box (wn rfl) rfl rfl H1 (fun b2 w2 e2 g2 H2 => ?_)
 refine sA rfl rfl (s_nil (W_seq (W_sr (sV rfl (py_field tu68 rfl ts2 rfl rfl) (sV rfl (py_load tu2 rfl rfl (cell_atL (H2.box 0 rfl) rfl)) (sV rfl (py_field tu68 rfl ts2 rfl rfl) (sV rfl (py_load tu2 rfl rfl (cell_atL (H2.box 1 rfl) rfl)) (sV rfl (py_neq rfl rfl) (s_nil (W_ifd rfl (fun c1 => ?_) (fun c1 => ?_)))))))))))
 ·refine W_sr (sV rfl (py_field tu68 rfl ts2 rfl rfl) (sV rfl (py_load tu2 rfl rfl (cell_atL (H2.box 0 rfl) rfl)) (sV rfl (py_field tu68 rfl ts2 rfl rfl) (sV rfl (py_load tu2 rfl rfl (cell_atL (H2.box 1 rfl) rfl)) (sV rfl (py_lss rfl rfl) (sA rfl rfl (s_nil (rT hQ Tryz.results139 rfl ?_))))))))
  exact ⟨H2.ext, congrArg Value.bool (decide_eq_decide.2 (by unfold kLt keyR; dsimp only; omega))⟩
 ·refine W_skip (W_seq (W_sr (sV rfl (py_field tu68 rfl ts2 rfl rfl) (sV rfl (py_load tu2 rfl rfl (cell_atL (H2.box 0 rfl) rfl)) (sV rfl (py_field tu68 rfl ts2 rfl rfl) (sV rfl (py_load tu2 rfl rfl (cell_atL (H2.box 1 rfl) rfl)) (sV rfl (py_neq rfl rfl) (s_nil (W_ifd rfl (fun c2 => ?_) (fun c2 => ?_))))))))))
  ·refine W_sr (sV rfl (py_field tu68 rfl ts2 rfl rfl) (sV rfl (py_load tu2 rfl rfl (cell_atL (H2.box 0 rfl) rfl)) (sV rfl (py_field tu68 rfl ts2 rfl rfl) (sV rfl (py_load tu2 rfl rfl (cell_atL (H2.box 1 rfl) rfl)) (sV rfl (py_lss rfl rfl) (sA rfl rfl (s_nil (rT hQ Tryz.results139 rfl ?_))))))))
   exact ⟨H2.ext, congrArg Value.bool (decide_eq_decide.2 (by unfold kLt keyR; dsimp only; omega))⟩
  ·refine W_skip (W_sr (sV rfl (py_field tu68 rfl ts2 rfl rfl) (sV rfl (py_load tu2 rfl rfl (cell_atL (H2.box 0 rfl) rfl)) (sV rfl (py_field tu68 rfl ts2 rfl rfl) (sV rfl (py_load tu2 rfl rfl (cell_atL (H2.box 1 rfl) rfl)) (sV rfl (py_lss rfl rfl) (sA rfl rfl (s_nil (rT hQ Tryz.results139 rfl ?_)))))))))
   exact ⟨H2.ext, congrArg Value.bool (decide_eq_decide.2 (by unfold kLt keyR; dsimp only; omega))⟩
theorem Tryz_impl_World_counted {w : World} {zb zC9 zC10 zC11 : Nat} {z : Wld} {zA9 zA10 zA11 : Option Addr} {zF9 zF10 zF11 : List Nat} (zB : w.heap[zb]? = some (.cells [.int .i64 z.Shape.Groups, .int .i64 z.Shape.Column, .int .i64 z.Shape.Data, .int .i64 z.Shape.Spare, .int .i64 z.Shape.Rows, .int .i64 z.Shape.Cap, .int .i64 z.Shape.Batch, .int .i64 z.Shape.Queue, .int .i64 z.Shape.Stage, .slice zA9 z.Groups.length zC9, .slice zA10 z.On.length zC10, .slice zA11 z.Tapes.length zC11, .int .i64 z.Writes, .int .i64 z.Stop, .bool z.Down].toArray 38)) (zK : z.Ok) (zO9 : own false w [.slice zA9 z.Groups.length zC9] z.Groups zF9) (zO10 : own false w [.slice zA10 z.On.length zC10] z.On zF10) (zO11 : own false w [.slice zA11 z.Tapes.length zC11] z.Tapes zF11) (hT : z.Tapes.length = 2) (hrl : ∀ k, (z.Tapes.getD k default).Recs.length ≤ 200000) : Ret Tryz.prog 99 #[.pointer (some ⟨zb, 0, none⟩)] w fun v w' => Ext No w w' ∧ (∃ vs, Res w w' [v] vs ∧ RdV w' zF11 vs ∧ vs.map RecV.r = cntL z) := by
 have zK2 := zK
 unfold Wld.Ok Shape.Ok at zK2
 try unfold I64ok at zK2
 try unfold maxLen at zK2
 have zL9 := oL zO9
 have zL10 := oL zO10
 have zL11 := oL zO11
 refine ret_Q (vs := [.pointer (some ⟨zb, 0, none⟩)]) Tryz.func99 rfl Tryz.ntmps99 rfl (fun Q hQ hN => ?_)
 have H0 := Sep.start (w := w) (F := [box zb (.cells [.int .i64 z.Shape.Groups, .int .i64 z.Shape.Column, .int .i64 z.Shape.Data, .int .i64 z.Shape.Spare, .int .i64 z.Shape.Rows, .int .i64 z.Shape.Cap, .int .i64 z.Shape.Batch, .int .i64 z.Shape.Queue, .int .i64 z.Shape.Stage, .slice zA9 z.Groups.length zC9, .slice zA10 z.On.length zC10, .slice zA11 z.Tapes.length zC11, .int .i64 z.Writes, .int .i64 z.Stop, .bool z.Down].toArray 38), seen false [.slice zA9 z.Groups.length zC9] z.Groups zF9, seen false [.slice zA10 z.On.length zC10] z.On zF10, seen false [.slice zA11 z.Tapes.length zC11] z.Tapes zF11]) (all_cons (by exact zB) (all_cons zO9 (all_cons zO10 (all_cons zO11 (by simp)))))
 refine W_sr (sA rfl rfl (s_nil (W_sr (s_lit0 (α := RecV) (wn rfl) rfl tu30 Tryz_ty68 H0 (fun b1 w1 e1 g1 H1 => ?_)))))
 refine sA rfl rfl (s_nil (W_seq (W_sr (sM rfl rfl (sV rfl (py_nil rfl) (sV rfl (py_field tu38 rfl ts36 rfl rfl) (sV rfl (py_load tu36 rfl rfl (cell_atL (H1.fbox 0 rfl) rfl)) (sV rfl (py_len tu36 rfl) (sM rfl rfl (s_nil (W_block (W_loopA (α := RecV) (γ := Nat × List RecV) (fun (k, vs) => vs) (0, []) H1 0 rfl 3 rfl [(2, _), (12, _), (13, _)] ⟨rfl, rfl, rfl, trivial⟩ (fun (k, vs) => [(14, .int .i64 k)]) (fun (k, vs) => k ≤ z.Tapes.length ∧ RdV w zF11 vs ∧ vs.map RecV.r = cntTo z k 0) (fun (k, vs) => z.Tapes.length - k) ⟨rfl, trivial⟩ ⟨by (try dsimp only); omega, RdV.nil, by (try dsimp only); rw [cntTo_zero]; rfl⟩ (fun (k, vs) vA1 fA1 w2 H2 ⟨hk, hR, hM⟩ => ?_)))))))))))))
 dsimp only [lCA, lNA, lSZ, lSS] at H2 ⊢
 refine W_sr (sV rfl (py_lss rfl rfl) (s_nil (W_seq (W_ifd rfl (fun c1 => ?_) (fun c1 => ?_)))))
 ·refine W_skip (W_seq (W_block (W_seq ?_)))
  obtain ⟨eb1, eo1, es1, ef1, ee1, ec1, eO1, eH1, em1⟩ := elem_st (H2.seen 3 rfl) k (by omega)
  obtain ⟨ea1, ek1, eg1, rfl, eq1, eK1, eo2⟩ := own_Tape eO1
  have eP1 := H2.look1 3 rfl eo2 (fun b hb => eH1 b (by rw [eq1]; simp [hb]))
  have eL1 := oL eo2
  refine W_reg (sV rfl (py_elz tu36 ts139 rfl rfl ee1 k (by omega) (by omega)) (sV rfl (py_loadS tu139 rfl ts139 rfl rfl ec1) (s_var (wn rfl) rfl Tryz.zeroValue139 eP1 (fun b2 w3 e2 g2 H3 => ?_))))
  refine s_stoS (wn rfl) ts139 rfl rfl rfl rfl H3 1 rfl rfl (fun w4 e3 H4 => ?_)
  dsimp only [lNA, lCA, lSZ, lSS, layL] at H4
  refine s_nil (W_sr (sV rfl (py_field tu139 rfl ts30 rfl rfl) (sV rfl (py_load tu30 rfl rfl (cell_atL (H4.box 1 rfl) rfl)) (sV rfl (py_len tu30 rfl) (sM rfl rfl (s_nil (W_block (W_loopA (α := RecV) (γ := Nat × List RecV) (fun (j, vs2) => vs2) (0, vs) H4 0 rfl 3 rfl [(2, _), (12, _), (13, _), (14, _), (19, _), (20, _)] ⟨rfl, rfl, rfl, rfl, rfl, rfl, trivial⟩ (fun (j, vs2) => [(21, .int .i64 j)]) (fun (j, vs2) => j ≤ (z.Tapes.getD k default).Recs.length ∧ RdV w zF11 vs2 ∧ vs2.map RecV.r = cntTo z k j) (fun (j, vs2) => (z.Tapes.getD k default).Recs.length - j) ⟨rfl, trivial⟩ ⟨by (try dsimp only); omega, hR, hM⟩ (fun (j, vs2) vA2 fA2 w5 H5 ⟨hj, hR2, hM2⟩ => ?_)))))))))
  dsimp only [lCA, lNA, lSZ, lSS] at H5 ⊢
  refine W_sr (sV rfl (py_lss rfl rfl) (s_nil (W_seq (W_ifd rfl (fun c2 => ?_) (fun c2 => ?_)))))
  ·refine W_skip (W_seq (W_block (W_seq ?_)))
   obtain ⟨eb2, eo3, es2, ef2, ee2, ec2, eO2, eH2, em2⟩ := elem_st (H5.seen 4 rfl) j (by omega)
   obtain ⟨ea2, ek2, ea3, ek3, ea4, ek4, eg2, eg3, eg4, rfl, eq2, eK2, eo4, eo5, eo6⟩ := own_Rec eO2
   have eK2U := eK2
   unfold Rec.Ok at eK2U
   try unfold I64ok at eK2U
   try unfold maxLen at eK2U
   have eP2 := H5.look1 4 rfl eo4 (fun b hb => eH2 b (by rw [eq2]; simp [hb]))
   have eL2 := oL eo4
   have eP3 := eP2.look1 4 rfl eo5 (fun b hb => eH2 b (by rw [eq2]; simp [hb]))
   have eL3 := oL eo5
   have eP4 := eP3.look1 4 rfl eo6 (fun b hb => eH2 b (by rw [eq2]; simp [hb]))
   have eL4 := oL eo6
   refine W_reg (sV rfl (py_elz tu30 ts68 rfl rfl ee2 j (by omega) (by omega)) (sV rfl (py_loadS tu68 rfl ts68 rfl rfl ec2) (s_var (wn rfl) rfl Tryz.zeroValue68 eP4 (fun b3 w6 e4 g3 H6 => ?_))))
   refine s_stoS (wn rfl) ts68 rfl rfl rfl rfl H6 2 rfl rfl (fun w7 e5 H7 => ?_)
   dsimp only [lNA, lCA, lSZ, lSS, layL] at H7
   refine s_nil (W_seq ?_)
   obtain ⟨oa, ok2, oq⟩ := own_slice (H7.mine 0 rfl)
   cases oq
   have hE := (InF.back (ft := zF11) (cs := ((RecV.mk ((z.Tapes.getD k default).Recs.getD j default) ea2 ek2 ea3 ek3 ea4 ek4)).cs) (x := ((z.Tapes.getD k default).Recs.getD j default)) ⟨_, eO2, (fun b hb => (fun b hb => eH1 b (by rw [eq1]; simp [hb])) b (eH2 b hb))⟩ eP4.ext (Rp.lt zO11))
   have hvl : vs2.length = (cntTo z k j).length := by rw [← hM2, List.length_map]
   have hcb := cntTo_bd hT hrl (k := k) (j := j) (by omega) (by have := hrl k; omega)
   refine W_reg (sM rfl rfl (sV rfl (py_loadS tu68 rfl ts68 rfl rfl (At.whole (H7.box 2 rfl))) (s_call (wn rfl) rfl rfl (pc_call Tryz.func168 rfl Tryz_nm168 rfl) (by have lc := Tryz_impl_has (xs := vs2.map RecV.r) (r := ((z.Tapes.getD k default).Recs.getD j default)) (by rw [List.length_map]; exact (hR2.to H7.ext).list (H7.mine 0 rfl)) (by assumption) (H7.sees 5 rfl) (H7.sees 6 rfl) (H7.sees 7 rfl); rw [List.length_map] at lc; exact lc) (fun v1 w8 r1 => ?_))))
   obtain ⟨e6, rfl⟩ := r1
   have H8 := H7.to e6
   refine sV rfl (py_not rfl) (s_nil (W_if rfl (fun c3 => ?_) (fun c3 => ?_)))
   ·refine W_reg (sM rfl rfl (sV rfl (py_loadS tu68 rfl ts68 rfl rfl (At.whole (H8.box 2 rfl))) (s_lit1 (wn rfl) rfl tu30 Tryz_ty68 rfl rfl rfl rfl H8 (fun b4 w9 e7 g4 H9 => ?_))))
    refine s_app1 (wn rfl) rfl tu30 Tryz_ty68 rfl rfl rfl H9 0 3 rfl rfl (recv_own (v := (RecV.mk ((z.Tapes.getD k default).Recs.getD j default) ea2 ek2 ea3 ek3 ea4 ek4)) (by assumption)) (by unfold maxLen; omega) (by omega) (fun v2 w10 fp1 H10 => ?_)
    refine sA rfl rfl (s_nil (W_reg (sV rfl (py_add rfl rfl (in64 ⟨by omega, by omega⟩)) (sM rfl rfl (s_nil ?_)))))
    exact ⟨((j + 1, vs2 ++ [(RecV.mk ((z.Tapes.getD k default).Recs.getD j default) ea2 ek2 ea3 ek3 ea4 ek4)]), _, _), ⟨rfl, rfl, rfl, rfl, rfl, rfl, rfl, rfl, trivial⟩, ⟨((H10.ftake 5).dtake 2), by (try dsimp only); omega, hR2.snoc hE, by (try dsimp only); rw [List.map_append, hM2, cntTo_next (by omega), dd_no (by rw [← hM2]; simpa using c3)]; rfl⟩, by dsimp only; omega⟩
   ·refine W_skip (W_reg (sV rfl (py_add rfl rfl (in64 ⟨by omega, by omega⟩)) (sM rfl rfl (s_nil ?_))))
    exact ⟨((j + 1, vs2), _, _), ⟨rfl, rfl, rfl, rfl, rfl, rfl, rfl, rfl, trivial⟩, ⟨((H8.ftake 5).dtake 2), by (try dsimp only); omega, hR2, by (try dsimp only); rw [hM2, cntTo_next (by omega), dd_yes (by rw [← hM2]; simpa using c3)]⟩, by dsimp only; omega⟩
  ·refine W_exit (W_reg (sV rfl (py_add rfl rfl (in64 ⟨by omega, by omega⟩)) (sM rfl rfl (s_nil ?_))))
   obtain rfl : j = (z.Tapes.getD k default).Recs.length := by omega
   exact ⟨((k + 1, vs2), _, _), ⟨rfl, rfl, rfl, rfl, rfl, trivial⟩, ⟨((H5.ftake 4).dtake 1), by (try dsimp only); omega, hR2, by (try dsimp only); rw [hM2, cntTo_tape (by omega)]⟩, by dsimp only; omega⟩
 ·refine W_exit (W_seq ?_)
  obtain rfl : k = z.Tapes.length := by omega
  have hvl : vs.length = (cntTo z z.Tapes.length 0).length := by rw [← hM, List.length_map]
  have hcb := cntTo_bd hT hrl (k := z.Tapes.length) (j := 0) (by omega) (by omega)
  refine W_reg (sM rfl rfl ?_)
  obtain ⟨oa, ok2, oq⟩ := own_slice (H2.mine 0 rfl)
  cases oq
  refine s_call (wn rfl) rfl rfl (pc_call Tryz.func169 rfl Tryz_nm169 rfl) (Tryz_ssf (ws := vs) (gL := []) (H2.mine 0 rfl) (H2.nodup1 (i := 0) rfl) Tryz.func170 rfl Tryz_nm170 (fun w1 e1 x y a6 c6 a7 c7 a8 c8 b6 d6 b7 d7 b8 d8 => Tryz_impl_World_counted_1) (by omega)) (fun v3 w11 r2 => ?_)
  obtain ⟨us, mm1, hS⟩ := r2
  obtain ⟨fp2, H11⟩ := H2.mut 0 rfl mm1
  try dsimp only [lNA, lCA, lSZ, lSS] at H11
  refine s_nil (W_sr (sM rfl rfl (sA rfl rfl (s_nil (rT hQ Tryz.results99 rfl ?_)))))
  exact ⟨H11.ext, us, H11.out 0 rfl, (hR.stable hS).to H11.ext, cnt_end hM hS⟩
theorem Tryz_spec_l6Counted {w : World} {zb zC9 zC10 zC11 : Nat} {z : Wld} {zA9 zA10 zA11 : Option Addr} {zF9 zF10 zF11 : List Nat} (zB : w.heap[zb]? = some (.cells [.int .i64 z.Shape.Groups, .int .i64 z.Shape.Column, .int .i64 z.Shape.Data, .int .i64 z.Shape.Spare, .int .i64 z.Shape.Rows, .int .i64 z.Shape.Cap, .int .i64 z.Shape.Batch, .int .i64 z.Shape.Queue, .int .i64 z.Shape.Stage, .slice zA9 z.Groups.length zC9, .slice zA10 z.On.length zC10, .slice zA11 z.Tapes.length zC11, .int .i64 z.Writes, .int .i64 z.Stop, .bool z.Down].toArray 38)) (zK : z.Ok) (zO9 : own false w [.slice zA9 z.Groups.length zC9] z.Groups zF9) (zO10 : own false w [.slice zA10 z.On.length zC10] z.On zF10) (zO11 : own false w [.slice zA11 z.Tapes.length zC11] z.Tapes zF11) (hT : z.Tapes.length = 2) (hrl : ∀ k, (z.Tapes.getD k default).Recs.length ≤ 200000) : Ret Tryz.prog 63 #[.pointer (some ⟨zb, 0, none⟩)] w fun v w' => Ext No w w' ∧ (∃ vs, Res w w' [v] vs ∧ RdV w' zF11 vs ∧ vs.map RecV.r = cntL z) := by
 have zK2 := zK
 unfold Wld.Ok Shape.Ok at zK2
 try unfold I64ok at zK2
 try unfold maxLen at zK2
 have zL9 := oL zO9
 have zL10 := oL zO10
 have zL11 := oL zO11
 refine ret_Q (vs := [.pointer (some ⟨zb, 0, none⟩)]) Tryz.func63 rfl Tryz.ntmps63 rfl (fun Q hQ hN => ?_)
 have H0 := Sep.start (w := w) (F := [box zb (.cells [.int .i64 z.Shape.Groups, .int .i64 z.Shape.Column, .int .i64 z.Shape.Data, .int .i64 z.Shape.Spare, .int .i64 z.Shape.Rows, .int .i64 z.Shape.Cap, .int .i64 z.Shape.Batch, .int .i64 z.Shape.Queue, .int .i64 z.Shape.Stage, .slice zA9 z.Groups.length zC9, .slice zA10 z.On.length zC10, .slice zA11 z.Tapes.length zC11, .int .i64 z.Writes, .int .i64 z.Stop, .bool z.Down].toArray 38), seen false [.slice zA9 z.Groups.length zC9] z.Groups zF9, seen false [.slice zA10 z.On.length zC10] z.On zF10, seen false [.slice zA11 z.Tapes.length zC11] z.Tapes zF11]) (all_cons (by exact zB) (all_cons zO9 (all_cons zO10 (all_cons zO11 (by simp)))))
 refine W_sr (sA rfl rfl (s_nil (W_sr (s_lit0 (α := RecV) (wn rfl) rfl tu30 Tryz_ty68 H0 (fun b1 w1 e1 g1 H1 => ?_)))))
 refine sA rfl rfl (s_nil (W_seq (W_sr (sA rfl rfl (s_nil (W_block (W_loopA (α := RecV) (γ := Nat × List RecV) (fun (k, vs) => vs) (0, []) H1 0 rfl 3 rfl [(0, _), (2, _)] ⟨rfl, rfl, trivial⟩ (fun (k, vs) => [(4, .int .i64 k)]) (fun (k, vs) => k ≤ 2 ∧ RdV w zF11 vs ∧ Stable kLt keyR (cntTo z k 0) (vs.map RecV.r)) (fun (k, vs) => 2 - k) ⟨rfl, trivial⟩ ⟨by (try dsimp only); omega, RdV.nil, by (try dsimp only); rw [cntTo_zero]; exact ⟨.nil, .refl⟩⟩ (fun (k, vs) vA1 fA1 w2 H2 ⟨hk, hR, hM⟩ => ?_))))))))
 dsimp only [lCA, lNA, lSZ, lSS] at H2 ⊢
 refine W_seq (W_sr (sM rfl rfl (sV rfl (py_lss rfl rfl) (s_nil (W_ifd rfl (fun c1 => ?_) (fun c1 => ?_))))))
 ·refine W_skip (W_seq (W_block (W_sr (sA rfl rfl (s_nil (W_block (W_loopA (α := RecV) (γ := Nat × List RecV) (fun (j, vs2) => vs2) (0, vs) H2 0 rfl 3 rfl [(0, _), (2, _), (4, _)] ⟨rfl, rfl, rfl, trivial⟩ (fun (j, vs2) => [(5, .int .i64 j)]) (fun (j, vs2) => j ≤ (z.Tapes.getD k default).Recs.length ∧ RdV w zF11 vs2 ∧ Stable kLt keyR (cntTo z k j) (vs2.map RecV.r)) (fun (j, vs2) => (z.Tapes.getD k default).Recs.length - j) ⟨rfl, trivial⟩ ⟨by (try dsimp only); omega, hR, hM⟩ (fun (j, vs2) vA2 fA2 w3 H3 ⟨hj, hR2, hM2⟩ => ?_))))))))
  dsimp only [lCA, lNA, lSZ, lSS] at H3 ⊢
  refine W_seq (W_seq ?_)
  obtain ⟨eb1, eo1, es1, ef1, ee1, ec1, eO1, eH1, em1⟩ := elem_st (H3.seen 3 rfl) k (by omega)
  obtain ⟨ea1, ek1, eg1, rfl, eq1, eK1, eo2⟩ := own_Tape eO1
  have eP1 := H3.look1 3 rfl eo2 (fun b hb => eH1 b (by rw [eq1]; simp [hb]))
  have eL1 := oL eo2
  refine W_reg (sM rfl rfl (sM rfl rfl (sV rfl (py_nil rfl) (sV rfl (py_field tu38 rfl ts36 rfl rfl) (sV rfl (py_load tu36 rfl rfl (cell_atL (eP1.fbox 0 rfl) rfl)) (sM rfl rfl (sV rfl (py_elz tu36 ts139 rfl rfl ee1 k (by omega) (by omega)) (sV rfl (py_field tu139 rfl ts30 rfl rfl) (sV rfl (py_load tu30 rfl rfl (at_cell ec1 1 rfl)) (sV rfl (py_len tu30 rfl) (sV rfl (py_lss rfl rfl) (s_nil (W_ifd rfl (fun c2 => ?_) (fun c2 => ?_))))))))))))))
  ·refine W_skip (W_seq (W_block (W_seq ?_)))
   obtain ⟨eb2, eo3, es2, ef2, ee2, ec2, eO2, eH2, em2⟩ := elem_st (eP1.seen 3 rfl) k (by omega)
   obtain ⟨ea2, ek2, eg2, rfl, eq2, eK2, eo4⟩ := own_Tape eO2
   have eP2 := eP1.look1 3 rfl eo4 (fun b hb => eH2 b (by rw [eq2]; simp [hb]))
   have eL2 := oL eo4
   obtain ⟨eb3, eo5, es3, ef3, ee3, ec3, eO3, eH3, em3⟩ := elem_st (eP2.seen 5 rfl) j (by omega)
   obtain ⟨ea3, ek3, ea4, ek4, ea5, ek5, eg3, eg4, eg5, rfl, eq3, eK3, eo6, eo7, eo8⟩ := own_Rec eO3
   have eK3U := eK3
   unfold Rec.Ok at eK3U
   try unfold I64ok at eK3U
   try unfold maxLen at eK3U
   have eP3 := eP2.look1 5 rfl eo6 (fun b hb => eH3 b (by rw [eq3]; simp [hb]))
   have eL3 := oL eo6
   have eP4 := eP3.look1 5 rfl eo7 (fun b hb => eH3 b (by rw [eq3]; simp [hb]))
   have eL4 := oL eo7
   have eP5 := eP4.look1 5 rfl eo8 (fun b hb => eH3 b (by rw [eq3]; simp [hb]))
   have eL5 := oL eo8
   refine W_reg (sM rfl rfl (sV rfl (py_nil rfl) (sV rfl (py_field tu38 rfl ts36 rfl rfl) (sV rfl (py_load tu36 rfl rfl (cell_atL (eP5.fbox 0 rfl) rfl)) (sM rfl rfl (sV rfl (py_elz tu36 ts139 rfl rfl ee2 k (by omega) (by omega)) (sV rfl (py_field tu139 rfl ts30 rfl rfl) (sV rfl (py_load tu30 rfl rfl (at_cell ec2 1 rfl)) (sM rfl rfl (sV rfl (py_elz tu30 ts68 rfl rfl ee3 j (by omega) (by omega)) (sV rfl (py_loadS tu68 rfl ts68 rfl rfl ec3) (s_var (wn rfl) rfl Tryz.zeroValue68 eP5 (fun b2 w4 e2 g2 H4 => ?_)))))))))))))
   refine s_stoS (wn rfl) ts68 rfl rfl rfl rfl H4 1 rfl rfl (fun w5 e3 H5 => ?_)
   dsimp only [lNA, lCA, lSZ, lSS, layL] at H5
   refine s_nil (W_seq (W_seq ?_))
   obtain ⟨oa, ok2, oq⟩ := own_slice (H5.mine 0 rfl)
   cases oq
   have hE := (InF.back (ft := zF11) (cs := ((RecV.mk ((z.Tapes.getD k default).Recs.getD j default) ea3 ek3 ea4 ek4 ea5 ek5)).cs) (x := ((z.Tapes.getD k default).Recs.getD j default)) ⟨_, eO3, (fun b hb => (fun b hb => eH2 b (by rw [eq2]; simp [hb])) b (eH3 b hb))⟩ eP5.ext (Rp.lt zO11))
   have hvl : vs2.length = (cntTo z k j).length := by have := hM2.2.len; rwa [List.length_map] at this
   have hcb := cntTo_bd hT hrl (k := k) (j := j) (by omega) (by have := hrl k; omega)
   refine W_reg (sM rfl rfl (sV rfl (py_loadS tu68 rfl ts68 rfl rfl (At.whole (H5.box 1 rfl))) (s_call (wn rfl) rfl rfl (pc_call Tryz.func138 rfl Tryz_nm138 rfl) (by have lc := Tryz_spec_l6Holds (xs := vs2.map RecV.r) (r := ((z.Tapes.getD k default).Recs.getD j default)) (by rw [List.length_map]; exact (hR2.to H5.ext).list (H5.mine 0 rfl)) (by assumption) (H5.sees 6 rfl) (H5.sees 7 rfl) (H5.sees 8 rfl); rw [List.length_map] at lc; exact lc) (fun v1 w6 r1 => ?_))))
   obtain ⟨e4, rfl⟩ := r1
   have H6 := H5.to e4
   refine s_nil (W_if rfl (fun c3 => ?_) (fun c3 => ?_))
   ·refine W_exit (W_reg (sM rfl rfl (sV rfl (py_add rfl rfl (in64 ⟨by omega, by omega⟩)) (sA rfl rfl (s_nil ?_)))))
    exact ⟨((j + 1, vs2), _, _), ⟨rfl, rfl, rfl, rfl, rfl, trivial⟩, ⟨((H6.ftake 4).dtake 1), by (try dsimp only); omega, hR2, by (try dsimp only); rw [cntTo_next (by omega), dd_yes ((stable_mem hM2 _).1 (by simpa using c3))]; exact hM2⟩, by dsimp only; omega⟩
   ·have hno := c3
    refine W_skip (W_seq ?_)
    have HS := H6.share 0 rfl
    try dsimp only [lNA, lCA, lSZ, lSS] at HS
    have vsl := vs2.length_map RecV.r
    refine W_reg (sM rfl rfl (sV rfl (py_len tu30 rfl) (sA rfl rfl (s_nil (W_seq (W_block (W_loopS (γ := Nat) HS [(0, _), (2, _), (3, _), (4, _), (5, _), (6, _)] ⟨rfl, rfl, rfl, rfl, rfl, rfl, trivial⟩ (fun a => [(7, .int .i64 a)]) (fun a => a ≤ vs2.length ∧ (∀ i, a ≤ i → i < vs2.length → kLt (keyR ((z.Tapes.getD k default).Recs.getD j default)) (keyR (vs2.getD i default).r))) (fun a => a) vs2.length ⟨rfl, trivial⟩ ⟨by omega, fun i h1 h2 => by omega⟩ (fun a w7 H7 ⟨ha, hB⟩ => ?_))))))))
    dsimp only [lCA, lNA]
    refine W_seq (W_seq (W_drw (S := Ext No _) [(0, true), (1, true), (2, true), (3, true), (4, true), (5, true), (6, true), (7, true), (8, true), (9, false), (10, false)] (by kernel_rfl) (by kernel_rfl) (by kernel_rfl) rfl (fun _ => Ext.refl.drawn _) (fun q1 => ?_)))
    have H8 := H7.drawn q1
    refine dM rfl rfl rfl (dV rfl rfl (fun zw hx => py_gtr rfl rfl) (dM rfl rfl rfl (d_case (t := 44) rfl (fun hg1 => ?_) (fun hg1 => ?_))))
    ·try simp only [decide_eq_true_eq, decide_eq_false_iff_not] at hg1
     refine d_val rfl (wg rfl rfl rfl) rfl rfl (fun zw hx => py_loadS tu68 rfl ts68 rfl rfl (At.whole (hx.heap (H8.box 1 rfl)))) (d_val rfl (wg rfl rfl rfl) rfl rfl (fun zw hx => py_move rfl) (d_val rfl (wg rfl rfl rfl) rfl rfl (fun zw hx => py_move rfl) (d_val rfl (wg rfl rfl rfl) rfl rfl (fun zw hx => py_sub rfl rfl (in64 ⟨by omega, by omega⟩)) ?_)))
     obtain ⟨eb4, eo9, ee4, ec4, eK4⟩ := H8.viewSeen 9 rfl (a - 1) (by omega)
     refine d_val rfl (wg rfl rfl rfl) rfl rfl (fun zw hx => py_elz tu30 ts68 rfl rfl ee4 (a - 1) (by omega) (by omega)) (d_val rfl (wg rfl rfl rfl) rfl rfl (fun zw hx => py_loadS tu68 rfl ts68 rfl rfl (hx.at ec4)) (d_call rfl (wg rfl rfl rfl) rfl rfl (pc_call Tryz.func139 rfl Tryz_nm139 rfl) Tryz_spec_l6Ahead (fun hS _ _ r _ => hS.trans r.1.no) (fun v2 w8 r2 => ?_)))
     obtain ⟨e5, rfl⟩ := r2
     have H9 := H8.to e5
     refine d_end rfl (wn rfl) rfl rfl (py_pickT rfl rfl) (d_nil (W_if rfl (fun c4 => ?_) (fun c4 => ?_)))
     ·refine W_skip (W_block (W_reg (sM rfl rfl (sV rfl (py_sub rfl rfl (in64 ⟨by omega, by omega⟩)) (sA rfl rfl (s_nil (⟨a - 1, ⟨eqI (by omega), rfl, rfl, rfl, rfl, rfl, rfl, trivial⟩, ⟨H9, by omega, fun i h1 h2 => ?_⟩, by dsimp only; omega⟩)))))))
      by_cases e : i = a - 1
      ·subst e; exact of_decide_eq_true c4
      ·exact hB i (by omega) h2
     ·refine W_exit (W_drw (S := Ext No _) [(1, true), (2, true), (3, true), (5, true), (8, true), (9, true), (10, true), (1012, false), (0, false), (1005, false), (4, false), (6, false), (7, false), (11, false), (12, false), (6, false), (4, false), (7, false), (11, false), (12, false), (6, false), (0, false), (4, false), (7, false), (11, false), (12, false)] (by kernel_rfl) (by kernel_rfl) (by kernel_rfl) rfl (fun _ => Ext.refl.drawn _) (fun q2 => ?_))
      have H10 := H9.drawn q2
      refine dM rfl rfl rfl (dM rfl rfl rfl ?_)
      have sc1 := own_le_cap (H10.seen 9 rfl)
      obtain ⟨sf1, so1, ss1⟩ := own_cutL (H10.seen 9 rfl) (0) (a) _ (by omega) (by omega) (by omega) (Nat.le_refl _)
      have H11 := H10.look1 9 rfl so1 ss1
      have sl1 := cut_len (xs := vs2) (l := 0) (h := a) (by omega)
      refine dV rfl rfl (fun zw hx => py_slcHN tu30 ts68 rfl rfl (a) (by omega) (by omega) sl1) (dV rfl rfl (fun zw hx => py_loadS tu68 rfl ts68 rfl rfl (At.whole (hx.heap (H10.box 1 rfl)))) (dM rfl rfl rfl (dM rfl rfl rfl ?_)))
      have sc2 := own_le_cap (H11.seen 9 rfl)
      obtain ⟨sf2, so2, ss2⟩ := own_cutL (H11.seen 9 rfl) (a) (vs2.length) _ (by omega) (by omega) (by omega) (Nat.le_refl _)
      have H12 := H11.look1 9 rfl so2 ss2
      have sl2 := cut_len (xs := vs2) (l := a) (h := vs2.length) (by omega)
      refine dV rfl rfl (fun zw hx => py_slcLN tu30 ts68 rfl rfl (a) (by omega) (by omega) sl2) (d_fork (l1 := [(0, false), (1005, false), (4, false), (6, false), (7, false), (11, false), (12, false), (6, false), (4, false), (7, false), (11, false), (12, false)]) (l2 := [(6, false), (0, false), (4, false), (7, false), (11, false), (12, false)]) rfl rfl rfl rfl ?_ ?_)
      ·refine d_S (fun hs1 => ?_) (by simp)
       refine d_lit0 (α := RecV) rfl (wn rfl) rfl tu30 Tryz_ty68 H12 (fun _ h e => h.trans e.no) (fun b3 w9 e6 g3 H13 => ?_)
       refine d_fork (l1 := [(4, false), (6, false), (7, false), (11, false), (12, false)]) (l2 := [(6, false), (4, false), (7, false), (11, false), (12, false)]) rfl rfl rfl rfl ?_ ?_
       ·refine d_S (fun hs2 => ?_) (by simp)
        refine d_appFS rfl (wn rfl) rfl tu30 Tryz_ty68 rfl rfl rfl H13 2 rfl (H13.seen 10 rfl) (by (try simp only [List.length_append, List.length_nil, List.length_cons]); unfold maxLen; omega) (by (try simp only [List.length_append, List.length_nil, List.length_cons]); omega) (fun b hb => by simp only [List.mem_singleton] at hb; rw [hb]; exact Nat.le_trans hs1.size g3) (fun v3 w10 fp1 sb1 H14 => ?_)
        try dsimp only [lNA, lCA, lSZ, lSS] at H14
        refine d_lit1 rfl (wn rfl) rfl tu30 Tryz_ty68 rfl rfl rfl rfl H14 (fun _ h e => h.trans e.no) (fun b4 w11 e7 g4 H15 => ?_)
        refine d_S (fun hs3 => ?_) (by simp)
        refine d_app1S rfl (wn rfl) rfl tu30 Tryz_ty68 rfl rfl rfl H15 2 3 rfl rfl (recv_own (v := (RecV.mk ((z.Tapes.getD k default).Recs.getD j default) ea3 ek3 ea4 ek4 ea5 ek5)) (by assumption)) (by (try simp only [List.length_append, List.length_nil, List.length_cons]); unfold maxLen; omega) (by (try simp only [List.length_append, List.length_nil, List.length_cons]); omega) (fun b hb => (sb1 b hb).elim (((fun b hb => by simp only [List.mem_singleton] at hb; rw [hb]; exact Nat.le_trans hs1.size g3) : ∀ b ∈ _, _ ≤ b) b) (fun h => Nat.le_trans hs2.size h)) (fun v4 w12 fp2 sb2 H16 => ?_)
        try dsimp only [lNA, lCA, lSZ, lSS] at H16
        refine d_S (fun hs4 => ?_) (by simp)
        refine d_appFS rfl (wn rfl) rfl tu30 Tryz_ty68 rfl rfl rfl H16 2 rfl (H16.seen 11 rfl) (by (try simp only [List.length_append, List.length_nil, List.length_cons]); unfold maxLen; omega) (by (try simp only [List.length_append, List.length_nil, List.length_cons]); omega) (fun b hb => (sb2 b hb).elim (((fun b hb => (sb1 b hb).elim (((fun b hb => by simp only [List.mem_singleton] at hb; rw [hb]; exact Nat.le_trans hs1.size g3) : ∀ b ∈ _, _ ≤ b) b) (fun h => Nat.le_trans hs2.size h)) : ∀ b ∈ _, _ ≤ b) b) (fun h => Nat.le_trans hs3.size h)) (fun v5 w13 fp3 sb3 H17 => ?_)
        try dsimp only [lNA, lCA, lSZ, lSS] at H17
        refine d_end rfl (wn rfl) rfl rfl (py_assign rfl) (d_nil (W_reg (sM rfl rfl (sV rfl (py_add rfl rfl (in64 ⟨by omega, by omega⟩)) (sA rfl rfl (s_nil ?_))))))
        exact ⟨((j + 1, _), _, _), ⟨rfl, rfl, rfl, rfl, rfl, trivial⟩, ⟨(H17.ftake 4).sub (.cons _ (.cons _ (.cons_cons _ (.cons _ List.Sublist.slnil)))), by (try dsimp only); omega, ((hR2.sub cut_sub).snoc hE).app (hR2.sub cut_sub), by (try dsimp only); rw [cntTo_next (by omega), dd_no (fun hm => absurd ((stable_mem hM2 _).2 hm) (by simpa using hno)), ins_list rfl (by omega)]; exact ins_new hM2 (by omega) (.inr (by rw [← map_getD rfl (by omega)]; exact of_decide_eq_false (by simpa using c4))) (fun i h1 h2 => by rw [← map_getD rfl (by omega)]; exact hB i h1 (by omega))⟩, by dsimp only; omega⟩
       ·refine d_lit1 rfl (wn rfl) rfl tu30 Tryz_ty68 rfl rfl rfl rfl H13 (fun _ h e => h.trans e.no) (fun b5 w14 e8 g5 H18 => ?_)
        refine d_S (fun hs5 => ?_) (by simp)
        refine d_appFS rfl (wn rfl) rfl tu30 Tryz_ty68 rfl rfl rfl H18 2 rfl (H18.seen 10 rfl) (by (try simp only [List.length_append, List.length_nil, List.length_cons]); unfold maxLen; omega) (by (try simp only [List.length_append, List.length_nil, List.length_cons]); omega) (fun b hb => by simp only [List.mem_singleton] at hb; rw [hb]; exact Nat.le_trans hs1.size g3) (fun v6 w15 fp4 sb4 H19 => ?_)
        try dsimp only [lNA, lCA, lSZ, lSS] at H19
        refine d_S (fun hs6 => ?_) (by simp)
        refine d_app1S rfl (wn rfl) rfl tu30 Tryz_ty68 rfl rfl rfl H19 2 3 rfl rfl (recv_own (v := (RecV.mk ((z.Tapes.getD k default).Recs.getD j default) ea3 ek3 ea4 ek4 ea5 ek5)) (by assumption)) (by (try simp only [List.length_append, List.length_nil, List.length_cons]); unfold maxLen; omega) (by (try simp only [List.length_append, List.length_nil, List.length_cons]); omega) (fun b hb => (sb4 b hb).elim (((fun b hb => by simp only [List.mem_singleton] at hb; rw [hb]; exact Nat.le_trans hs1.size g3) : ∀ b ∈ _, _ ≤ b) b) (fun h => Nat.le_trans hs5.size h)) (fun v7 w16 fp5 sb5 H20 => ?_)
        try dsimp only [lNA, lCA, lSZ, lSS] at H20
        refine d_S (fun hs7 => ?_) (by simp)
        refine d_appFS rfl (wn rfl) rfl tu30 Tryz_ty68 rfl rfl rfl H20 2 rfl (H20.seen 11 rfl) (by (try simp only [List.length_append, List.length_nil, List.length_cons]); unfold maxLen; omega) (by (try simp only [List.length_append, List.length_nil, List.length_cons]); omega) (fun b hb => (sb5 b hb).elim (((fun b hb => (sb4 b hb).elim (((fun b hb => by simp only [List.mem_singleton] at hb; rw [hb]; exact Nat.le_trans hs1.size g3) : ∀ b ∈ _, _ ≤ b) b) (fun h => Nat.le_trans hs5.size h)) : ∀ b ∈ _, _ ≤ b) b) (fun h => Nat.le_trans hs6.size h)) (fun v8 w17 fp6 sb6 H21 => ?_)
        try dsimp only [lNA, lCA, lSZ, lSS] at H21
        refine d_end rfl (wn rfl) rfl rfl (py_assign rfl) (d_nil (W_reg (sM rfl rfl (sV rfl (py_add rfl rfl (in64 ⟨by omega, by omega⟩)) (sA rfl rfl (s_nil ?_))))))
        exact ⟨((j + 1, _), _, _), ⟨rfl, rfl, rfl, rfl, rfl, trivial⟩, ⟨(H21.ftake 4).sub (.cons _ (.cons _ (.cons_cons _ (.cons _ List.Sublist.slnil)))), by (try dsimp only); omega, ((hR2.sub cut_sub).snoc hE).app (hR2.sub cut_sub), by (try dsimp only); rw [cntTo_next (by omega), dd_no (fun hm => absurd ((stable_mem hM2 _).2 hm) (by simpa using hno)), ins_list rfl (by omega)]; exact ins_new hM2 (by omega) (.inr (by rw [← map_getD rfl (by omega)]; exact of_decide_eq_false (by simpa using c4))) (fun i h1 h2 => by rw [← map_getD rfl (by omega)]; exact hB i h1 (by omega))⟩, by dsimp only; omega⟩
      ·refine d_lit1 rfl (wn rfl) rfl tu30 Tryz_ty68 rfl rfl rfl rfl H12 (fun _ h e => h.trans e.no) (fun b6 w18 e9 g6 H22 => ?_)
       refine d_S (fun hs8 => ?_) (by simp)
       refine d_lit0 (α := RecV) rfl (wn rfl) rfl tu30 Tryz_ty68 H22 (fun _ h e => h.trans e.no) (fun b7 w19 e10 g7 H23 => ?_)
       refine d_S (fun hs9 => ?_) (by simp)
       refine d_appFS rfl (wn rfl) rfl tu30 Tryz_ty68 rfl rfl rfl H23 3 rfl (H23.seen 10 rfl) (by (try simp only [List.length_append, List.length_nil, List.length_cons]); unfold maxLen; omega) (by (try simp only [List.length_append, List.length_nil, List.length_cons]); omega) (fun b hb => by simp only [List.mem_singleton] at hb; rw [hb]; exact Nat.le_trans hs8.size g7) (fun v9 w20 fp7 sb7 H24 => ?_)
       try dsimp only [lNA, lCA, lSZ, lSS] at H24
       refine d_S (fun hs10 => ?_) (by simp)
       refine d_app1S rfl (wn rfl) rfl tu30 Tryz_ty68 rfl rfl rfl H24 3 2 rfl rfl (recv_own (v := (RecV.mk ((z.Tapes.getD k default).Recs.getD j default) ea3 ek3 ea4 ek4 ea5 ek5)) (by assumption)) (by (try simp only [List.length_append, List.length_nil, List.length_cons]); unfold maxLen; omega) (by (try simp only [List.length_append, List.length_nil, List.length_cons]); omega) (fun b hb => (sb7 b hb).elim (((fun b hb => by simp only [List.mem_singleton] at hb; rw [hb]; exact Nat.le_trans hs8.size g7) : ∀ b ∈ _, _ ≤ b) b) (fun h => Nat.le_trans hs9.size h)) (fun v10 w21 fp8 sb8 H25 => ?_)
       try dsimp only [lNA, lCA, lSZ, lSS] at H25
       refine d_S (fun hs11 => ?_) (by simp)
       refine d_appFS rfl (wn rfl) rfl tu30 Tryz_ty68 rfl rfl rfl H25 3 rfl (H25.seen 11 rfl) (by (try simp only [List.length_append, List.length_nil, List.length_cons]); unfold maxLen; omega) (by (try simp only [List.length_append, List.length_nil, List.length_cons]); omega) (fun b hb => (sb8 b hb).elim (((fun b hb => (sb7 b hb).elim (((fun b hb => by simp only [List.mem_singleton] at hb; rw [hb]; exact Nat.le_trans hs8.size g7) : ∀ b ∈ _, _ ≤ b) b) (fun h => Nat.le_trans hs9.size h)) : ∀ b ∈ _, _ ≤ b) b) (fun h => Nat.le_trans hs10.size h)) (fun v11 w22 fp9 sb9 H26 => ?_)
       try dsimp only [lNA, lCA, lSZ, lSS] at H26
       refine d_end rfl (wn rfl) rfl rfl (py_assign rfl) (d_nil (W_reg (sM rfl rfl (sV rfl (py_add rfl rfl (in64 ⟨by omega, by omega⟩)) (sA rfl rfl (s_nil ?_))))))
       exact ⟨((j + 1, _), _, _), ⟨rfl, rfl, rfl, rfl, rfl, trivial⟩, ⟨(H26.ftake 4).sub (.cons _ (.cons _ (.cons _ (.cons_cons _ List.Sublist.slnil)))), by (try dsimp only); omega, ((hR2.sub cut_sub).snoc hE).app (hR2.sub cut_sub), by (try dsimp only); rw [cntTo_next (by omega), dd_no (fun hm => absurd ((stable_mem hM2 _).2 hm) (by simpa using hno)), ins_list rfl (by omega)]; exact ins_new hM2 (by omega) (.inr (by rw [← map_getD rfl (by omega)]; exact of_decide_eq_false (by simpa using c4))) (fun i h1 h2 => by rw [← map_getD rfl (by omega)]; exact hB i h1 (by omega))⟩, by dsimp only; omega⟩
    ·try simp only [decide_eq_true_eq, decide_eq_false_iff_not] at hg1
     refine dKf rfl rfl rfl rfl (dKf rfl rfl rfl rfl (dKf rfl rfl rfl rfl (dKf rfl rfl rfl rfl (dKf rfl rfl rfl rfl (dKf rfl rfl rfl rfl (d_skipA rfl (wog (b := false) rfl rfl rfl) rfl rfl (d_end rfl (wn rfl) rfl rfl (py_pickF rfl rfl) (d_nil (W_iff rfl (W_exit (W_drw (S := Ext No _) [(1, true), (2, true), (3, true), (5, true), (8, true), (9, true), (10, true), (1012, false), (0, false), (1005, false), (4, false), (6, false), (7, false), (11, false), (12, false), (6, false), (4, false), (7, false), (11, false), (12, false), (6, false), (0, false), (4, false), (7, false), (11, false), (12, false)] (by kernel_rfl) (by kernel_rfl) (by kernel_rfl) rfl (fun _ => Ext.refl.drawn _) (fun q3 => ?_))))))))))))
     have H27 := H8.drawn q3
     refine dM rfl rfl rfl (dM rfl rfl rfl ?_)
     have sc3 := own_le_cap (H27.seen 9 rfl)
     obtain ⟨sf3, so3, ss3⟩ := own_cutL (H27.seen 9 rfl) (0) (a) _ (by omega) (by omega) (by omega) (Nat.le_refl _)
     have H28 := H27.look1 9 rfl so3 ss3
     have sl3 := cut_len (xs := vs2) (l := 0) (h := a) (by omega)
     refine dV rfl rfl (fun zw hx => py_slcHN tu30 ts68 rfl rfl (a) (by omega) (by omega) sl3) (dV rfl rfl (fun zw hx => py_loadS tu68 rfl ts68 rfl rfl (At.whole (hx.heap (H27.box 1 rfl)))) (dM rfl rfl rfl (dM rfl rfl rfl ?_)))
     have sc4 := own_le_cap (H28.seen 9 rfl)
     obtain ⟨sf4, so4, ss4⟩ := own_cutL (H28.seen 9 rfl) (a) (vs2.length) _ (by omega) (by omega) (by omega) (Nat.le_refl _)
     have H29 := H28.look1 9 rfl so4 ss4
     have sl4 := cut_len (xs := vs2) (l := a) (h := vs2.length) (by omega)
     refine dV rfl rfl (fun zw hx => py_slcLN tu30 ts68 rfl rfl (a) (by omega) (by omega) sl4) (d_fork (l1 := [(0, false), (1005, false), (4, false), (6, false), (7, false), (11, false), (12, false), (6, false), (4, false), (7, false), (11, false), (12, false)]) (l2 := [(6, false), (0, false), (4, false), (7, false), (11, false), (12, false)]) rfl rfl rfl rfl ?_ ?_)
     ·refine d_S (fun hs12 => ?_) (by simp)
      refine d_lit0 (α := RecV) rfl (wn rfl) rfl tu30 Tryz_ty68 H29 (fun _ h e => h.trans e.no) (fun b8 w23 e11 g8 H30 => ?_)
      refine d_fork (l1 := [(4, false), (6, false), (7, false), (11, false), (12, false)]) (l2 := [(6, false), (4, false), (7, false), (11, false), (12, false)]) rfl rfl rfl rfl ?_ ?_
      ·refine d_S (fun hs13 => ?_) (by simp)
       refine d_appFS rfl (wn rfl) rfl tu30 Tryz_ty68 rfl rfl rfl H30 2 rfl (H30.seen 10 rfl) (by (try simp only [List.length_append, List.length_nil, List.length_cons]); unfold maxLen; omega) (by (try simp only [List.length_append, List.length_nil, List.length_cons]); omega) (fun b hb => by simp only [List.mem_singleton] at hb; rw [hb]; exact Nat.le_trans hs12.size g8) (fun v12 w24 fp10 sb10 H31 => ?_)
       try dsimp only [lNA, lCA, lSZ, lSS] at H31
       refine d_lit1 rfl (wn rfl) rfl tu30 Tryz_ty68 rfl rfl rfl rfl H31 (fun _ h e => h.trans e.no) (fun b9 w25 e12 g9 H32 => ?_)
       refine d_S (fun hs14 => ?_) (by simp)
       refine d_app1S rfl (wn rfl) rfl tu30 Tryz_ty68 rfl rfl rfl H32 2 3 rfl rfl (recv_own (v := (RecV.mk ((z.Tapes.getD k default).Recs.getD j default) ea3 ek3 ea4 ek4 ea5 ek5)) (by assumption)) (by (try simp only [List.length_append, List.length_nil, List.length_cons]); unfold maxLen; omega) (by (try simp only [List.length_append, List.length_nil, List.length_cons]); omega) (fun b hb => (sb10 b hb).elim (((fun b hb => by simp only [List.mem_singleton] at hb; rw [hb]; exact Nat.le_trans hs12.size g8) : ∀ b ∈ _, _ ≤ b) b) (fun h => Nat.le_trans hs13.size h)) (fun v13 w26 fp11 sb11 H33 => ?_)
       try dsimp only [lNA, lCA, lSZ, lSS] at H33
       refine d_S (fun hs15 => ?_) (by simp)
       refine d_appFS rfl (wn rfl) rfl tu30 Tryz_ty68 rfl rfl rfl H33 2 rfl (H33.seen 11 rfl) (by (try simp only [List.length_append, List.length_nil, List.length_cons]); unfold maxLen; omega) (by (try simp only [List.length_append, List.length_nil, List.length_cons]); omega) (fun b hb => (sb11 b hb).elim (((fun b hb => (sb10 b hb).elim (((fun b hb => by simp only [List.mem_singleton] at hb; rw [hb]; exact Nat.le_trans hs12.size g8) : ∀ b ∈ _, _ ≤ b) b) (fun h => Nat.le_trans hs13.size h)) : ∀ b ∈ _, _ ≤ b) b) (fun h => Nat.le_trans hs14.size h)) (fun v14 w27 fp12 sb12 H34 => ?_)
       try dsimp only [lNA, lCA, lSZ, lSS] at H34
       refine d_end rfl (wn rfl) rfl rfl (py_assign rfl) (d_nil (W_reg (sM rfl rfl (sV rfl (py_add rfl rfl (in64 ⟨by omega, by omega⟩)) (sA rfl rfl (s_nil ?_))))))
       exact ⟨((j + 1, _), _, _), ⟨rfl, rfl, rfl, rfl, rfl, trivial⟩, ⟨(H34.ftake 4).sub (.cons _ (.cons _ (.cons_cons _ (.cons _ List.Sublist.slnil)))), by (try dsimp only); omega, ((hR2.sub cut_sub).snoc hE).app (hR2.sub cut_sub), by (try dsimp only); rw [cntTo_next (by omega), dd_no (fun hm => absurd ((stable_mem hM2 _).2 hm) (by simpa using hno)), ins_list rfl (by omega)]; exact ins_new hM2 (by omega) (.inl (by omega)) (fun i h1 h2 => by rw [← map_getD rfl (by omega)]; exact hB i h1 (by omega))⟩, by dsimp only; omega⟩
      ·refine d_lit1 rfl (wn rfl) rfl tu30 Tryz_ty68 rfl rfl rfl rfl H30 (fun _ h e => h.trans e.no) (fun b10 w28 e13 g10 H35 => ?_)
       refine d_S (fun hs16 => ?_) (by simp)
       refine d_appFS rfl (wn rfl) rfl tu30 Tryz_ty68 rfl rfl rfl H35 2 rfl (H35.seen 10 rfl) (by (try simp only [List.length_append, List.length_nil, List.length_cons]); unfold maxLen; omega) (by (try simp only [List.length_append, List.length_nil, List.length_cons]); omega) (fun b hb => by simp only [List.mem_singleton] at hb; rw [hb]; exact Nat.le_trans hs12.size g8) (fun v15 w29 fp13 sb13 H36 => ?_)
       try dsimp only [lNA, lCA, lSZ, lSS] at H36
       refine d_S (fun hs17 => ?_) (by simp)
       refine d_app1S rfl (wn rfl) rfl tu30 Tryz_ty68 rfl rfl rfl H36 2 3 rfl rfl (recv_own (v := (RecV.mk ((z.Tapes.getD k default).Recs.getD j default) ea3 ek3 ea4 ek4 ea5 ek5)) (by assumption)) (by (try simp only [List.length_append, List.length_nil, List.length_cons]); unfold maxLen; omega) (by (try simp only [List.length_append, List.length_nil, List.length_cons]); omega) (fun b hb => (sb13 b hb).elim (((fun b hb => by simp only [List.mem_singleton] at hb; rw [hb]; exact Nat.le_trans hs12.size g8) : ∀ b ∈ _, _ ≤ b) b) (fun h => Nat.le_trans hs16.size h)) (fun v16 w30 fp14 sb14 H37 => ?_)
       try dsimp only [lNA, lCA, lSZ, lSS] at H37
       refine d_S (fun hs18 => ?_) (by simp)
       refine d_appFS rfl (wn rfl) rfl tu30 Tryz_ty68 rfl rfl rfl H37 2 rfl (H37.seen 11 rfl) (by (try simp only [List.length_append, List.length_nil, List.length_cons]); unfold maxLen; omega) (by (try simp only [List.length_append, List.length_nil, List.length_cons]); omega) (fun b hb => (sb14 b hb).elim (((fun b hb => (sb13 b hb).elim (((fun b hb => by simp only [List.mem_singleton] at hb; rw [hb]; exact Nat.le_trans hs12.size g8) : ∀ b ∈ _, _ ≤ b) b) (fun h => Nat.le_trans hs16.size h)) : ∀ b ∈ _, _ ≤ b) b) (fun h => Nat.le_trans hs17.size h)) (fun v17 w31 fp15 sb15 H38 => ?_)
       try dsimp only [lNA, lCA, lSZ, lSS] at H38
       refine d_end rfl (wn rfl) rfl rfl (py_assign rfl) (d_nil (W_reg (sM rfl rfl (sV rfl (py_add rfl rfl (in64 ⟨by omega, by omega⟩)) (sA rfl rfl (s_nil ?_))))))
       exact ⟨((j + 1, _), _, _), ⟨rfl, rfl, rfl, rfl, rfl, trivial⟩, ⟨(H38.ftake 4).sub (.cons _ (.cons _ (.cons_cons _ (.cons _ List.Sublist.slnil)))), by (try dsimp only); omega, ((hR2.sub cut_sub).snoc hE).app (hR2.sub cut_sub), by (try dsimp only); rw [cntTo_next (by omega), dd_no (fun hm => absurd ((stable_mem hM2 _).2 hm) (by simpa using hno)), ins_list rfl (by omega)]; exact ins_new hM2 (by omega) (.inl (by omega)) (fun i h1 h2 => by rw [← map_getD rfl (by omega)]; exact hB i h1 (by omega))⟩, by dsimp only; omega⟩
     ·refine d_lit1 rfl (wn rfl) rfl tu30 Tryz_ty68 rfl rfl rfl rfl H29 (fun _ h e => h.trans e.no) (fun b11 w32 e14 g11 H39 => ?_)
      refine d_S (fun hs19 => ?_) (by simp)
      refine d_lit0 (α := RecV) rfl (wn rfl) rfl tu30 Tryz_ty68 H39 (fun _ h e => h.trans e.no) (fun b12 w33 e15 g12 H40 => ?_)
      refine d_S (fun hs20 => ?_) (by simp)
      refine d_appFS rfl (wn rfl) rfl tu30 Tryz_ty68 rfl rfl rfl H40 3 rfl (H40.seen 10 rfl) (by (try simp only [List.length_append, List.length_nil, List.length_cons]); unfold maxLen; omega) (by (try simp only [List.length_append, List.length_nil, List.length_cons]); omega) (fun b hb => by simp only [List.mem_singleton] at hb; rw [hb]; exact Nat.le_trans hs19.size g12) (fun v18 w34 fp16 sb16 H41 => ?_)
      try dsimp only [lNA, lCA, lSZ, lSS] at H41
      refine d_S (fun hs21 => ?_) (by simp)
      refine d_app1S rfl (wn rfl) rfl tu30 Tryz_ty68 rfl rfl rfl H41 3 2 rfl rfl (recv_own (v := (RecV.mk ((z.Tapes.getD k default).Recs.getD j default) ea3 ek3 ea4 ek4 ea5 ek5)) (by assumption)) (by (try simp only [List.length_append, List.length_nil, List.length_cons]); unfold maxLen; omega) (by (try simp only [List.length_append, List.length_nil, List.length_cons]); omega) (fun b hb => (sb16 b hb).elim (((fun b hb => by simp only [List.mem_singleton] at hb; rw [hb]; exact Nat.le_trans hs19.size g12) : ∀ b ∈ _, _ ≤ b) b) (fun h => Nat.le_trans hs20.size h)) (fun v19 w35 fp17 sb17 H42 => ?_)
      try dsimp only [lNA, lCA, lSZ, lSS] at H42
      refine d_S (fun hs22 => ?_) (by simp)
      refine d_appFS rfl (wn rfl) rfl tu30 Tryz_ty68 rfl rfl rfl H42 3 rfl (H42.seen 11 rfl) (by (try simp only [List.length_append, List.length_nil, List.length_cons]); unfold maxLen; omega) (by (try simp only [List.length_append, List.length_nil, List.length_cons]); omega) (fun b hb => (sb17 b hb).elim (((fun b hb => (sb16 b hb).elim (((fun b hb => by simp only [List.mem_singleton] at hb; rw [hb]; exact Nat.le_trans hs19.size g12) : ∀ b ∈ _, _ ≤ b) b) (fun h => Nat.le_trans hs20.size h)) : ∀ b ∈ _, _ ≤ b) b) (fun h => Nat.le_trans hs21.size h)) (fun v20 w36 fp18 sb18 H43 => ?_)
      try dsimp only [lNA, lCA, lSZ, lSS] at H43
      refine d_end rfl (wn rfl) rfl rfl (py_assign rfl) (d_nil (W_reg (sM rfl rfl (sV rfl (py_add rfl rfl (in64 ⟨by omega, by omega⟩)) (sA rfl rfl (s_nil ?_))))))
      exact ⟨((j + 1, _), _, _), ⟨rfl, rfl, rfl, rfl, rfl, trivial⟩, ⟨(H43.ftake 4).sub (.cons _ (.cons _ (.cons _ (.cons_cons _ List.Sublist.slnil)))), by (try dsimp only); omega, ((hR2.sub cut_sub).snoc hE).app (hR2.sub cut_sub), by (try dsimp only); rw [cntTo_next (by omega), dd_no (fun hm => absurd ((stable_mem hM2 _).2 hm) (by simpa using hno)), ins_list rfl (by omega)]; exact ins_new hM2 (by omega) (.inl (by omega)) (fun i h1 h2 => by rw [← map_getD rfl (by omega)]; exact hB i h1 (by omega))⟩, by dsimp only; omega⟩
  ·refine W_exit (W_reg (sM rfl rfl (sV rfl (py_add rfl rfl (in64 ⟨by omega, by omega⟩)) (sA rfl rfl (s_nil ?_)))))
   obtain rfl : j = (z.Tapes.getD k default).Recs.length := by omega
   exact ⟨((k + 1, vs2), _, _), ⟨rfl, rfl, rfl, rfl, trivial⟩, ⟨(eP1.ftake 4), by (try dsimp only); omega, hR2, by (try dsimp only); rw [← cntTo_tape (by omega)]; exact hM2⟩, by dsimp only; omega⟩
 ·refine W_exit (W_sr (sM rfl rfl (sA rfl rfl (s_nil (rT hQ Tryz.results63 rfl ?_)))))
  obtain rfl : k = 2 := by omega
  exact ⟨H2.ext, vs, H2.out 0 rfl, hR.to H2.ext, cntTo_all (by rw [hT]; exact hM)⟩
end Go.Wk
namespace Go.Wk
open Go.Proofs Rp
set_option maxRecDepth 10000
set_option maxHeartbeats 1000000 in
theorem Tryz_spec_RecFault {w : World} {s : Shape} {r : Rec} {rA6 rA7 rA8 : Option Addr} {rC6 rC7 rC8 : Nat} (rK : r.Ok) (rS6 : Sees w [.slice rA6 r.Rows.length rC6] r.Rows) (rS7 : Sees w [.slice rA7 r.Data.length rC7] r.Data) (rS8 : Sees w [.slice rA8 r.Delta.length rC8] r.Delta) : Ret Tryz.prog 112 #[s.v, r.val rA6 rC6 rA7 rC7 rA8 rC8] w fun v w' => Ext No w w' ∧ (v = .int .i64 (if s.fault ≠ 0 then s.fault else recF s r)) := by
 have rK2 := rK
 unfold Rec.Ok at rK2
 try unfold I64ok at rK2
 try unfold maxLen at rK2
 have rN2 : r.Name.size ≤ maxLen := by unfold maxLen; omega
 have rL6 := sL rS6
 obtain ⟨rF6, rO6⟩ := rS6
 have rL7 := sL rS7
 obtain ⟨rF7, rO7⟩ := rS7
 have rL8 := sL rS8
 obtain ⟨rF8, rO8⟩ := rS8
 refine ret_Q (vs := [s.v, r.val rA6 rC6 rA7 rC7 rA8 rC8]) Tryz.func112 rfl Tryz.ntmps112 rfl (fun Q hQ hN => ?_)
 have H0 := Sep.start (w := w) (F := [seen false [.slice rA6 r.Rows.length rC6] r.Rows rF6, seen false [.slice rA7 r.Data.length rC7] r.Data rF7, seen false [.slice rA8 r.Delta.length rC8] r.Delta rF8]) (all_cons rO6 (all_cons rO7 (all_cons rO8 (by simp))))
 refine W_sr (s_box (wn rfl) rfl rfl H0 (fun b1 w1 e1 g1 H1 => ?_))
 refine s_box (wn rfl) rfl rfl H1 (fun b2 w2 e2 g2 H2 => ?_)
 refine sA rfl rfl (s_nil (W_seq (W_sr (sV rfl (py_loadS tu34 rfl ts34 rfl rfl (At.whole (H2.box 0 rfl))) (s_call (wn rfl) rfl rfl (pc_call Tryz.func159 rfl Tryz_nm159 rfl) Tryz_spec_ShapeFault (fun v1 w3 r1 => ?_))))))
 obtain ⟨e3, rfl⟩ := r1
 have H3 := H2.to e3
 refine sA rfl rfl (s_nil (W_sr (sM rfl rfl (sV rfl (py_neq rfl rfl) (s_nil (W_ifd rfl (fun c1 => ?_) (fun c1 => ?_)))))))
 ·refine W_sr (sM rfl rfl (sA rfl rfl (s_nil (rT hQ Tryz.results112 rfl ?_))))
  exact ⟨H3.ext, congrArg (Value.int .i64) (if_pos (by omega)).symm⟩
 ·refine W_skip (W_seq (W_seq ?_))
  have hs := shapeFault_ok (s := s) (by omega)
  have sbd := shape_bd hs
  refine W_reg (sV rfl (py_field tu68 rfl ts2 rfl rfl) (sV rfl (py_load tu2 rfl rfl (cell_atL (H3.box 1 rfl) rfl)) (s_call (wn rfl) rfl rfl (pc_call Tryz.func97 rfl Tryz_nm97 rfl) Tryz_spec_l1In (fun v2 w4 r2 => ?_))))
  obtain ⟨e4, rfl⟩ := r2
  have H4 := H3.to e4
  refine sV rfl (py_not rfl) (s_nil (W_if rfl (fun c2 => ?_) (fun c2 => ?_)))
  ·refine W_sr (sA rfl rfl (s_nil (rT hQ Tryz.results112 rfl ?_)))
   exact ⟨H4.ext, congrArg (Value.int .i64) ((if_neg (by omega)).trans (recF_kind (not_true c2))).symm⟩
  ·refine W_skip (W_seq (W_sr (sV rfl (py_field tu68 rfl ts2 rfl rfl) (sV rfl (py_load tu2 rfl rfl (cell_atL (H4.box 1 rfl) rfl)) (s_call (wn rfl) rfl rfl (pc_call Tryz.func97 rfl Tryz_nm97 rfl) Tryz_spec_l1In (fun v3 w5 r3 => ?_))))))
   obtain ⟨e5, rfl⟩ := r3
   have H5 := H4.to e5
   refine sV rfl (py_not rfl) (s_nil (W_if rfl (fun c3 => ?_) (fun c3 => ?_)))
   ·refine W_sr (sA rfl rfl (s_nil (rT hQ Tryz.results112 rfl ?_)))
    exact ⟨H5.ext, congrArg (Value.int .i64) ((if_neg (by omega)).trans (recF_seq (not_false c2) (not_true c3))).symm⟩
   ·refine W_skip (W_sr (sV rfl (py_loadS tu68 rfl ts68 rfl rfl (At.whole (H5.box 1 rfl))) (s_var (wn rfl) rfl Tryz.zeroValue68 H5 (fun b3 w6 e6 g3 H6 => ?_))))
    refine s_stoS (wn rfl) ts68 rfl rfl rfl rfl H6 2 rfl rfl (fun w7 e7 H7 => ?_)
    dsimp only [lNA, lCA, lSZ, lSS, layL] at H7
    refine s_nil (W_seq (W_sr (sV rfl (py_field tu68 rfl ts2 rfl rfl) (sV rfl (py_load tu2 rfl rfl (cell_atL (H7.box 1 rfl) rfl)) (s_nil (W_block (W_seq ?_)))))))
    have hk1 := ins_iff.1 (not_false c2)
    refine W_reg (sV rfl (py_eql rfl rfl) (sA rfl rfl (s_nil (W_ifd rfl (fun c4 => ?_) (fun c4 => ?_)))))
    ·refine W_seq (W_sr (sV rfl (py_field tu68 rfl ts9 rfl rfl) (sV rfl (py_load tu9 rfl rfl (cell_atL (H7.box 1 rfl) rfl)) (s_call (wn rfl) rfl rfl (pc_call Tryz.func187 rfl Tryz_nm187 rfl) (Tryz_spec_NameFault (by assumption)) (fun v4 w8 r4 => ?_)))))
     obtain ⟨e8, rfl⟩ := r4
     have H8 := H7.to e8
     refine sA rfl rfl (s_nil (W_sr (sM rfl rfl (sV rfl (py_neq rfl rfl) (s_nil (W_ifd rfl (fun c5 => ?_) (fun c5 => ?_)))))))
     ·refine W_sr (sM rfl rfl (sA rfl rfl (s_nil (rT hQ Tryz.results112 rfl ?_))))
      have kq := (kindF_item (s := s) (by omega)).trans (itemF_name (by omega))
      have kF := recF_bad (s := s) (not_false c2) (not_false c3) (by omega)
      exact ⟨H8.ext, congrArg (Value.int .i64) ((if_neg (by omega)).trans (kF.trans kq)).symm⟩
     ·refine W_skip (W_seq (W_sr (sV rfl (py_loadS tu34 rfl ts34 rfl rfl (At.whole (H8.box 0 rfl))) (sV rfl (py_loadS tu68 rfl ts68 rfl rfl (At.whole (H8.box 1 rfl))) (s_call (wn rfl) rfl rfl (pc_call Tryz.func188 rfl Tryz_nm188 rfl) (Tryz_spec_l5Item (by assumption) (H8.sees 0 rfl) (H8.sees 1 rfl) (H8.sees 2 rfl) (by assumption)) (fun v5 w9 r5 => ?_))))))
      obtain ⟨e9, rfl⟩ := r5
      have H9 := H8.to e9
      refine sV rfl (py_not rfl) (s_nil (W_if rfl (fun c6 => ?_) (fun c6 => ?_)))
      ·refine W_sr (sA rfl rfl (s_nil (rT hQ Tryz.results112 rfl ?_)))
       have kq := (kindF_item (s := s) (by omega)).trans (itemF_bad (by omega) (not_true c6))
       have kF := recF_bad (s := s) (not_false c2) (not_false c3) (by omega)
       exact ⟨H9.ext, congrArg (Value.int .i64) ((if_neg (by omega)).trans (kF.trans kq)).symm⟩
      ·refine W_skip (W_sr (sV rfl (py_field tu68 rfl ts9 rfl rfl) (s_sto (wn rfl) ts9 rfl rfl rfl H9 2 rfl rfl (fun w10 e10 H10 => ?_))))
       dsimp only [lNA, lCA, lSZ, lSS, layL] at H10
       refine s_nil (W_sr (sV rfl (py_field tu68 rfl ts2 rfl rfl) (s_sto (wn rfl) ts2 rfl rfl rfl H10 2 rfl rfl (fun w11 e11 H11 => ?_))))
       dsimp only [lNA, lCA, lSZ, lSS, layL] at H11
       refine s_nil (W_sr (sV rfl (py_field tu68 rfl ts25 rfl rfl) (s_sto (wn rfl) ts25 rfl rfl rfl H11 2 rfl rfl (fun w12 e12 H12 => ?_))))
       dsimp only [lNA, lCA, lSZ, lSS, layL] at H12
       refine s_nil (W_reg (sV rfl (py_field tu68 rfl ts45 rfl rfl) (s_sto (wn rfl) ts45 rfl rfl rfl H12 2 rfl rfl (fun w13 e13 H13 => ?_))))
       dsimp only [lNA, lCA, lSZ, lSS, layL] at H13
       refine s_nil (W_seq (W_sr (sV rfl (py_loadS tu68 rfl ts68 rfl rfl (At.whole (H13.box 2 rfl))) (s_call (wn rfl) rfl rfl (pc_call Tryz.func192 rfl Tryz_nm192 rfl) (Tryz_spec_l5Empty (r := ⟨r.Kind, r.Seq, ⟨#[]⟩, 0, r.Group, r.Row, [], [], r.Delta⟩) (rest_ok1 rK) ⟨[], .inr (.inl ⟨rfl, rfl, rfl⟩)⟩ ⟨[], .inr (.inl ⟨rfl, rfl, rfl⟩)⟩ (H13.sees 2 rfl)) (fun v6 w14 r6 => ?_)))))
       obtain ⟨e14, rfl⟩ := r6
       have H14 := H13.to e14
       refine sV rfl (py_not rfl) (s_nil (W_if rfl (fun c7 => ?_) (fun c7 => ?_)))
       ·refine W_sr (sA rfl rfl (s_nil (rT hQ Tryz.results112 rfl ?_)))
        have kq := (kindF_item (s := s) (by omega)).trans (itemF_ok (by omega) (not_false c6))
        exact ⟨H14.ext, congrArg (Value.int .i64) ((if_neg (by omega)).trans (recF_form (not_false c2) (not_false c3) kq (by rw [← rest_bare1 (by omega)]; exact not_true c7))).symm⟩
       ·refine W_skip (W_sr (sA rfl rfl (s_nil (rT hQ Tryz.results112 rfl ?_))))
        have kq := (kindF_item (s := s) (by omega)).trans (itemF_ok (by omega) (not_false c6))
        exact ⟨H14.ext, congrArg (Value.int .i64) ((if_neg (by omega)).trans (recF_ok (not_false c2) (not_false c3) kq (by rw [← rest_bare1 (by omega)]; exact not_false c7))).symm⟩
    ·refine W_sr (sV rfl (py_eql rfl rfl) (sA rfl rfl (s_nil (W_ifd rfl (fun c8 => ?_) (fun c8 => ?_)))))
     ·refine W_seq (W_seq (W_drw (S := Ext No _) [(0, true), (1, true), (2, true), (3, true), (4, true), (5, false), (6, true), (7, true), (8, true), (9, true), (10, true), (11, true), (12, true), (13, false), (14, true), (15, true), (16, true), (17, true), (18, true), (19, true), (20, true), (21, false), (22, true), (23, true), (24, true), (25, true), (26, true), (27, true), (28, true), (29, false), (30, true), (31, false)] (by kernel_rfl) (by kernel_rfl) (by kernel_rfl) rfl (fun _ => Ext.refl.drawn _) (fun q1 => ?_)))
      have H15 := H7.drawn q1
      refine dV rfl rfl (fun zw hx => py_field tu68 rfl ts2 rfl rfl) (dV rfl rfl (fun zw hx => py_load tu2 rfl rfl (cell_atL (hx.heap (H15.box 1 rfl)) rfl)) (dV rfl rfl (fun zw hx => py_field tu34 rfl ts2 rfl rfl) (dV rfl rfl (fun zw hx => py_load tu2 rfl rfl (cell_atL (hx.heap (H15.box 0 rfl)) rfl)) (dV rfl rfl (fun zw hx => py_sub rfl rfl (in64 ⟨by omega, by omega⟩)) (d_call rfl (wn rfl) rfl rfl (pc_call Tryz.func97 rfl Tryz_nm97 rfl) Tryz_spec_l1In (fun hS _ _ r _ => hS.trans r.1.no) (fun v7 w15 r7 => ?_))))))
      obtain ⟨e15, rfl⟩ := r7
      have H16 := H15.to e15
      refine dV rfl rfl (fun zw hx => py_not rfl) (dM rfl rfl rfl (d_case (t := 49) rfl (fun hg1 => ?_) (fun hg1 => ?_)))
      ·try simp only [decide_eq_true_eq, decide_eq_false_iff_not] at hg1
       refine dKt rfl rfl rfl rfl (dKt rfl rfl rfl rfl (dKt rfl rfl rfl rfl (dKt rfl rfl rfl rfl (dKt rfl rfl rfl rfl (d_skipA rfl (wog (b := true) rfl rfl rfl) rfl rfl (dKt rfl rfl rfl rfl (dV rfl rfl (fun zw hx => py_pickT rfl rfl) (dM rfl rfl rfl (dKt rfl rfl rfl rfl (dKt rfl rfl rfl rfl (dKt rfl rfl rfl rfl (dKt rfl rfl rfl rfl (d_skipA rfl (wog (b := true) rfl rfl rfl) rfl rfl (dKt rfl rfl rfl rfl (dV rfl rfl (fun zw hx => py_pickT rfl rfl) (dM rfl rfl rfl (dKt rfl rfl rfl rfl (dKt rfl rfl rfl rfl (dKt rfl rfl rfl rfl (dKt rfl rfl rfl rfl (d_skipA rfl (wog (b := true) rfl rfl rfl) rfl rfl (dKt rfl rfl rfl rfl (d_end rfl (wn rfl) rfl rfl (py_pickT rfl rfl) (d_nil (W_ift rfl (W_sr (sA rfl rfl (s_nil (rT hQ Tryz.results112 rfl ?_)))))))))))))))))))))))))))))
       have kq := kindF_move_no (s := s) (by omega) (by simp_all [moveOK])
       have kF := recF_bad (s := s) (not_false c2) (not_false c3) (by omega)
       exact ⟨H16.ext, congrArg (Value.int .i64) ((if_neg (by omega)).trans (kF.trans kq)).symm⟩
      ·try simp only [decide_eq_true_eq, decide_eq_false_iff_not] at hg1
       refine d_val rfl (wg rfl rfl rfl) rfl rfl (fun zw hx => py_field tu68 rfl ts2 rfl rfl) (d_val rfl (wg rfl rfl rfl) rfl rfl (fun zw hx => py_load tu2 rfl rfl (cell_atL (hx.heap (H15.box 1 rfl)) rfl)) (d_val rfl (wg rfl rfl rfl) rfl rfl (fun zw hx => py_field tu34 rfl ts2 rfl rfl) (d_val rfl (wg rfl rfl rfl) rfl rfl (fun zw hx => py_load tu2 rfl rfl (cell_atL (hx.heap (H15.box 0 rfl)) rfl)) (d_val rfl (wg rfl rfl rfl) rfl rfl (fun zw hx => py_sub rfl rfl (in64 ⟨by omega, by omega⟩)) (d_call rfl (wg rfl rfl rfl) rfl rfl (pc_call Tryz.func97 rfl Tryz_nm97 rfl) Tryz_spec_l1In (fun hS _ _ r _ => hS.trans r.1.no) (fun v8 w16 r8 => ?_))))))
       obtain ⟨e16, rfl⟩ := r8
       have H17 := H16.to e16
       refine d_val rfl (wg rfl rfl rfl) rfl rfl (fun zw hx => py_not rfl) (dV rfl rfl (fun zw hx => py_pickF rfl rfl) (dM rfl rfl rfl (d_case (t := 58) rfl (fun hg2 => ?_) (fun hg2 => ?_))))
       ·try simp only [decide_eq_true_eq, decide_eq_false_iff_not] at hg2
        refine dKt rfl rfl rfl rfl (dKt rfl rfl rfl rfl (dKt rfl rfl rfl rfl (dKt rfl rfl rfl rfl (d_skipA rfl (wog (b := true) rfl rfl rfl) rfl rfl (dKt rfl rfl rfl rfl (dV rfl rfl (fun zw hx => py_pickT rfl rfl) (dM rfl rfl rfl (dKt rfl rfl rfl rfl (dKt rfl rfl rfl rfl (dKt rfl rfl rfl rfl (dKt rfl rfl rfl rfl (d_skipA rfl (wog (b := true) rfl rfl rfl) rfl rfl (dKt rfl rfl rfl rfl (d_end rfl (wn rfl) rfl rfl (py_pickT rfl rfl) (d_nil (W_ift rfl (W_sr (sA rfl rfl (s_nil (rT hQ Tryz.results112 rfl ?_))))))))))))))))))))
        have kq := kindF_move_no (s := s) (by omega) (by simp_all [moveOK])
        have kF := recF_bad (s := s) (not_false c2) (not_false c3) (by omega)
        exact ⟨H17.ext, congrArg (Value.int .i64) ((if_neg (by omega)).trans (kF.trans kq)).symm⟩
       ·try simp only [decide_eq_true_eq, decide_eq_false_iff_not] at hg2
        refine d_val rfl (wg rfl rfl rfl) rfl rfl (fun zw hx => py_field tu68 rfl ts45 rfl rfl) (d_val rfl (wg rfl rfl rfl) rfl rfl (fun zw hx => py_load tu45 rfl rfl (cell_atL (hx.heap (H15.box 1 rfl)) rfl)) (d_val rfl (wg rfl rfl rfl) rfl rfl (fun zw hx => py_len tu45 rfl) (d_val rfl (wg rfl rfl rfl) rfl rfl (fun zw hx => py_loadS tu34 rfl ts34 rfl rfl (At.whole (hx.heap (H15.box 0 rfl)))) (d_call rfl (wg rfl rfl rfl) rfl rfl (pc_call Tryz.func189 rfl Tryz_nm189 rfl) (Tryz_spec_l4Wide (by assumption)) (fun hS _ _ r _ => hS.trans r.1.no) (fun v9 w17 r9 => ?_)))))
        obtain ⟨e17, rfl⟩ := r9
        have H18 := H17.to e17
        refine d_val rfl (wg rfl rfl rfl) rfl rfl (fun zw hx => py_neq rfl rfl) (dV rfl rfl (fun zw hx => py_pickF rfl rfl) (dM rfl rfl rfl (d_case (t := 66) rfl (fun hg3 => ?_) (fun hg3 => ?_))))
        ·try simp only [decide_eq_true_eq, decide_eq_false_iff_not] at hg3
         refine dKt rfl rfl rfl rfl (dKt rfl rfl rfl rfl (dKt rfl rfl rfl rfl (dKt rfl rfl rfl rfl (d_skipA rfl (wog (b := true) rfl rfl rfl) rfl rfl (dKt rfl rfl rfl rfl (d_end rfl (wn rfl) rfl rfl (py_pickT rfl rfl) (d_nil (W_ift rfl (W_sr (sA rfl rfl (s_nil (rT hQ Tryz.results112 rfl ?_))))))))))))
         have kq := kindF_move_no (s := s) (by omega) (by simp_all [moveOK])
         have kF := recF_bad (s := s) (not_false c2) (not_false c3) (by omega)
         exact ⟨H18.ext, congrArg (Value.int .i64) ((if_neg (by omega)).trans (kF.trans kq)).symm⟩
        ·try simp only [decide_eq_true_eq, decide_eq_false_iff_not] at hg3
         refine d_val rfl (wg rfl rfl rfl) rfl rfl (fun zw hx => py_field tu68 rfl ts45 rfl rfl) (d_val rfl (wg rfl rfl rfl) rfl rfl (fun zw hx => py_load tu45 rfl rfl (cell_atL (hx.heap (H15.box 1 rfl)) rfl)) (d_val rfl (wg rfl rfl rfl) rfl rfl (fun zw hx => py_len tu45 rfl) (d_val rfl (wg rfl rfl rfl) rfl rfl (fun zw hx => py_loadS tu34 rfl ts34 rfl rfl (At.whole (hx.heap (H15.box 0 rfl)))) (d_call rfl (wg rfl rfl rfl) rfl rfl (pc_call Tryz.func189 rfl Tryz_nm189 rfl) (Tryz_spec_l4Wide (by assumption)) (fun hS _ _ r _ => hS.trans r.1.no) (fun v10 w18 r10 => ?_)))))
         obtain ⟨e18, rfl⟩ := r10
         have H19 := H18.to e18
         refine d_val rfl (wg rfl rfl rfl) rfl rfl (fun zw hx => py_neq rfl rfl) (d_end rfl (wn rfl) rfl rfl (py_pickF rfl rfl) (d_nil (W_ifd rfl (fun c9 => ?_) (fun c9 => ?_))))
         ·refine W_sr (sA rfl rfl (s_nil (rT hQ Tryz.results112 rfl ?_)))
          have kq := kindF_move_no (s := s) (by omega) (by simp_all [moveOK])
          have kF := recF_bad (s := s) (not_false c2) (not_false c3) (by omega)
          exact ⟨H19.ext, congrArg (Value.int .i64) ((if_neg (by omega)).trans (kF.trans kq)).symm⟩
         ·refine W_skip (W_sr (sV rfl (py_field tu68 rfl ts2 rfl rfl) (s_sto (wn rfl) ts2 rfl rfl rfl H19 2 rfl rfl (fun w19 e19 H20 => ?_))))
          dsimp only [lNA, lCA, lSZ, lSS, layL] at H20
          refine s_nil (W_sr (sV rfl (py_field tu68 rfl ts2 rfl rfl) (s_sto (wn rfl) ts2 rfl rfl rfl H20 2 rfl rfl (fun w20 e20 H21 => ?_))))
          dsimp only [lNA, lCA, lSZ, lSS, layL] at H21
          refine s_nil (W_sr (sV rfl (py_field tu68 rfl ts45 rfl rfl) (s_sto (wn rfl) ts45 rfl rfl rfl H21 2 rfl rfl (fun w21 e21 H22 => ?_))))
          dsimp only [lNA, lCA, lSZ, lSS, layL] at H22
          refine s_nil (W_reg (sV rfl (py_field tu68 rfl ts45 rfl rfl) (s_sto (wn rfl) ts45 rfl rfl rfl H22 2 rfl rfl (fun w22 e22 H23 => ?_))))
          dsimp only [lNA, lCA, lSZ, lSS, layL] at H23
          refine s_nil (W_seq (W_sr (sV rfl (py_loadS tu68 rfl ts68 rfl rfl (At.whole (H23.box 2 rfl))) (s_call (wn rfl) rfl rfl (pc_call Tryz.func192 rfl Tryz_nm192 rfl) (Tryz_spec_l5Empty (r := ⟨r.Kind, r.Seq, r.Name, r.Length, 0, 0, r.Rows, [], []⟩) (rest_ok2 rK) (H23.sees 0 rfl) ⟨[], .inr (.inl ⟨rfl, rfl, rfl⟩)⟩ ⟨[], .inr (.inl ⟨rfl, rfl, rfl⟩)⟩) (fun v11 w23 r11 => ?_)))))
          obtain ⟨e23, rfl⟩ := r11
          have H24 := H23.to e23
          refine sV rfl (py_not rfl) (s_nil (W_if rfl (fun c10 => ?_) (fun c10 => ?_)))
          ·refine W_sr (sA rfl rfl (s_nil (rT hQ Tryz.results112 rfl ?_)))
           have kq := kindF_move_ok (s := s) (by omega) (by simp_all [moveOK])
           exact ⟨H24.ext, congrArg (Value.int .i64) ((if_neg (by omega)).trans (recF_form (not_false c2) (not_false c3) kq (by rw [← rest_bare2 (by omega)]; exact not_true c10))).symm⟩
          ·refine W_skip (W_sr (sA rfl rfl (s_nil (rT hQ Tryz.results112 rfl ?_))))
           have kq := kindF_move_ok (s := s) (by omega) (by simp_all [moveOK])
           exact ⟨H24.ext, congrArg (Value.int .i64) ((if_neg (by omega)).trans (recF_ok (not_false c2) (not_false c3) kq (by rw [← rest_bare2 (by omega)]; exact not_false c10))).symm⟩
     ·refine W_sr (sV rfl (py_eql rfl rfl) (sA rfl rfl (s_nil (W_ifd rfl (fun c11 => ?_) (fun c11 => ?_)))))
      ·refine W_seq (W_seq (W_drw (S := Ext No _) [(0, true), (1, true), (2, true), (3, false), (4, true), (5, false), (6, false)] (by kernel_rfl) (by kernel_rfl) (by kernel_rfl) rfl (fun _ => Ext.refl.drawn _) (fun q2 => ?_)))
       have H25 := H7.drawn q2
       refine dV rfl rfl (fun zw hx => py_field tu68 rfl ts2 rfl rfl) (dV rfl rfl (fun zw hx => py_load tu2 rfl rfl (cell_atL (hx.heap (H25.box 1 rfl)) rfl)) (dV rfl rfl (fun zw hx => py_loadS tu34 rfl ts34 rfl rfl (At.whole (hx.heap (H25.box 0 rfl)))) (d_call rfl (wn rfl) rfl rfl (pc_call Tryz.func162 rfl Tryz_nm162 rfl) (Tryz_spec_l5All (by assumption)) (fun hS _ _ r _ => hS.trans r.1.no) (fun v12 w24 r12 => ?_))))
       obtain ⟨e24, rfl⟩ := r12
       have H26 := H25.to e24
       refine dV rfl rfl (fun zw hx => py_sub rfl rfl (in64 ⟨by omega, by omega⟩)) (d_call rfl (wn rfl) rfl rfl (pc_call Tryz.func97 rfl Tryz_nm97 rfl) Tryz_spec_l1In (fun hS _ _ r _ => hS.trans r.1.no) (fun v13 w25 r13 => ?_))
       obtain ⟨e25, rfl⟩ := r13
       have H27 := H26.to e25
       refine d_end rfl (wn rfl) rfl rfl (py_not rfl) (d_nil (W_if rfl (fun c12 => ?_) (fun c12 => ?_)))
       ·refine W_sr (sA rfl rfl (s_nil (rT hQ Tryz.results112 rfl ?_)))
        have kq := kindF_done_no (s := s) (by omega) (not_true c12)
        have kF := recF_bad (s := s) (not_false c2) (not_false c3) (by omega)
        exact ⟨H27.ext, congrArg (Value.int .i64) ((if_neg (by omega)).trans (kF.trans kq)).symm⟩
       ·refine W_skip (W_reg (sV rfl (py_field tu68 rfl ts2 rfl rfl) (s_sto (wn rfl) ts2 rfl rfl rfl H27 2 rfl rfl (fun w26 e26 H28 => ?_))))
        dsimp only [lNA, lCA, lSZ, lSS, layL] at H28
        refine s_nil (W_seq (W_sr (sV rfl (py_loadS tu68 rfl ts68 rfl rfl (At.whole (H28.box 2 rfl))) (s_call (wn rfl) rfl rfl (pc_call Tryz.func192 rfl Tryz_nm192 rfl) (Tryz_spec_l5Empty (r := ⟨r.Kind, r.Seq, r.Name, r.Length, 0, r.Row, r.Rows, r.Data, r.Delta⟩) (rest_ok3 rK) (H28.sees 0 rfl) (H28.sees 1 rfl) (H28.sees 2 rfl)) (fun v14 w27 r14 => ?_)))))
        obtain ⟨e27, rfl⟩ := r14
        have H29 := H28.to e27
        refine sV rfl (py_not rfl) (s_nil (W_if rfl (fun c13 => ?_) (fun c13 => ?_)))
        ·refine W_sr (sA rfl rfl (s_nil (rT hQ Tryz.results112 rfl ?_)))
         have kq := kindF_done_ok (s := s) (by omega) (not_false c12)
         exact ⟨H29.ext, congrArg (Value.int .i64) ((if_neg (by omega)).trans (recF_form (not_false c2) (not_false c3) kq (by rw [← rest_bare3 (by omega)]; exact not_true c13))).symm⟩
        ·refine W_skip (W_sr (sA rfl rfl (s_nil (rT hQ Tryz.results112 rfl ?_))))
         have kq := kindF_done_ok (s := s) (by omega) (not_false c12)
         exact ⟨H29.ext, congrArg (Value.int .i64) ((if_neg (by omega)).trans (recF_ok (not_false c2) (not_false c3) kq (by rw [← rest_bare3 (by omega)]; exact not_false c13))).symm⟩
      ·refine W_sr (sV rfl (py_eql rfl rfl) (sA rfl rfl (s_nil (W_ifd rfl (fun c14 => ?_) (fun c14 => ?_)))))
       ·refine W_seq (W_seq (W_drw (S := Ext No _) [(0, true), (1, true), (2, true), (3, false), (4, true), (5, false), (6, true), (7, true), (8, true), (9, true), (10, true), (11, true), (12, true), (13, false), (14, true), (15, true), (16, true), (17, true), (18, true), (19, true), (20, false), (21, true), (22, false), (23, true), (24, true), (25, true), (26, true), (27, true), (28, true), (29, true), (30, false), (31, true), (32, true), (33, true), (34, true), (35, true), (36, false), (37, true), (38, false)] (by kernel_rfl) (by kernel_rfl) (by kernel_rfl) rfl (fun _ => Ext.refl.drawn _) (fun q3 => ?_)))
        have H30 := H7.drawn q3
        refine dV rfl rfl (fun zw hx => py_field tu68 rfl ts2 rfl rfl) (dV rfl rfl (fun zw hx => py_load tu2 rfl rfl (cell_atL (hx.heap (H30.box 1 rfl)) rfl)) (dV rfl rfl (fun zw hx => py_loadS tu34 rfl ts34 rfl rfl (At.whole (hx.heap (H30.box 0 rfl)))) (d_call rfl (wn rfl) rfl rfl (pc_call Tryz.func162 rfl Tryz_nm162 rfl) (Tryz_spec_l5All (by assumption)) (fun hS _ _ r _ => hS.trans r.1.no) (fun v15 w28 r15 => ?_))))
        obtain ⟨e28, rfl⟩ := r15
        have H31 := H30.to e28
        refine dV rfl rfl (fun zw hx => py_sub rfl rfl (in64 ⟨by omega, by omega⟩)) (d_call rfl (wn rfl) rfl rfl (pc_call Tryz.func97 rfl Tryz_nm97 rfl) Tryz_spec_l1In (fun hS _ _ r _ => hS.trans r.1.no) (fun v16 w29 r16 => ?_))
        obtain ⟨e29, rfl⟩ := r16
        have H32 := H31.to e29
        refine dV rfl rfl (fun zw hx => py_not rfl) (dM rfl rfl rfl (d_case (t := 97) rfl (fun hg4 => ?_) (fun hg4 => ?_)))
        ·try simp only [decide_eq_true_eq, decide_eq_false_iff_not] at hg4
         refine dKt rfl rfl rfl rfl (dKt rfl rfl rfl rfl (dKt rfl rfl rfl rfl (dKt rfl rfl rfl rfl (dKt rfl rfl rfl rfl (d_skipA rfl (wog (b := true) rfl rfl rfl) rfl rfl (dKt rfl rfl rfl rfl (dV rfl rfl (fun zw hx => py_pickT rfl rfl) (dM rfl rfl rfl (dKt rfl rfl rfl rfl (dKt rfl rfl rfl rfl (dKt rfl rfl rfl rfl (d_skipA rfl (wog (b := true) rfl rfl rfl) rfl rfl (dKt rfl rfl rfl rfl (d_skipA rfl (wog (b := true) rfl rfl rfl) rfl rfl (dKt rfl rfl rfl rfl (dV rfl rfl (fun zw hx => py_pickT rfl rfl) (dM rfl rfl rfl (dKt rfl rfl rfl rfl (dKt rfl rfl rfl rfl (dKt rfl rfl rfl rfl (dKt rfl rfl rfl rfl (d_skipA rfl (wog (b := true) rfl rfl rfl) rfl rfl (dKt rfl rfl rfl rfl (dV rfl rfl (fun zw hx => py_pickT rfl rfl) (dM rfl rfl rfl (dKt rfl rfl rfl rfl (dKt rfl rfl rfl rfl (d_skipA rfl (wog (b := true) rfl rfl rfl) rfl rfl (dKt rfl rfl rfl rfl (d_end rfl (wn rfl) rfl rfl (py_pickT rfl rfl) (d_nil (W_ift rfl (W_sr (sA rfl rfl (s_nil (rT hQ Tryz.results112 rfl ?_))))))))))))))))))))))))))))))))))))
         have kq := (kindF_share (s := s) (by omega)).trans (if_neg (by simp_all [shareOK]))
         have kF := recF_bad (s := s) (not_false c2) (not_false c3) (by omega)
         exact ⟨H32.ext, congrArg (Value.int .i64) ((if_neg (by omega)).trans (kF.trans kq)).symm⟩
        ·try simp only [decide_eq_true_eq, decide_eq_false_iff_not] at hg4
         refine d_val rfl (wg rfl rfl rfl) rfl rfl (fun zw hx => py_field tu68 rfl ts2 rfl rfl) (d_val rfl (wg rfl rfl rfl) rfl rfl (fun zw hx => py_load tu2 rfl rfl (cell_atL (hx.heap (H30.box 1 rfl)) rfl)) (d_val rfl (wg rfl rfl rfl) rfl rfl (fun zw hx => py_field tu34 rfl ts2 rfl rfl) (d_val rfl (wg rfl rfl rfl) rfl rfl (fun zw hx => py_load tu2 rfl rfl (cell_atL (hx.heap (H30.box 0 rfl)) rfl)) (d_val rfl (wg rfl rfl rfl) rfl rfl (fun zw hx => py_sub rfl rfl (in64 ⟨by omega, by omega⟩)) (d_call rfl (wg rfl rfl rfl) rfl rfl (pc_call Tryz.func97 rfl Tryz_nm97 rfl) Tryz_spec_l1In (fun hS _ _ r _ => hS.trans r.1.no) (fun v17 w30 r17 => ?_))))))
         obtain ⟨e30, rfl⟩ := r17
         have H33 := H32.to e30
         refine d_val rfl (wg rfl rfl rfl) rfl rfl (fun zw hx => py_not rfl) (dV rfl rfl (fun zw hx => py_pickF rfl rfl) (dM rfl rfl rfl (d_case (t := 106) rfl (fun hg5 => ?_) (fun hg5 => ?_))))
         ·try simp only [decide_eq_true_eq, decide_eq_false_iff_not] at hg5
          refine dKt rfl rfl rfl rfl (dKt rfl rfl rfl rfl (dKt rfl rfl rfl rfl (d_skipA rfl (wog (b := true) rfl rfl rfl) rfl rfl (dKt rfl rfl rfl rfl (d_skipA rfl (wog (b := true) rfl rfl rfl) rfl rfl (dKt rfl rfl rfl rfl (dV rfl rfl (fun zw hx => py_pickT rfl rfl) (dM rfl rfl rfl (dKt rfl rfl rfl rfl (dKt rfl rfl rfl rfl (dKt rfl rfl rfl rfl (dKt rfl rfl rfl rfl (d_skipA rfl (wog (b := true) rfl rfl rfl) rfl rfl (dKt rfl rfl rfl rfl (dV rfl rfl (fun zw hx => py_pickT rfl rfl) (dM rfl rfl rfl (dKt rfl rfl rfl rfl (dKt rfl rfl rfl rfl (d_skipA rfl (wog (b := true) rfl rfl rfl) rfl rfl (dKt rfl rfl rfl rfl (d_end rfl (wn rfl) rfl rfl (py_pickT rfl rfl) (d_nil (W_ift rfl (W_sr (sA rfl rfl (s_nil (rT hQ Tryz.results112 rfl ?_)))))))))))))))))))))))))))
          have kq := (kindF_share (s := s) (by omega)).trans (if_neg (by simp_all [shareOK]))
          have kF := recF_bad (s := s) (not_false c2) (not_false c3) (by omega)
          exact ⟨H33.ext, congrArg (Value.int .i64) ((if_neg (by omega)).trans (kF.trans kq)).symm⟩
         ·try simp only [decide_eq_true_eq, decide_eq_false_iff_not] at hg5
          refine d_val rfl (wg rfl rfl rfl) rfl rfl (fun zw hx => py_field tu68 rfl ts25 rfl rfl) (d_val rfl (wg rfl rfl rfl) rfl rfl (fun zw hx => py_load tu25 rfl rfl (cell_atL (hx.heap (H30.box 1 rfl)) rfl)) (d_val rfl (wg rfl rfl rfl) rfl rfl (fun zw hx => py_loadS tu34 rfl ts34 rfl rfl (At.whole (hx.heap (H30.box 0 rfl)))) (d_call rfl (wg rfl rfl rfl) rfl rfl (pc_call Tryz.func162 rfl Tryz_nm162 rfl) (Tryz_spec_l5All (by assumption)) (fun hS _ _ r _ => hS.trans r.1.no) (fun v18 w31 r18 => ?_))))
          obtain ⟨e31, rfl⟩ := r18
          have H34 := H33.to e31
          refine d_val rfl (wg rfl rfl rfl) rfl rfl (fun zw hx => py_sub rfl rfl (in64 ⟨by omega, by omega⟩)) (d_call rfl (wg rfl rfl rfl) rfl rfl (pc_call Tryz.func190 rfl Tryz_nm190 rfl) (Tryz_spec_l2Rise (H34.sees 0 rfl) (by omega)) (fun hS _ _ r _ => hS.trans r.1.no) (fun v19 w32 r19 => ?_))
          obtain ⟨e32, rfl⟩ := r19
          have H35 := H34.to e32
          refine d_val rfl (wg rfl rfl rfl) rfl rfl (fun zw hx => py_not rfl) (dV rfl rfl (fun zw hx => py_pickF rfl rfl) (dM rfl rfl rfl (d_case (t := 115) rfl (fun hg6 => ?_) (fun hg6 => ?_))))
          ·try simp only [decide_eq_true_eq, decide_eq_false_iff_not] at hg6
           refine dKt rfl rfl rfl rfl (dKt rfl rfl rfl rfl (dKt rfl rfl rfl rfl (dKt rfl rfl rfl rfl (d_skipA rfl (wog (b := true) rfl rfl rfl) rfl rfl (dKt rfl rfl rfl rfl (dV rfl rfl (fun zw hx => py_pickT rfl rfl) (dM rfl rfl rfl (dKt rfl rfl rfl rfl (dKt rfl rfl rfl rfl (d_skipA rfl (wog (b := true) rfl rfl rfl) rfl rfl (dKt rfl rfl rfl rfl (d_end rfl (wn rfl) rfl rfl (py_pickT rfl rfl) (d_nil (W_ift rfl (W_sr (sA rfl rfl (s_nil (rT hQ Tryz.results112 rfl ?_))))))))))))))))))
           have kq := (kindF_share (s := s) (by omega)).trans (if_neg (by simp_all [shareOK]))
           have kF := recF_bad (s := s) (not_false c2) (not_false c3) (by omega)
           exact ⟨H35.ext, congrArg (Value.int .i64) ((if_neg (by omega)).trans (kF.trans kq)).symm⟩
          ·try simp only [decide_eq_true_eq, decide_eq_false_iff_not] at hg6
           refine d_val rfl (wg rfl rfl rfl) rfl rfl (fun zw hx => py_field tu68 rfl ts45 rfl rfl) (d_val rfl (wg rfl rfl rfl) rfl rfl (fun zw hx => py_load tu45 rfl rfl (cell_atL (hx.heap (H30.box 1 rfl)) rfl)) (d_val rfl (wg rfl rfl rfl) rfl rfl (fun zw hx => py_len tu45 rfl) (d_val rfl (wg rfl rfl rfl) rfl rfl (fun zw hx => py_loadS tu34 rfl ts34 rfl rfl (At.whole (hx.heap (H30.box 0 rfl)))) (d_call rfl (wg rfl rfl rfl) rfl rfl (pc_call Tryz.func189 rfl Tryz_nm189 rfl) (Tryz_spec_l4Wide (by assumption)) (fun hS _ _ r _ => hS.trans r.1.no) (fun v20 w33 r20 => ?_)))))
           obtain ⟨e33, rfl⟩ := r20
           have H36 := H35.to e33
           refine d_val rfl (wg rfl rfl rfl) rfl rfl (fun zw hx => py_neq rfl rfl) (dV rfl rfl (fun zw hx => py_pickF rfl rfl) (dM rfl rfl rfl (d_case (t := 123) rfl (fun hg7 => ?_) (fun hg7 => ?_))))
           ·try simp only [decide_eq_true_eq, decide_eq_false_iff_not] at hg7
            refine dKt rfl rfl rfl rfl (dKt rfl rfl rfl rfl (d_skipA rfl (wog (b := true) rfl rfl rfl) rfl rfl (dKt rfl rfl rfl rfl (d_end rfl (wn rfl) rfl rfl (py_pickT rfl rfl) (d_nil (W_ift rfl (W_sr (sA rfl rfl (s_nil (rT hQ Tryz.results112 rfl ?_))))))))))
            have kq := (kindF_share (s := s) (by omega)).trans (if_neg (by simp_all [shareOK]))
            have kF := recF_bad (s := s) (not_false c2) (not_false c3) (by omega)
            exact ⟨H36.ext, congrArg (Value.int .i64) ((if_neg (by omega)).trans (kF.trans kq)).symm⟩
           ·have hgr := ins_iff.1 (not_false hg4)
            have hrr : ∀ i, i < r.Rows.length → 0 ≤ r.Rows.getD i 0 ∧ r.Rows.getD i 0 < s.Groups + s.Column := fun i hi => by have := rises_get (not_false hg6) i hi; omega
            refine d_val rfl (wg rfl rfl rfl) rfl rfl (fun zw hx => py_loadS tu34 rfl ts34 rfl rfl (At.whole (hx.heap (H30.box 0 rfl)))) (d_val rfl (wg rfl rfl rfl) rfl rfl (fun zw hx => py_loadS tu68 rfl ts68 rfl rfl (At.whole (hx.heap (H30.box 1 rfl)))) (d_call rfl (wg rfl rfl rfl) rfl rfl (pc_call Tryz.func191 rfl Tryz_nm191 rfl) (Tryz_spec_l5Weights (by assumption) (H36.sees 0 rfl) (H36.sees 1 rfl) (H36.sees 2 rfl) (by assumption) (by omega) hrr) (fun hS _ _ r _ => hS.trans r.1.no) (fun v21 w34 r21 => ?_)))
            obtain ⟨e34, rfl⟩ := r21
            have H37 := H36.to e34
            refine d_val rfl (wg rfl rfl rfl) rfl rfl (fun zw hx => py_not rfl) (d_end rfl (wn rfl) rfl rfl (py_pickF rfl rfl) (d_nil (W_if rfl (fun c15 => ?_) (fun c15 => ?_))))
            ·refine W_sr (sA rfl rfl (s_nil (rT hQ Tryz.results112 rfl ?_)))
             have kq := (kindF_share (s := s) (by omega)).trans (if_neg (by simp_all [shareOK]))
             have kF := recF_bad (s := s) (not_false c2) (not_false c3) (by omega)
             exact ⟨H37.ext, congrArg (Value.int .i64) ((if_neg (by omega)).trans (kF.trans kq)).symm⟩
            ·refine W_skip (W_sr (sV rfl (py_field tu68 rfl ts45 rfl rfl) (s_sto (wn rfl) ts45 rfl rfl rfl H37 2 rfl rfl (fun w35 e35 H38 => ?_))))
             dsimp only [lNA, lCA, lSZ, lSS, layL] at H38
             refine s_nil (W_sr (sV rfl (py_field tu68 rfl ts2 rfl rfl) (s_sto (wn rfl) ts2 rfl rfl rfl H38 2 rfl rfl (fun w36 e36 H39 => ?_))))
             dsimp only [lNA, lCA, lSZ, lSS, layL] at H39
             refine s_nil (W_sr (sV rfl (py_field tu68 rfl ts2 rfl rfl) (s_sto (wn rfl) ts2 rfl rfl rfl H39 2 rfl rfl (fun w37 e37 H40 => ?_))))
             dsimp only [lNA, lCA, lSZ, lSS, layL] at H40
             refine s_nil (W_sr (sV rfl (py_field tu68 rfl ts25 rfl rfl) (s_sto (wn rfl) ts25 rfl rfl rfl H40 2 rfl rfl (fun w38 e38 H41 => ?_))))
             dsimp only [lNA, lCA, lSZ, lSS, layL] at H41
             refine s_nil (W_reg (sV rfl (py_field tu68 rfl ts45 rfl rfl) (s_sto (wn rfl) ts45 rfl rfl rfl H41 2 rfl rfl (fun w39 e39 H42 => ?_))))
             dsimp only [lNA, lCA, lSZ, lSS, layL] at H42
             refine s_nil (W_seq (W_sr (sV rfl (py_loadS tu68 rfl ts68 rfl rfl (At.whole (H42.box 2 rfl))) (s_call (wn rfl) rfl rfl (pc_call Tryz.func192 rfl Tryz_nm192 rfl) (Tryz_spec_l5Empty (r := ⟨r.Kind, r.Seq, r.Name, r.Length, 0, 0, [], [], []⟩) (rest_ok4 rK) ⟨[], .inr (.inl ⟨rfl, rfl, rfl⟩)⟩ ⟨[], .inr (.inl ⟨rfl, rfl, rfl⟩)⟩ ⟨[], .inr (.inl ⟨rfl, rfl, rfl⟩)⟩) (fun v22 w40 r22 => ?_)))))
             obtain ⟨e40, rfl⟩ := r22
             have H43 := H42.to e40
             refine sV rfl (py_not rfl) (s_nil (W_if rfl (fun c16 => ?_) (fun c16 => ?_)))
             ·refine W_sr (sA rfl rfl (s_nil (rT hQ Tryz.results112 rfl ?_)))
              have kq := (kindF_share (s := s) (by omega)).trans (if_pos (by simp_all [shareOK]))
              exact ⟨H43.ext, congrArg (Value.int .i64) ((if_neg (by omega)).trans (recF_form (not_false c2) (not_false c3) kq (by rw [← rest_bare4 (by omega)]; exact not_true c16))).symm⟩
             ·refine W_skip (W_sr (sA rfl rfl (s_nil (rT hQ Tryz.results112 rfl ?_))))
              have kq := (kindF_share (s := s) (by omega)).trans (if_pos (by simp_all [shareOK]))
              exact ⟨H43.ext, congrArg (Value.int .i64) ((if_neg (by omega)).trans (recF_ok (not_false c2) (not_false c3) kq (by rw [← rest_bare4 (by omega)]; exact not_false c16))).symm⟩
       ·exfalso; omega
theorem Tryz_impl_blockOK {w : World} {b : Block} {bA1 : Option Addr} {bC1 : Nat} (bK : b.Ok) (bS1 : Sees w [.slice bA1 b.Bytes.length bC1] b.Bytes) : Ret Tryz.prog 242 #[b.val bA1 bC1] w fun v w' => Ext No w w' ∧ (v = .bool (blockOK b)) := by
 have bK2 := bK
 unfold Block.Ok at bK2
 try unfold I64ok at bK2
 try unfold maxLen at bK2
 have bL1 := sL bS1
 obtain ⟨bF1, bO1⟩ := bS1
 refine ret_Q (vs := [b.val bA1 bC1]) Tryz.func242 rfl Tryz.ntmps242 rfl (fun Q hQ hN => ?_)
 have H0 := Sep.start (w := w) (F := [seen false [.slice bA1 b.Bytes.length bC1] b.Bytes bF1]) (all_cons bO1 (by simp))
 refine W_sr (s_box (wn rfl) rfl rfl H0 (fun b1 w1 e1 g1 H1 => ?_))
 refine sA rfl rfl (s_nil (W_sr (sV rfl (py_field tu182 rfl ts2 rfl rfl) (sV rfl (py_load tu2 rfl rfl (cell_atL (H1.box 0 rfl) rfl)) (s_call (wn rfl) rfl rfl (pc_call Tryz.func147 rfl Tryz_nm147 rfl) Tryz_impl_inside (fun v1 w2 r1 => ?_))))))
 obtain ⟨e2, rfl⟩ := r1
 have H2 := H1.to e2
 refine sM rfl rfl (s_grp 4 (j := 3) (want := true) (t := 10) rfl rfl rfl rfl (fun hg1 kk1 => s_val (wgE rfl rfl rfl hg1) rfl rfl (py_field tu182 rfl ts45 rfl rfl) (s_val (wgE rfl rfl rfl hg1) rfl rfl (py_load tu45 rfl rfl (cell_atL (H2.box 0 rfl) rfl)) (s_val (wgE rfl rfl rfl hg1) rfl rfl (py_len tu45 rfl) (s_val (wgE rfl rfl rfl hg1) rfl rfl (py_eql rfl rfl) (kk1 _ _ (kx rfl (kx rfl (kx rfl (kx rfl k0)))) rfl Ext.refl))))) (fun w3 e3 => ?_))
 have H3 := H2.to e3
 refine sV rfl (py_band rfl rfl) (sA rfl rfl (s_nil (rT hQ Tryz.results242 rfl ?_)))
 exact ⟨H3.ext, congrArg Value.bool (by simp only [blockOK]; congr 1; exact decide_eq_decide.2 (by omega))⟩
theorem Tryz_impl_groupsOK_1 {w : World} {b : Block} {bA1 : Option Addr} {bC1 : Nat} (bK : b.Ok) (bS1 : Sees w [.slice bA1 b.Bytes.length bC1] b.Bytes) : Ret Tryz.prog 241 #[b.val bA1 bC1] w fun v w' => Ext No w w' ∧ (v = .bool (!blockOK b)) := by
 have bK2 := bK
 unfold Block.Ok at bK2
 try unfold I64ok at bK2
 try unfold maxLen at bK2
 have bL1 := sL bS1
 obtain ⟨bF1, bO1⟩ := bS1
 refine ret_Q (vs := [b.val bA1 bC1]) Tryz.func241 rfl Tryz.ntmps241 rfl (fun Q hQ hN => ?_)
 have H0 := Sep.start (w := w) (F := [seen false [.slice bA1 b.Bytes.length bC1] b.Bytes bF1]) (all_cons bO1 (by simp))
 refine W_sr (s_box (wn rfl) rfl rfl H0 (fun b1 w1 e1 g1 H1 => ?_))
 refine sA rfl rfl (s_nil (W_sr (sV rfl (py_loadS tu182 rfl ts182 rfl rfl (At.whole (H1.box 0 rfl))) (s_call (wn rfl) rfl rfl (pc_call Tryz.func242 rfl Tryz_nm242 rfl) (Tryz_impl_blockOK (by assumption) (H1.sees 0 rfl)) (fun v1 w2 r1 => ?_)))))
 obtain ⟨e2, rfl⟩ := r1
 have H2 := H1.to e2
 refine sV rfl (py_not rfl) (sA rfl rfl (s_nil (rT hQ Tryz.results241 rfl ?_)))
 exact ⟨H2.ext, rfl⟩
set_option maxHeartbeats 1000000 in
theorem Tryz_impl_groupsOK {w : World} {z : Wld} {zA9 zA10 zA11 : Option Addr} {zC9 zC10 zC11 : Nat} (zK : z.Ok) (zS9 : Sees w [.slice zA9 z.Groups.length zC9] z.Groups) (zS10 : Sees w [.slice zA10 z.On.length zC10] z.On) (zS11 : Sees w [.slice zA11 z.Tapes.length zC11] z.Tapes) (hs : z.Shape.ok = true) : Ret Tryz.prog 144 #[z.val zA9 zC9 zA10 zC10 zA11 zC11] w fun v w' => Ext No w w' ∧ (v = .bool (groupsOK z)) := by
 have zK2 := zK
 unfold Wld.Ok Shape.Ok at zK2
 try unfold I64ok at zK2
 try unfold maxLen at zK2
 have zL9 := sL zS9
 obtain ⟨zF9, zO9⟩ := zS9
 have zL10 := sL zS10
 obtain ⟨zF10, zO10⟩ := zS10
 have zL11 := sL zS11
 obtain ⟨zF11, zO11⟩ := zS11
 have sbd := shape_bd hs
 refine ret_Q (vs := [z.val zA9 zC9 zA10 zC10 zA11 zC11]) Tryz.func144 rfl Tryz.ntmps144 rfl (fun Q hQ hN => ?_)
 have H0 := Sep.start (w := w) (F := [seen false [.slice zA9 z.Groups.length zC9] z.Groups zF9, seen false [.slice zA10 z.On.length zC10] z.On zF10, seen false [.slice zA11 z.Tapes.length zC11] z.Tapes zF11]) (all_cons zO9 (all_cons zO10 (all_cons zO11 (by simp))))
 refine W_sr (s_box (wn rfl) rfl rfl H0 (fun b1 w1 e1 g1 H1 => ?_))
 refine sA rfl rfl (s_nil (W_sr (sV rfl (py_field tu38 rfl ts34 rfl rfl) (sV rfl (py_loadS tu34 rfl ts34 rfl rfl (At.sub (H1.box 0 rfl) 9)) (s_var (wn rfl) rfl Tryz.zeroValue34 H1 (fun b2 w2 e2 g2 H2 => ?_))))))
 refine s_stoS (wn rfl) ts34 rfl rfl rfl rfl H2 1 rfl rfl (fun w3 e3 H3 => ?_)
 dsimp only [lNA, lCA, lSZ, lSS, layL] at H3
 refine s_nil (W_seq (W_seq (W_drw (S := Ext No _) [(0, true), (1, true), (3, true), (2, false), (4, false), (5, false)] (by kernel_rfl) (by kernel_rfl) (by kernel_rfl) rfl (fun _ => Ext.refl.drawn _) (fun q1 => ?_))))
 have H4 := H3.drawn q1
 refine dV rfl rfl (fun zw hx => py_field tu38 rfl ts35 rfl rfl) (dV rfl rfl (fun zw hx => py_load tu35 rfl rfl (cell_atL (hx.heap (H4.box 0 rfl)) rfl)) (dV rfl rfl (fun zw hx => py_loadS tu34 rfl ts34 rfl rfl (At.whole (hx.heap (H4.box 1 rfl)))) (d_call rfl (wn rfl) rfl rfl (pc_call Tryz.func237 rfl Tryz_nm237 rfl) (Tryz_size_ListDrive (H4.sees 0 rfl)) (fun hS _ _ r _ => hS.trans r.1.no) (fun v1 w4 r1 => ?_))))
 obtain ⟨e4, rfl⟩ := r1
 have H5 := H4.to e4
 refine d_call rfl (wn rfl) rfl rfl (pc_call Tryz.func100 rfl Tryz_nm100 rfl) (Tryz_impl_Shape_all (by assumption)) (fun hS _ _ r _ => hS.trans r.1.no) (fun v2 w5 r2 => ?_)
 obtain ⟨e5, rfl⟩ := r2
 have H6 := H5.to e5
 refine d_end rfl (wn rfl) rfl rfl (py_neq rfl rfl) (d_nil (W_ifd rfl (fun c1 => ?_) (fun c1 => ?_)))
 ·refine W_sr (sA rfl rfl (s_nil (rT hQ Tryz.results144 rfl ?_)))
  exact ⟨H6.ext, congrArg Value.bool (groupsOK_len (by omega)).symm⟩
 ·refine W_skip (W_seq (W_sr (sV rfl (py_field tu38 rfl ts35 rfl rfl) (sV rfl (py_load tu35 rfl rfl (cell_atL (H6.box 0 rfl) rfl)) (sV rfl (py_len tu35 rfl) (sM rfl rfl (s_nil (W_block (W_loopS (γ := Nat) H6 [(3, _), (17, _), (18, _)] ⟨rfl, rfl, rfl, trivial⟩ (fun k => [(19, .int .i64 k)]) (fun k => k ≤ z.Groups.length ∧ (∀ i, i < k → groupOK z.Shape (z.Groups.getD i []) = true)) (fun k => z.Groups.length - k) 0 ⟨rfl, trivial⟩ ⟨by omega, fun i hi => by omega⟩ (fun k w6 H7 ⟨hk, he⟩ => ?_))))))))))
  dsimp only [lCA, lNA]
  refine W_sr (sV rfl (py_lss rfl rfl) (s_nil (W_seq (W_ifd rfl (fun c2 => ?_) (fun c2 => ?_)))))
  ·refine W_skip (W_seq (W_block (W_seq ?_)))
   obtain ⟨eb1, eo1, ea1, ek1, ef1, ee1, ec1, eO1, eH1⟩ := elem_sl (H7.seen 0 rfl) k (by omega)
   have eP1 := H7.look1 0 rfl eO1 eH1
   refine W_reg (sV rfl (py_elz tu35 ts142 rfl rfl ee1 k (by omega) (by omega)) (sV rfl (py_load tu142 rfl rfl ec1) (sA rfl rfl (s_nil (W_seq (W_seq (W_drw (S := Ext No _) [(0, true), (2, true), (1, false), (3, false), (4, false)] (by kernel_rfl) (by kernel_rfl) (by kernel_rfl) rfl (fun _ => Ext.refl.drawn _) (fun q2 => ?_))))))))
   have H8 := eP1.drawn q2
   refine dM rfl rfl rfl (dV rfl rfl (fun zw hx => py_loadS tu34 rfl ts34 rfl rfl (At.whole (hx.heap (H8.box 1 rfl)))) (d_call rfl (wn rfl) rfl rfl (pc_call Tryz.func238 rfl Tryz_nm238 rfl) (Tryz_size_Drive (H8.sees 3 rfl)) (fun hS _ _ r _ => hS.trans r.1.no) (fun v3 w7 r3 => ?_)))
   obtain ⟨e6, rfl⟩ := r3
   have H9 := H8.to e6
   refine d_call rfl (wn rfl) rfl rfl (pc_call Tryz.func209 rfl Tryz_nm209 rfl) (Tryz_impl_Shape_drives (by assumption)) (fun hS _ _ r _ => hS.trans r.1.no) (fun v4 w8 r4 => ?_)
   obtain ⟨e7, rfl⟩ := r4
   have H10 := H9.to e7
   refine d_end rfl (wn rfl) rfl rfl (py_neq rfl rfl) (d_nil (W_ifd rfl (fun c3 => ?_) (fun c3 => ?_)))
   ·refine W_sr (sA rfl rfl (s_nil (rT hQ Tryz.results144 rfl ?_)))
    exact ⟨H10.ext, congrArg Value.bool (groupsOK_at k (by omega) (groupOK_len (by omega))).symm⟩
   ·refine W_skip (W_sr (sM rfl rfl (sV rfl (py_len tu142 rfl) (sM rfl rfl (s_nil (W_block (W_loopS (γ := Nat) H10 [(3, _), (17, _), (18, _), (19, _), (28, _), (29, _)] ⟨rfl, rfl, rfl, rfl, rfl, rfl, trivial⟩ (fun k2 => [(30, .int .i64 k2)]) (fun k2 => k2 ≤ (z.Groups.getD k []).length ∧ (∀ i, i < k2 → driveOK z.Shape ((z.Groups.getD k []).getD i default) = true)) (fun k2 => (z.Groups.getD k []).length - k2) 0 ⟨rfl, trivial⟩ ⟨by omega, fun i hi => by omega⟩ (fun k2 w9 H11 ⟨hk2, hek2⟩ => ?_))))))))
    dsimp only [lCA, lNA]
    refine W_sr (sV rfl (py_lss rfl rfl) (s_nil (W_seq (W_ifd rfl (fun c4 => ?_) (fun c4 => ?_)))))
    ·refine W_skip (W_seq (W_block (W_seq ?_)))
     obtain ⟨eb2, eo2, es1, ef2, ee2, ec2, eO2, eH2, em1⟩ := elem_st (H11.seen 3 rfl) k2 (by omega)
     obtain ⟨ea2, ek2, eg1, rfl, eq1, eK1, eo3⟩ := own_Drive eO2
     have eP2 := H11.look1 3 rfl eo3 (fun b hb => eH2 b (by rw [eq1]; simp [hb]))
     have eL1 := oL eo3
     refine W_reg (sV rfl (py_elz tu142 ts180 rfl rfl ee2 k2 (by omega) (by omega)) (sV rfl (py_loadS tu180 rfl ts180 rfl rfl ec2) (s_var (wn rfl) rfl Tryz.zeroValue180 eP2 (fun b3 w10 e8 g3 H12 => ?_))))
     refine s_stoS (wn rfl) ts180 rfl rfl rfl rfl H12 2 rfl rfl (fun w11 e9 H13 => ?_)
     dsimp only [lNA, lCA, lSZ, lSS, layL] at H13
     refine s_nil (W_seq (W_drw (S := Ext No _) [(0, true), (1, true), (3, true), (4, true), (2, false), (5, true), (6, true), (7, true), (8, true), (9, false), (10, false)] (by kernel_rfl) (by kernel_rfl) (by kernel_rfl) rfl (fun _ => Ext.refl.drawn _) (fun q3 => ?_)))
     have H14 := H13.drawn q3
     refine dV rfl rfl (fun zw hx => py_field tu180 rfl ts178 rfl rfl) (dV rfl rfl (fun zw hx => py_load tu178 rfl rfl (cell_atL (hx.heap (H14.box 2 rfl)) rfl)) (dV rfl rfl (fun zw hx => py_field tu34 rfl ts2 rfl rfl) (dV rfl rfl (fun zw hx => py_load tu2 rfl rfl (cell_atL (hx.heap (H14.box 1 rfl)) rfl)) (d_call rfl (wn rfl) rfl rfl (pc_call Tryz.func239 rfl Tryz_nm239 rfl) (Tryz_size_Block (H14.sees 4 rfl)) (fun hS _ _ r _ => hS.trans r.1.no) (fun v5 w12 r5 => ?_)))))
     obtain ⟨e10, rfl⟩ := r5
     have H15 := H14.to e10
     refine dV rfl rfl (fun zw hx => py_neq rfl rfl) (dM rfl rfl rfl (d_case (t := 40) rfl (fun hg1 => ?_) (fun hg1 => ?_)))
     ·try simp only [decide_eq_true_eq, decide_eq_false_iff_not] at hg1
      refine dKt rfl rfl rfl rfl (dKt rfl rfl rfl rfl (d_skipA rfl (wog (b := true) rfl rfl rfl) rfl rfl (d_end rfl (wn rfl) rfl rfl (py_pickT rfl rfl) (d_nil (W_ift rfl (W_sr (sA rfl rfl (s_nil (rT hQ Tryz.results144 rfl ?_)))))))))
      exact ⟨H15.ext, congrArg Value.bool (groupsOK_at k (by omega) (groupOK_at k2 (by omega) (driveOK_len (by omega)))).symm⟩
     ·try simp only [decide_eq_true_eq, decide_eq_false_iff_not] at hg1
      refine d_val rfl (wg rfl rfl rfl) rfl rfl (fun zw hx => py_field tu180 rfl ts178 rfl rfl) (d_val rfl (wg rfl rfl rfl) rfl rfl (fun zw hx => py_load tu178 rfl rfl (cell_atL (hx.heap (H14.box 2 rfl)) rfl)) (d_call rfl (wg rfl rfl rfl) rfl rfl (pc_call Tryz.func240 rfl Tryz_nm240 rfl) (Tryz_ContainsFunc_Block (H15.sees 4 rfl) (p := (fun b => !blockOK b)) Tryz.func241 rfl Tryz_nm241 (fun w1 e1 i0 hi0 _ _ K0 o0_1 => Tryz_impl_groupsOK_1 K0 o0_1)) (fun hS _ _ r _ => hS.trans r.1.no) (fun v6 w13 r6 => ?_)))
      obtain ⟨e11, rfl⟩ := r6
      have H16 := H15.to e11
      refine d_end rfl (wn rfl) rfl rfl (py_pickF rfl rfl) (d_nil (W_if rfl (fun c5 => ?_) (fun c5 => ?_)))
      ·refine W_sr (sA rfl rfl (s_nil (rT hQ Tryz.results144 rfl ?_)))
       exact ⟨H16.ext, congrArg Value.bool (groupsOK_at k (by omega) (groupOK_at k2 (by omega) (driveOK_bad c5))).symm⟩
      ·refine W_skip (W_reg (sV rfl (py_add rfl rfl (in64 ⟨by omega, by omega⟩)) (sM rfl rfl (s_nil (⟨k2 + 1, ⟨rfl, rfl, rfl, rfl, rfl, rfl, rfl, trivial⟩, ⟨((H16.ftake 4).dtake 2), by omega, fun i hi => ?_⟩, by dsimp only; omega⟩)))))
       by_cases e : i = k2
       ·subst e
        exact driveOK_yes (by omega) c5
       ·exact hek2 i (by omega)
    ·refine W_exit (W_reg (sV rfl (py_add rfl rfl (in64 ⟨by omega, by omega⟩)) (sM rfl rfl (s_nil (⟨k + 1, ⟨rfl, rfl, rfl, rfl, trivial⟩, ⟨(H11.ftake 3), by omega, fun i hi => ?_⟩, by dsimp only; omega⟩)))))
     by_cases e : i = k
     ·subst e
      exact groupOK_yes (by omega) (fun i hi => hek2 i (by omega))
     ·exact he i (by omega)
  ·refine W_exit (W_sr (sA rfl rfl (s_nil (rT hQ Tryz.results144 rfl ?_))))
   exact ⟨H7.ext, congrArg Value.bool (groupsOK_yes (by omega) (fun i hi => he i (by omega))).symm⟩
theorem Tryz_impl_onOK {w : World} {z : Wld} {zA9 zA10 zA11 : Option Addr} {zC9 zC10 zC11 : Nat} (zK : z.Ok) (zS9 : Sees w [.slice zA9 z.Groups.length zC9] z.Groups) (zS10 : Sees w [.slice zA10 z.On.length zC10] z.On) (zS11 : Sees w [.slice zA11 z.Tapes.length zC11] z.Tapes) (hs : z.Shape.ok = true) : Ret Tryz.prog 145 #[z.val zA9 zC9 zA10 zC10 zA11 zC11] w fun v w' => Ext No w w' ∧ (v = .bool (onOK z)) := by
 have zK2 := zK
 unfold Wld.Ok Shape.Ok at zK2
 try unfold I64ok at zK2
 try unfold maxLen at zK2
 have zL9 := sL zS9
 obtain ⟨zF9, zO9⟩ := zS9
 have zL10 := sL zS10
 obtain ⟨zF10, zO10⟩ := zS10
 have zL11 := sL zS11
 obtain ⟨zF11, zO11⟩ := zS11
 have sbd := shape_bd hs
 refine ret_Q (vs := [z.val zA9 zC9 zA10 zC10 zA11 zC11]) Tryz.func145 rfl Tryz.ntmps145 rfl (fun Q hQ hN => ?_)
 have H0 := Sep.start (w := w) (F := [seen false [.slice zA9 z.Groups.length zC9] z.Groups zF9, seen false [.slice zA10 z.On.length zC10] z.On zF10, seen false [.slice zA11 z.Tapes.length zC11] z.Tapes zF11]) (all_cons zO9 (all_cons zO10 (all_cons zO11 (by simp))))
 refine W_sr (s_box (wn rfl) rfl rfl H0 (fun b1 w1 e1 g1 H1 => ?_))
 refine sA rfl rfl (s_nil (W_seq (W_sr (sV rfl (py_field tu38 rfl ts25 rfl rfl) (sV rfl (py_load tu25 rfl rfl (cell_atL (H1.box 0 rfl) rfl)) (sV rfl (py_len tu25 rfl) (sM rfl rfl (s_nil (W_block (W_loopS (γ := Nat) H1 [(1, _), (6, _), (7, _)] ⟨rfl, rfl, rfl, trivial⟩ (fun k => [(8, .int .i64 k)]) (fun k => k ≤ z.On.length ∧ (∀ i, i < k → apartAt z.On (z.Shape.Groups + z.Shape.Column - 1) i = true)) (fun k => z.On.length - k) 0 ⟨rfl, trivial⟩ ⟨by omega, fun i hi => by omega⟩ (fun k w2 H2 ⟨hk, he⟩ => ?_)))))))))))
 dsimp only [lCA, lNA]
 refine W_sr (sV rfl (py_lss rfl rfl) (s_nil (W_seq (W_ifd rfl (fun c1 => ?_) (fun c1 => ?_)))))
 ·refine W_skip (W_seq (W_block (W_seq ?_)))
  obtain ⟨eb1, eo1, ee1, ec1⟩ := elem_int (H2.seen 1 rfl) k (by omega)
  have eI1 := elem_i64 (H2.seen 1 rfl) k (by omega)
  refine W_reg (sM rfl rfl (sV rfl (py_elz tu25 ts2 rfl rfl ee1 k (by omega) (by omega)) (sV rfl (py_load tu2 rfl rfl ec1) (sA rfl rfl (sA rfl rfl (s_nil (W_sr (sV rfl (py_field tu38 rfl ts34 rfl rfl) (sV rfl (py_loadS tu34 rfl ts34 rfl rfl (At.sub (H2.box 0 rfl) 9)) (sM rfl rfl (s_call (wn rfl) rfl rfl (pc_call Tryz.func71 rfl Tryz_nm71 rfl) (Tryz_impl_Shape_isGroup (by assumption)) (fun v1 w3 r1 => ?_))))))))))))
  obtain ⟨e2, rfl⟩ := r1
  have H3 := H2.to e2
  refine sV rfl (py_not rfl) (sM rfl rfl (s_case (t := 18) rfl (fun hg1 => ?_) (fun hg1 => ?_)))
  ·try simp only [decide_eq_true_eq, decide_eq_false_iff_not] at hg1
   refine sKt rfl rfl rfl (sKt rfl rfl rfl (sKt rfl rfl rfl (sKt rfl rfl rfl (sKt rfl rfl rfl (sKt rfl rfl rfl (sV rfl (py_pickT rfl rfl) (s_nil (W_ift rfl (W_sr (sA rfl rfl (s_nil (rT hQ Tryz.results145 rfl ?_))))))))))))
   exact ⟨H3.ext, congrArg Value.bool (onOK_apart (all_no k (by omega) (by simp only [apartAt, cut_take] at *; simp_all))).symm⟩
  ·try simp only [decide_eq_true_eq, decide_eq_false_iff_not] at hg1
   refine s_val (wg rfl rfl rfl) rfl rfl (py_field tu38 rfl ts25 rfl rfl) (s_val (wg rfl rfl rfl) rfl rfl (py_load tu25 rfl rfl (cell_atL (H3.box 0 rfl) rfl)) (s_val (wg rfl rfl rfl) rfl rfl (py_move rfl) ?_))
   have sc1 := own_le_cap (H3.seen 1 rfl)
   obtain ⟨sf1, so1, ss1⟩ := own_cutL (H3.seen 1 rfl) (0) (k) _ (by omega) (by omega) (by omega) (Nat.le_refl _)
   have H4 := H3.look1 1 rfl so1 ss1
   have sl1 := cut_len (xs := z.On) (l := 0) (h := k) (by omega)
   refine s_val (wg rfl rfl rfl) rfl rfl (py_slcHN tu25 ts2 rfl rfl (k) (by omega) (by omega) sl1) ((s_val (wg rfl rfl rfl) rfl rfl (py_move rfl) (s_call (wg rfl rfl rfl) rfl rfl (pc_call Tryz.func243 rfl Tryz_nm243 rfl) (Tryz_slices_Contains_int64_int64 (H4.sees 3 rfl)) (fun v2 w4 r2 => ?_))))
   obtain ⟨e3, rfl⟩ := r2
   have H5 := H4.to e3
   refine sV rfl (py_pickF rfl rfl) (s_nil (W_if rfl (fun c2 => ?_) (fun c2 => ?_)))
   ·refine W_sr (sA rfl rfl (s_nil (rT hQ Tryz.results145 rfl ?_)))
    exact ⟨H5.ext, congrArg Value.bool (onOK_apart (all_no k (by omega) (by simp only [apartAt, cut_take] at *; simp_all))).symm⟩
   ·refine W_skip (W_reg (sV rfl (py_add rfl rfl (in64 ⟨by omega, by omega⟩)) (sM rfl rfl (s_nil (⟨k + 1, ⟨rfl, rfl, rfl, rfl, trivial⟩, ⟨(H5.ftake 3), by omega, fun i hi => ?_⟩, by dsimp only; omega⟩)))))
    by_cases e : i = k
    ·subst e
     simp only [apartAt, cut_take] at *; simp_all
    ·exact he i (by omega)
 ·refine W_exit (W_seq (W_drw (S := Ext No _) [(0, true), (1, true), (3, true), (4, true), (5, true), (2, false), (6, true), (7, true), (8, true), (9, true), (10, true), (11, true), (12, true), (13, true), (14, true), (15, true), (16, true), (17, true), (18, false)] (by kernel_rfl) (by kernel_rfl) (by kernel_rfl) rfl (fun _ => Ext.refl.drawn _) (fun q1 => ?_)))
  have H6 := H2.drawn q1
  refine dV rfl rfl (fun zw hx => py_field tu38 rfl ts25 rfl rfl) (dV rfl rfl (fun zw hx => py_load tu25 rfl rfl (cell_atL (hx.heap (H6.box 0 rfl)) rfl)) (dV rfl rfl (fun zw hx => py_field tu38 rfl ts34 rfl rfl) (dV rfl rfl (fun zw hx => py_field tu34 rfl ts2 rfl rfl) (dV rfl rfl (fun zw hx => py_load tu2 rfl rfl (cell_atL (hx.heap (H6.box 0 rfl)) rfl)) (d_call rfl (wn rfl) rfl rfl (pc_call Tryz.func173 rfl Tryz_nm173 rfl) (Tryz_size_int64 (H6.sees 1 rfl)) (fun hS _ _ r _ => hS.trans r.1.no) (fun v3 w5 r3 => ?_))))))
  obtain ⟨e4, rfl⟩ := r3
  have H7 := H6.to e4
  refine dV rfl rfl (fun zw hx => py_leq rfl rfl) (dM rfl rfl rfl (d_case (t := 34) rfl (fun hg2 => ?_) (fun hg2 => ?_)))
  ·try simp only [decide_eq_true_eq, decide_eq_false_iff_not] at hg2
   refine d_val rfl (wg rfl rfl rfl) rfl rfl (fun zw hx => py_field tu38 rfl ts25 rfl rfl) (d_val rfl (wg rfl rfl rfl) rfl rfl (fun zw hx => py_load tu25 rfl rfl (cell_atL (hx.heap (H6.box 0 rfl)) rfl)) (d_val rfl (wg rfl rfl rfl) rfl rfl (fun zw hx => py_len tu25 rfl) (d_val rfl (wg rfl rfl rfl) rfl rfl (fun zw hx => py_eql rfl rfl) (d_val rfl (wg rfl rfl rfl) rfl rfl (fun zw hx => py_move rfl) (d_case (t := 39) rfl (fun hg3 => ?_) (fun hg3 => ?_))))))
   ·try simp only [decide_eq_true_eq, decide_eq_false_iff_not] at hg3
    refine dKt rfl rfl rfl rfl (dKt rfl rfl rfl rfl (dKt rfl rfl rfl rfl (d_val rfl (wg rfl rfl rfl) rfl rfl (fun zw hx => py_pickT rfl rfl) (dV rfl rfl (fun zw hx => py_pickT rfl rfl) (d_end rfl (wn rfl) rfl rfl (py_assign rfl) (d_nil (rT hQ Tryz.results145 rfl ?_)))))))
    exact ⟨H7.ext, congrArg Value.bool (onOK_rest (all_yes fun i hi => he i (by omega)) (by simp_all)).symm⟩
   ·try simp only [decide_eq_true_eq, decide_eq_false_iff_not] at hg3
    refine d_val rfl (wg rfl rfl rfl) rfl rfl (fun zw hx => py_field tu38 rfl ts4 rfl rfl) (d_val rfl (wg rfl rfl rfl) rfl rfl (fun zw hx => py_load tu4 rfl rfl (cell_atL (hx.heap (H6.box 0 rfl)) rfl)) (d_val rfl (wg rfl rfl rfl) rfl rfl (fun zw hx => py_not rfl) (d_val rfl (wg rfl rfl rfl) rfl rfl (fun zw hx => py_pickF rfl rfl) (dV rfl rfl (fun zw hx => py_pickT rfl rfl) (d_end rfl (wn rfl) rfl rfl (py_assign rfl) (d_nil (rT hQ Tryz.results145 rfl ?_)))))))
    exact ⟨H7.ext, congrArg Value.bool (onOK_rest (all_yes fun i hi => he i (by omega)) (by simp_all)).symm⟩
  ·try simp only [decide_eq_true_eq, decide_eq_false_iff_not] at hg2
   refine dKf rfl rfl rfl rfl (dKf rfl rfl rfl rfl (dKf rfl rfl rfl rfl (dKf rfl rfl rfl rfl (dKf rfl rfl rfl rfl (d_skip rfl (wou rfl rfl rfl) rfl rfl (d_skip rfl (wou rfl rfl rfl) rfl rfl (d_skip rfl (wou rfl rfl rfl) rfl rfl (dKf rfl rfl rfl rfl (dV rfl rfl (fun zw hx => py_pickF rfl rfl) (d_end rfl (wn rfl) rfl rfl (py_assign rfl) (d_nil (rT hQ Tryz.results145 rfl ?_))))))))))))
   exact ⟨H7.ext, congrArg Value.bool (onOK_rest (all_yes fun i hi => he i (by omega)) (by rw [decide_eq_false (by omega)]; rfl)).symm⟩
theorem Tryz_impl_tapesFault_1 {w : World} {t : Tape} {tA1 : Option Addr} {tC1 : Nat} (tK : t.Ok) (tS1 : Sees w [.slice tA1 t.Recs.length tC1] t.Recs) : Ret Tryz.prog 245 #[t.val tA1 tC1] w fun v w' => Ext No w w' ∧ (v = .bool (manyRecs t)) := by
 have tK2 := tK
 unfold Tape.Ok at tK2
 try unfold I64ok at tK2
 try unfold maxLen at tK2
 have tL1 := sL tS1
 obtain ⟨tF1, tO1⟩ := tS1
 refine ret_Q (vs := [t.val tA1 tC1]) Tryz.func245 rfl Tryz.ntmps245 rfl (fun Q hQ hN => ?_)
 have H0 := Sep.start (w := w) (F := [seen false [.slice tA1 t.Recs.length tC1] t.Recs tF1]) (all_cons tO1 (by simp))
 refine W_sr (s_box (wn rfl) rfl rfl H0 (fun b1 w1 e1 g1 H1 => ?_))
 refine sA rfl rfl (s_nil (W_sr (sV rfl (py_field tu139 rfl ts30 rfl rfl) (sV rfl (py_load tu30 rfl rfl (cell_atL (H1.box 0 rfl) rfl)) (sV rfl (py_len tu30 rfl) (sV rfl (py_gtr rfl rfl) (sA rfl rfl (s_nil (rT hQ Tryz.results245 rfl ?_)))))))))
 exact ⟨H1.ext, rfl⟩
theorem Tryz_impl_tapesFault_2 {w : World} {t : Tape} {tA1 : Option Addr} {tC1 : Nat} (tK : t.Ok) (tS1 : Sees w [.slice tA1 t.Recs.length tC1] t.Recs) : Ret Tryz.prog 246 #[t.val tA1 tC1] w fun v w' => Ext No w w' ∧ (v = .bool (wipedFull t)) := by
 have tK2 := tK
 unfold Tape.Ok at tK2
 try unfold I64ok at tK2
 try unfold maxLen at tK2
 have tL1 := sL tS1
 obtain ⟨tF1, tO1⟩ := tS1
 refine ret_Q (vs := [t.val tA1 tC1]) Tryz.func246 rfl Tryz.ntmps246 rfl (fun Q hQ hN => ?_)
 have H0 := Sep.start (w := w) (F := [seen false [.slice tA1 t.Recs.length tC1] t.Recs tF1]) (all_cons tO1 (by simp))
 refine W_sr (s_box (wn rfl) rfl rfl H0 (fun b1 w1 e1 g1 H1 => ?_))
 refine sA rfl rfl (s_nil (W_sr (sV rfl (py_field tu139 rfl ts4 rfl rfl) (sV rfl (py_load tu4 rfl rfl (cell_atL (H1.box 0 rfl) rfl)) (sM rfl rfl (s_grp 4 (j := 2) (want := true) (t := 9) rfl rfl rfl rfl (fun hg1 kk1 => s_val (wgE rfl rfl rfl hg1) rfl rfl (py_field tu139 rfl ts30 rfl rfl) (s_val (wgE rfl rfl rfl hg1) rfl rfl (py_load tu30 rfl rfl (cell_atL (H1.box 0 rfl) rfl)) (s_val (wgE rfl rfl rfl hg1) rfl rfl (py_len tu30 rfl) (s_val (wgE rfl rfl rfl hg1) rfl rfl (py_gtr rfl rfl) (kk1 _ _ (kx rfl (kx rfl (kx rfl (kx rfl k0)))) rfl Ext.refl))))) (fun w2 e2 => ?_)))))))
 have H2 := H1.to e2
 refine sV rfl (py_band rfl rfl) (sA rfl rfl (s_nil (rT hQ Tryz.results246 rfl ?_)))
 exact ⟨H2.ext, congrArg Value.bool (by simp [wipedFull])⟩
set_option maxHeartbeats 1000000 in
theorem Tryz_impl_tapesFault {w : World} {z : Wld} {zA9 zA10 zA11 : Option Addr} {zC9 zC10 zC11 : Nat} (zK : z.Ok) (zS9 : Sees w [.slice zA9 z.Groups.length zC9] z.Groups) (zS10 : Sees w [.slice zA10 z.On.length zC10] z.On) (zS11 : Sees w [.slice zA11 z.Tapes.length zC11] z.Tapes) (hs : z.Shape.ok = true) : Ret Tryz.prog 146 #[z.val zA9 zC9 zA10 zC10 zA11 zC11] w fun v w' => Ext No w w' ∧ (v = .int .i64 (tapesF z)) := by
 have zK2 := zK
 unfold Wld.Ok Shape.Ok at zK2
 try unfold I64ok at zK2
 try unfold maxLen at zK2
 have zL9 := sL zS9
 obtain ⟨zF9, zO9⟩ := zS9
 have zL10 := sL zS10
 obtain ⟨zF10, zO10⟩ := zS10
 have zL11 := sL zS11
 obtain ⟨zF11, zO11⟩ := zS11
 have sbd := shape_bd hs
 refine ret_Q (vs := [z.val zA9 zC9 zA10 zC10 zA11 zC11]) Tryz.func146 rfl Tryz.ntmps146 rfl (fun Q hQ hN => ?_)
 have H0 := Sep.start (w := w) (F := [seen false [.slice zA9 z.Groups.length zC9] z.Groups zF9, seen false [.slice zA10 z.On.length zC10] z.On zF10, seen false [.slice zA11 z.Tapes.length zC11] z.Tapes zF11]) (all_cons zO9 (all_cons zO10 (all_cons zO11 (by simp))))
 refine W_sr (s_box (wn rfl) rfl rfl H0 (fun b1 w1 e1 g1 H1 => ?_))
 refine sA rfl rfl (s_nil (W_seq (W_sr (sV rfl (py_field tu38 rfl ts36 rfl rfl) (sV rfl (py_load tu36 rfl rfl (cell_atL (H1.box 0 rfl) rfl)) (s_call (wn rfl) rfl rfl (pc_call Tryz.func244 rfl Tryz_nm244 rfl) (Tryz_ContainsFunc_Tape (H1.sees 2 rfl) (p := manyRecs) Tryz.func245 rfl Tryz_nm245 (fun w1 e1 i0 hi0 _ _ K0 o0_1 => Tryz_impl_tapesFault_1 K0 o0_1)) (fun v1 w2 r1 => ?_)))))))
 obtain ⟨e2, rfl⟩ := r1
 have H2 := H1.to e2
 refine s_nil (W_if rfl (fun c1 => ?_) (fun c1 => ?_))
 ·refine W_sr (sA rfl rfl (s_nil (rT hQ Tryz.results146 rfl ?_)))
  exact ⟨H2.ext, congrArg (Value.int .i64) (tapesF_many c1).symm⟩
 ·refine W_skip (W_seq (W_seq ?_))
  have cM := c1
  refine W_reg (sV rfl (py_field tu38 rfl ts36 rfl rfl) (sV rfl (py_load tu36 rfl rfl (cell_atL (H2.box 0 rfl) rfl)) (sV rfl (py_len tu36 rfl) (sM rfl rfl (s_nil (W_block (W_loopS (γ := Nat) H2 [(1, _), (12, _), (13, _)] ⟨rfl, rfl, rfl, trivial⟩ (fun k => [(14, .int .i64 k)]) (fun k => k ≤ z.Tapes.length ∧ tapeF z.Shape z.Tapes k = 0) (fun k => z.Tapes.length - k) 0 ⟨rfl, trivial⟩ ⟨by omega, rfl⟩ (fun k w3 H3 ⟨hk, hkz⟩ => ?_))))))))
  dsimp only [lCA, lNA]
  refine W_sr (sV rfl (py_lss rfl rfl) (s_nil (W_seq (W_ifd rfl (fun c2 => ?_) (fun c2 => ?_)))))
  ·refine W_skip (W_seq (W_block (W_seq ?_)))
   obtain ⟨eb1, eo1, es1, ef1, ee1, ec1, eO1, eH1, em1⟩ := elem_st (H3.seen 2 rfl) k (by omega)
   obtain ⟨ea1, ek1, eg1, rfl, eq1, eK1, eo2⟩ := own_Tape eO1
   have eP1 := H3.look1 2 rfl eo2 (fun b hb => eH1 b (by rw [eq1]; simp [hb]))
   have eL1 := oL eo2
   refine W_reg (sV rfl (py_elz tu36 ts139 rfl rfl ee1 k (by omega) (by omega)) (sV rfl (py_loadS tu139 rfl ts139 rfl rfl ec1) (s_var (wn rfl) rfl Tryz.zeroValue139 eP1 (fun b2 w4 e3 g2 H4 => ?_))))
   refine s_stoS (wn rfl) ts139 rfl rfl rfl rfl H4 1 rfl rfl (fun w5 e4 H5 => ?_)
   dsimp only [lNA, lCA, lSZ, lSS, layL] at H5
   refine s_nil (W_sr (sV rfl (py_field tu139 rfl ts30 rfl rfl) (sV rfl (py_load tu30 rfl rfl (cell_atL (H5.box 1 rfl) rfl)) (sV rfl (py_len tu30 rfl) (sM rfl rfl (s_nil (W_block (W_loopS (γ := Nat) H5 [(1, _), (12, _), (13, _), (14, _), (19, _), (20, _)] ⟨rfl, rfl, rfl, rfl, rfl, rfl, trivial⟩ (fun k2 => [(21, .int .i64 k2)]) (fun k2 => k2 ≤ (z.Tapes.getD k default).Recs.length ∧ recsF z.Shape (z.Tapes.getD k default).Recs k2 = 0) (fun k2 => (z.Tapes.getD k default).Recs.length - k2) 0 ⟨rfl, trivial⟩ ⟨by omega, rfl⟩ (fun k2 w6 H6 ⟨hk2, hk2z⟩ => ?_)))))))))
   dsimp only [lCA, lNA]
   refine W_sr (sV rfl (py_lss rfl rfl) (s_nil (W_seq (W_ifd rfl (fun c3 => ?_) (fun c3 => ?_)))))
   ·refine W_skip (W_seq (W_block (W_seq ?_)))
    obtain ⟨eb2, eo3, es2, ef2, ee2, ec2, eO2, eH2, em2⟩ := elem_st (H6.seen 3 rfl) k2 (by omega)
    obtain ⟨ea2, ek2, ea3, ek3, ea4, ek4, eg2, eg3, eg4, rfl, eq2, eK2, eo4, eo5, eo6⟩ := own_Rec eO2
    have eK2U := eK2
    unfold Rec.Ok at eK2U
    try unfold I64ok at eK2U
    try unfold maxLen at eK2U
    have eP2 := H6.look1 3 rfl eo4 (fun b hb => eH2 b (by rw [eq2]; simp [hb]))
    have eL2 := oL eo4
    have eP3 := eP2.look1 3 rfl eo5 (fun b hb => eH2 b (by rw [eq2]; simp [hb]))
    have eL3 := oL eo5
    have eP4 := eP3.look1 3 rfl eo6 (fun b hb => eH2 b (by rw [eq2]; simp [hb]))
    have eL4 := oL eo6
    refine W_reg (sV rfl (py_elz tu30 ts68 rfl rfl ee2 k2 (by omega) (by omega)) (sV rfl (py_loadS tu68 rfl ts68 rfl rfl ec2) (s_var (wn rfl) rfl Tryz.zeroValue68 eP4 (fun b3 w7 e5 g3 H7 => ?_))))
    refine s_stoS (wn rfl) ts68 rfl rfl rfl rfl H7 2 rfl rfl (fun w8 e6 H8 => ?_)
    dsimp only [lNA, lCA, lSZ, lSS, layL] at H8
    refine s_nil (W_sr (sV rfl (py_field tu38 rfl ts34 rfl rfl) (sV rfl (py_loadS tu34 rfl ts34 rfl rfl (At.sub (H8.box 0 rfl) 9)) (sV rfl (py_loadS tu68 rfl ts68 rfl rfl (At.whole (H8.box 2 rfl))) (s_call (wn rfl) rfl rfl (pc_call Tryz.func119 rfl Tryz_nm119 rfl) (Tryz_impl_recFault (by assumption) (H8.sees 4 rfl) (H8.sees 5 rfl) (H8.sees 6 rfl) (by assumption)) (fun v2 w9 r2 => ?_))))))
    obtain ⟨e7, rfl⟩ := r2
    have H9 := H8.to e7
    refine sA rfl rfl (s_nil (W_sr (sM rfl rfl (sV rfl (py_neq rfl rfl) (s_nil (W_ifd rfl (fun c4 => ?_) (fun c4 => ?_)))))))
    ·refine W_sr (sM rfl rfl (sA rfl rfl (s_nil (rT hQ Tryz.results146 rfl ?_))))
     exact ⟨H9.ext, congrArg (Value.int .i64) ((tapesF_rec cM (k := k) (k2 := k2) (by omega) hkz (by omega) hk2z (by omega))).symm⟩
    ·refine W_skip (W_reg (sV rfl (py_add rfl rfl (in64 ⟨by omega, by omega⟩)) (sM rfl rfl (s_nil (⟨k2 + 1, ⟨rfl, rfl, rfl, rfl, rfl, rfl, rfl, trivial⟩, ⟨((H9.ftake 4).dtake 2), by omega, (recsF_next hk2z).trans (by omega)⟩, by dsimp only; omega⟩)))))
   ·refine W_exit (W_reg (sV rfl (py_add rfl rfl (in64 ⟨by omega, by omega⟩)) (sM rfl rfl (s_nil ?_))))
    obtain rfl : k2 = (z.Tapes.getD k default).Recs.length := by omega
    refine ⟨k + 1, ⟨rfl, rfl, rfl, rfl, trivial⟩, ⟨((H6.ftake 3).dtake 1), by omega, (tapeF_next hkz).trans hk2z⟩, by dsimp only; omega⟩
  ·refine W_exit (W_seq (W_seq ?_))
   obtain rfl : k = z.Tapes.length := by omega
   have hAll := hkz
   refine W_reg (sV rfl (py_field tu38 rfl ts36 rfl rfl) (sV rfl (py_load tu36 rfl rfl (cell_atL (H3.box 0 rfl) rfl)) (s_call (wn rfl) rfl rfl (pc_call Tryz.func244 rfl Tryz_nm244 rfl) (Tryz_ContainsFunc_Tape (H3.sees 2 rfl) (p := wipedFull) Tryz.func246 rfl Tryz_nm246 (fun w1 e1 i0 hi0 _ _ K0 o0_1 => Tryz_impl_tapesFault_2 K0 o0_1)) (fun v3 w10 r3 => ?_))))
   obtain ⟨e8, rfl⟩ := r3
   have H10 := H3.to e8
   refine s_nil (W_if rfl (fun c5 => ?_) (fun c5 => ?_))
   ·refine W_sr (sA rfl rfl (s_nil (rT hQ Tryz.results146 rfl ?_)))
    exact ⟨H10.ext, congrArg (Value.int .i64) (tapesF_full cM hAll c5).symm⟩
   ·refine W_skip (W_sr (sA rfl rfl (s_nil (rT hQ Tryz.results146 rfl ?_))))
    exact ⟨H10.ext, congrArg (Value.int .i64) (tapesF_ok cM hAll c5).symm⟩
end Go.Wk
namespace Go.Wk
open Go.Proofs Rp
set_option maxRecDepth 10000
set_option maxHeartbeats 1000000 in
theorem Tryz_spec_l5Built {w : World} {z : Wld} {zA9 zA10 zA11 : Option Addr} {zC9 zC10 zC11 : Nat} (zK : z.Ok) (zS9 : Sees w [.slice zA9 z.Groups.length zC9] z.Groups) (zS10 : Sees w [.slice zA10 z.On.length zC10] z.On) (zS11 : Sees w [.slice zA11 z.Tapes.length zC11] z.Tapes) (hs : z.Shape.ok = true) : Ret Tryz.prog 160 #[z.val zA9 zC9 zA10 zC10 zA11 zC11] w fun v w' => Ext No w w' ∧ (v = .bool (groupsOK z)) := by
 have zK2 := zK
 unfold Wld.Ok Shape.Ok at zK2
 try unfold I64ok at zK2
 try unfold maxLen at zK2
 have zL9 := sL zS9
 obtain ⟨zF9, zO9⟩ := zS9
 have zL10 := sL zS10
 obtain ⟨zF10, zO10⟩ := zS10
 have zL11 := sL zS11
 obtain ⟨zF11, zO11⟩ := zS11
 have sbd := shape_bd hs
 refine ret_Q (vs := [z.val zA9 zC9 zA10 zC10 zA11 zC11]) Tryz.func160 rfl Tryz.ntmps160 rfl (fun Q hQ hN => ?_)
 have H0 := Sep.start (w := w) (F := [seen false [.slice zA9 z.Groups.length zC9] z.Groups zF9, seen false [.slice zA10 z.On.length zC10] z.On zF10, seen false [.slice zA11 z.Tapes.length zC11] z.Tapes zF11]) (all_cons zO9 (all_cons zO10 (all_cons zO11 (by simp))))
 refine W_sr (s_box (wn rfl) rfl rfl H0 (fun b1 w1 e1 g1 H1 => ?_))
 refine sA rfl rfl (s_nil (W_sr (sV rfl (py_field tu38 rfl ts34 rfl rfl) (sV rfl (py_loadS tu34 rfl ts34 rfl rfl (At.sub (H1.box 0 rfl) 9)) (s_var (wn rfl) rfl Tryz.zeroValue34 H1 (fun b2 w2 e2 g2 H2 => ?_))))))
 refine s_stoS (wn rfl) ts34 rfl rfl rfl rfl H2 1 rfl rfl (fun w3 e3 H3 => ?_)
 dsimp only [lNA, lCA, lSZ, lSS, layL] at H3
 refine s_nil (W_seq (W_seq (W_drw (S := Ext No _) [(0, true), (1, true), (2, true), (3, true), (4, false), (5, false)] (by kernel_rfl) (by kernel_rfl) (by kernel_rfl) rfl (fun _ => Ext.refl.drawn _) (fun q1 => ?_))))
 have H4 := H3.drawn q1
 refine dV rfl rfl (fun zw hx => py_field tu38 rfl ts35 rfl rfl) (dV rfl rfl (fun zw hx => py_load tu35 rfl rfl (cell_atL (hx.heap (H4.box 0 rfl)) rfl)) (dV rfl rfl (fun zw hx => py_len tu35 rfl) (dV rfl rfl (fun zw hx => py_loadS tu34 rfl ts34 rfl rfl (At.whole (hx.heap (H4.box 1 rfl)))) (d_call rfl (wn rfl) rfl rfl (pc_call Tryz.func162 rfl Tryz_nm162 rfl) (Tryz_spec_l5All (by assumption)) (fun hS _ _ r _ => hS.trans r.1.no) (fun v1 w4 r1 => ?_)))))
 obtain ⟨e4, rfl⟩ := r1
 have H5 := H4.to e4
 refine d_end rfl (wn rfl) rfl rfl (py_neq rfl rfl) (d_nil (W_ifd rfl (fun c1 => ?_) (fun c1 => ?_)))
 ·refine W_sr (sA rfl rfl (s_nil (rT hQ Tryz.results160 rfl ?_)))
  exact ⟨H5.ext, congrArg Value.bool (groupsOK_len (by omega)).symm⟩
 ·refine W_skip (W_seq (W_sr (sA rfl rfl (s_nil (W_block (W_loopS (γ := Nat) H5 [(1, _), (3, _)] ⟨rfl, rfl, trivial⟩ (fun k => [(4, .int .i64 k)]) (fun k => k ≤ z.Groups.length ∧ (∀ i, i < k → groupOK z.Shape (z.Groups.getD i []) = true)) (fun k => z.Groups.length - k) 0 ⟨rfl, trivial⟩ ⟨by omega, fun i hi => by omega⟩ (fun k w5 H6 ⟨hk, he⟩ => ?_)))))))
  dsimp only [lCA, lNA]
  refine W_seq (W_sr (sM rfl rfl (sV rfl (py_field tu38 rfl ts35 rfl rfl) (sV rfl (py_load tu35 rfl rfl (cell_atL (H6.box 0 rfl) rfl)) (sV rfl (py_len tu35 rfl) (sV rfl (py_lss rfl rfl) (s_nil (W_ifd rfl (fun c2 => ?_) (fun c2 => ?_)))))))))
  ·refine W_skip (W_seq (W_block (W_seq (W_seq ?_))))
   obtain ⟨eb1, eo1, ea1, ek1, ef1, ee1, ec1, eO1, eH1⟩ := elem_sl (H6.seen 0 rfl) k (by omega)
   have eP1 := H6.look1 0 rfl eO1 eH1
   refine W_drw (S := Ext No _) [(0, true), (1, true), (2, true), (3, true), (4, true), (5, true), (6, true), (7, false), (8, false)] (by kernel_rfl) (by kernel_rfl) (by kernel_rfl) rfl (fun _ => Ext.refl.drawn _) (fun q2 => ?_)
   have H7 := eP1.drawn q2
   refine dV rfl rfl (fun zw hx => py_field tu38 rfl ts35 rfl rfl) (dV rfl rfl (fun zw hx => py_load tu35 rfl rfl (cell_atL (hx.heap (H7.box 0 rfl)) rfl)) (dM rfl rfl rfl (dV rfl rfl (fun zw hx => py_elz tu35 ts142 rfl rfl ee1 k (by omega) (by omega)) (dV rfl rfl (fun zw hx => py_load tu142 rfl rfl (hx.cell ec1)) (dV rfl rfl (fun zw hx => py_len tu142 rfl) (dV rfl rfl (fun zw hx => py_loadS tu34 rfl ts34 rfl rfl (At.whole (hx.heap (H7.box 1 rfl)))) (d_call rfl (wn rfl) rfl rfl (pc_call Tryz.func232 rfl Tryz_nm232 rfl) (Tryz_spec_l5Drives (by assumption)) (fun hS _ _ r _ => hS.trans r.1.no) (fun v2 w6 r2 => ?_))))))))
   obtain ⟨e5, rfl⟩ := r2
   have H8 := H7.to e5
   refine d_end rfl (wn rfl) rfl rfl (py_neq rfl rfl) (d_nil (W_ifd rfl (fun c3 => ?_) (fun c3 => ?_)))
   ·refine W_sr (sA rfl rfl (s_nil (rT hQ Tryz.results160 rfl ?_)))
    exact ⟨H8.ext, congrArg Value.bool (groupsOK_at k (by omega) (groupOK_len (by omega))).symm⟩
   ·refine W_skip (W_sr (sA rfl rfl (s_nil (W_block (W_loopS (γ := Nat) H8 [(1, _), (3, _), (4, _)] ⟨rfl, rfl, rfl, trivial⟩ (fun k2 => [(5, .int .i64 k2)]) (fun k2 => k2 ≤ (z.Groups.getD k []).length ∧ (∀ i, i < k2 → driveOK z.Shape ((z.Groups.getD k []).getD i default) = true)) (fun k2 => (z.Groups.getD k []).length - k2) 0 ⟨rfl, trivial⟩ ⟨by omega, fun i hi => by omega⟩ (fun k2 w7 H9 ⟨hk2, hek2⟩ => ?_))))))
    dsimp only [lCA, lNA]
    refine W_seq (W_seq ?_)
    obtain ⟨eb2, eo2, ea2, ek2, ef2, ee2, ec2, eO2, eH2⟩ := elem_sl (H9.seen 0 rfl) k (by omega)
    have eP2 := H9.look1 0 rfl eO2 eH2
    refine W_reg (sM rfl rfl (sV rfl (py_field tu38 rfl ts35 rfl rfl) (sV rfl (py_load tu35 rfl rfl (cell_atL (eP2.box 0 rfl) rfl)) (sM rfl rfl (sV rfl (py_elz tu35 ts142 rfl rfl ee2 k (by omega) (by omega)) (sV rfl (py_load tu142 rfl rfl ec2) (sV rfl (py_len tu142 rfl) (sV rfl (py_lss rfl rfl) (s_nil (W_ifd rfl (fun c4 => ?_) (fun c4 => ?_)))))))))))
    ·refine W_skip (W_seq (W_block (W_seq ?_)))
     obtain ⟨eb3, eo3, ea3, ek3, ef3, ee3, ec3, eO3, eH3⟩ := elem_sl (eP2.seen 0 rfl) k (by omega)
     have eP3 := eP2.look1 0 rfl eO3 eH3
     obtain ⟨eb4, eo4, es1, ef4, ee4, ec4, eO4, eH4, em1⟩ := elem_st (eP3.seen 5 rfl) k2 (by omega)
     obtain ⟨ea4, ek4, eg1, rfl, eq1, eK1, eo5⟩ := own_Drive eO4
     have eP4 := eP3.look1 5 rfl eo5 (fun b hb => eH4 b (by rw [eq1]; simp [hb]))
     have eL1 := oL eo5
     refine W_reg (sV rfl (py_field tu38 rfl ts35 rfl rfl) (sV rfl (py_load tu35 rfl rfl (cell_atL (eP4.box 0 rfl) rfl)) (sM rfl rfl (sV rfl (py_elz tu35 ts142 rfl rfl ee3 k (by omega) (by omega)) (sV rfl (py_load tu142 rfl rfl ec3) (sM rfl rfl (sV rfl (py_elz tu142 ts180 rfl rfl ee4 k2 (by omega) (by omega)) (sV rfl (py_field tu180 rfl ts178 rfl rfl) (sV rfl (py_load tu178 rfl rfl (at_cell ec4 1 rfl)) (sA rfl rfl (s_nil (W_seq (W_sr (sM rfl rfl (sV rfl (py_len tu178 rfl) (sV rfl (py_field tu34 rfl ts2 rfl rfl) (sV rfl (py_load tu2 rfl rfl (cell_atL (eP4.box 1 rfl) rfl)) (sV rfl (py_neq rfl rfl) (s_nil (W_ifd rfl (fun c5 => ?_) (fun c5 => ?_)))))))))))))))))))))
     ·refine W_sr (sA rfl rfl (s_nil (rT hQ Tryz.results160 rfl ?_)))
      exact ⟨eP4.ext, congrArg Value.bool (groupsOK_at k (by omega) (groupOK_at k2 (by omega) (driveOK_len (by omega)))).symm⟩
     ·refine W_skip (W_sr (sA rfl rfl (s_nil (W_block (W_loopS (γ := Nat) eP4 [(1, _), (3, _), (4, _), (5, _), (6, _)] ⟨rfl, rfl, rfl, rfl, rfl, trivial⟩ (fun k3 => [(7, .int .i64 k3)]) (fun k3 => k3 ≤ ((z.Groups.getD k []).getD k2 default).Blocks.length ∧ (∀ i, i < k3 → blockOK (((z.Groups.getD k []).getD k2 default).Blocks.getD i default) = true)) (fun k3 => ((z.Groups.getD k []).getD k2 default).Blocks.length - k3) 0 ⟨rfl, trivial⟩ ⟨by omega, fun i hi => by omega⟩ (fun k3 w8 H10 ⟨hk3, hek3⟩ => ?_))))))
      dsimp only [lCA, lNA]
      refine W_seq (W_sr (sM rfl rfl (sM rfl rfl (sV rfl (py_len tu178 rfl) (sV rfl (py_lss rfl rfl) (s_nil (W_ifd rfl (fun c6 => ?_) (fun c6 => ?_))))))))
      ·refine W_skip (W_seq (W_block (W_seq ?_)))
       obtain ⟨eb5, eo6, es2, ef5, ee5, ec5, eO5, eH5, em2⟩ := elem_st (H10.seen 6 rfl) k3 (by omega)
       obtain ⟨ea5, ek5, eg2, rfl, eq2, eK2, eo7⟩ := own_Block eO5
       have eK2U := eK2
       unfold Block.Ok at eK2U
       try unfold I64ok at eK2U
       try unfold maxLen at eK2U
       have eP5 := H10.look1 6 rfl eo7 (fun b hb => eH5 b (by rw [eq2]; simp [hb]))
       have eL2 := oL eo7
       refine W_reg (sM rfl rfl (sM rfl rfl (sV rfl (py_elz tu178 ts182 rfl rfl ee5 k3 (by omega) (by omega)) (sV rfl (py_field tu182 rfl ts2 rfl rfl) (sV rfl (py_load tu2 rfl rfl (at_cell ec5 0 rfl)) (s_call (wn rfl) rfl rfl (pc_call Tryz.func97 rfl Tryz_nm97 rfl) Tryz_spec_l1In (fun v3 w9 r3 => ?_)))))))
       obtain ⟨e6, rfl⟩ := r3
       have H11 := eP5.to e6
       refine sV rfl (py_not rfl) (sM rfl rfl (s_grp 7 (j := 7) (want := false) (t := 76) rfl rfl rfl rfl (fun hg1 kk1 => s_val (wgE rfl rfl rfl hg1) rfl rfl (py_move rfl) (s_val (wgE rfl rfl rfl hg1) rfl rfl (py_move rfl) (s_val (wgE rfl rfl rfl hg1) rfl rfl (py_elz tu178 ts182 rfl rfl ee5 k3 (by first | omega | (simp only [Bool.or_eq_false_iff, Bool.and_eq_true, Bool.and_eq_false_iff, Bool.or_eq_true, Bool.not_eq_true', Bool.not_eq_false', decide_eq_true_eq, decide_eq_false_iff_not] at hg1; omega)) (by omega)) (s_val (wgE rfl rfl rfl hg1) rfl rfl (py_field tu182 rfl ts45 rfl rfl) (s_val (wgE rfl rfl rfl hg1) rfl rfl (py_load tu45 rfl rfl (at_cell (e6.at ec5) 1 rfl)) (s_val (wgE rfl rfl rfl hg1) rfl rfl (py_len tu45 rfl) (s_val (wgE rfl rfl rfl hg1) rfl rfl (py_neq rfl rfl) (kk1 _ _ (kx rfl (kx rfl (kx rfl (kx rfl (kx rfl (kx rfl (kx rfl k0))))))) rfl Ext.refl)))))))) (fun w10 e7 => ?_)))
       have H12 := H11.to e7
       refine sV rfl (py_bor rfl rfl) (s_nil (W_if rfl (fun c7 => ?_) (fun c7 => ?_)))
       ·refine W_sr (sA rfl rfl (s_nil (rT hQ Tryz.results160 rfl ?_)))
        exact ⟨H12.ext, congrArg Value.bool (groupsOK_at k (by omega) (groupOK_at k2 (by omega) (driveOK_at k3 (by omega) (blockOK_no c7)))).symm⟩
       ·refine W_skip (W_reg (sM rfl rfl (sV rfl (py_add rfl rfl (in64 ⟨by omega, by omega⟩)) (sA rfl rfl (s_nil (⟨k3 + 1, ⟨rfl, rfl, rfl, rfl, rfl, rfl, trivial⟩, ⟨(H12.ftake 7), by omega, fun i hi => ?_⟩, by dsimp only; omega⟩))))))
        by_cases e : i = k3
        ·subst e
         exact blockOK_yes (by assumption)
        ·exact hek3 i (by omega)
      ·refine W_exit (W_reg (sM rfl rfl (sV rfl (py_add rfl rfl (in64 ⟨by omega, by omega⟩)) (sA rfl rfl (s_nil (⟨k2 + 1, ⟨rfl, rfl, rfl, rfl, trivial⟩, ⟨(H10.ftake 4), by omega, fun i hi => ?_⟩, by dsimp only; omega⟩))))))
       by_cases e : i = k2
       ·subst e
        exact driveOK_all (by omega) (fun i hi => hek3 i (by omega))
       ·exact hek2 i (by omega)
    ·refine W_exit (W_reg (sM rfl rfl (sV rfl (py_add rfl rfl (in64 ⟨by omega, by omega⟩)) (sA rfl rfl (s_nil (⟨k + 1, ⟨rfl, rfl, rfl, trivial⟩, ⟨(eP2.ftake 3), by omega, fun i hi => ?_⟩, by dsimp only; omega⟩))))))
     by_cases e : i = k
     ·subst e
      exact groupOK_yes (by omega) (fun i hi => hek2 i (by omega))
     ·exact he i (by omega)
  ·refine W_exit (W_sr (sA rfl rfl (s_nil (rT hQ Tryz.results160 rfl ?_))))
   exact ⟨H6.ext, congrArg Value.bool (groupsOK_yes (by omega) (fun i hi => he i (by omega))).symm⟩
theorem Tryz_impl_WorldFault {w : World} {z : Wld} {zA9 zA10 zA11 : Option Addr} {zC9 zC10 zC11 : Nat} (zK : z.Ok) (zS9 : Sees w [.slice zA9 z.Groups.length zC9] z.Groups) (zS10 : Sees w [.slice zA10 z.On.length zC10] z.On) (zS11 : Sees w [.slice zA11 z.Tapes.length zC11] z.Tapes) : Ret Tryz.prog 70 #[z.val zA9 zC9 zA10 zC10 zA11 zC11] w fun v w' => Ext No w w' ∧ (v = .int .i64 (worldF z)) := by
 have zK2 := zK
 unfold Wld.Ok Shape.Ok at zK2
 try unfold I64ok at zK2
 try unfold maxLen at zK2
 have zL9 := sL zS9
 obtain ⟨zF9, zO9⟩ := zS9
 have zL10 := sL zS10
 obtain ⟨zF10, zO10⟩ := zS10
 have zL11 := sL zS11
 obtain ⟨zF11, zO11⟩ := zS11
 refine ret_Q (vs := [z.val zA9 zC9 zA10 zC10 zA11 zC11]) Tryz.func70 rfl Tryz.ntmps70 rfl (fun Q hQ hN => ?_)
 have H0 := Sep.start (w := w) (F := [seen false [.slice zA9 z.Groups.length zC9] z.Groups zF9, seen false [.slice zA10 z.On.length zC10] z.On zF10, seen false [.slice zA11 z.Tapes.length zC11] z.Tapes zF11]) (all_cons zO9 (all_cons zO10 (all_cons zO11 (by simp))))
 refine W_sr (s_box (wn rfl) rfl rfl H0 (fun b1 w1 e1 g1 H1 => ?_))
 refine sA rfl rfl (s_nil (W_seq (W_sr (sV rfl (py_field tu38 rfl ts34 rfl rfl) (sV rfl (py_loadS tu34 rfl ts34 rfl rfl (At.sub (H1.box 0 rfl) 9)) (s_call (wn rfl) rfl rfl (pc_call Tryz.func143 rfl Tryz_nm143 rfl) Tryz_impl_ShapeFault (fun v1 w2 r1 => ?_)))))))
 obtain ⟨e2, rfl⟩ := r1
 have H2 := H1.to e2
 refine sA rfl rfl (s_nil (W_sr (sM rfl rfl (sV rfl (py_neq rfl rfl) (s_nil (W_ifd rfl (fun c1 => ?_) (fun c1 => ?_)))))))
 ·refine W_sr (sM rfl rfl (sA rfl rfl (s_nil (rT hQ Tryz.results70 rfl ?_))))
  exact ⟨H2.ext, congrArg (Value.int .i64) (if_pos (by omega)).symm⟩
 ·refine W_skip (W_seq (W_seq ?_))
  have hs := shapeFault_ok (s := z.Shape) (by omega)
  refine W_reg (sV rfl (py_loadS tu38 rfl ts38 rfl rfl (At.whole (H2.box 0 rfl))) (s_call (wn rfl) rfl rfl (pc_call Tryz.func144 rfl Tryz_nm144 rfl) (Tryz_impl_groupsOK (by assumption) (H2.sees 0 rfl) (H2.sees 1 rfl) (H2.sees 2 rfl) (by assumption)) (fun v2 w3 r2 => ?_)))
  obtain ⟨e3, rfl⟩ := r2
  have H3 := H2.to e3
  refine sV rfl (py_not rfl) (sM rfl rfl (s_case (t := 14) rfl (fun hg1 => ?_) (fun hg1 => ?_)))
  ·try simp only [decide_eq_true_eq, decide_eq_false_iff_not] at hg1
   refine sKt rfl rfl rfl (sKt rfl rfl rfl (sKt rfl rfl rfl (sV rfl (py_pickT rfl rfl) (sM rfl rfl (sKt rfl rfl rfl (sKt rfl rfl rfl (sKt rfl rfl rfl (sKt rfl rfl rfl (sV rfl (py_pickT rfl rfl) (s_nil (W_ift rfl (W_sr (sA rfl rfl (s_nil (rT hQ Tryz.results70 rfl ?_)))))))))))))))
   exact ⟨H3.ext, congrArg (Value.int .i64) ((if_neg (by omega)).trans (if_neg (by simp_all <;> omega))).symm⟩
  ·try simp only [decide_eq_true_eq, decide_eq_false_iff_not] at hg1
   refine s_val (wg rfl rfl rfl) rfl rfl (py_loadS tu38 rfl ts38 rfl rfl (At.whole (H3.box 0 rfl))) (s_call (wg rfl rfl rfl) rfl rfl (pc_call Tryz.func145 rfl Tryz_nm145 rfl) (Tryz_impl_onOK (by assumption) (H3.sees 0 rfl) (H3.sees 1 rfl) (H3.sees 2 rfl) (by assumption)) (fun v3 w4 r3 => ?_))
   obtain ⟨e4, rfl⟩ := r3
   have H4 := H3.to e4
   refine s_val (wg rfl rfl rfl) rfl rfl (py_not rfl) (sV rfl (py_pickF rfl rfl) (sM rfl rfl (s_case (t := 19) rfl (fun hg2 => ?_) (fun hg2 => ?_))))
   ·try simp only [decide_eq_true_eq, decide_eq_false_iff_not] at hg2
    refine sKt rfl rfl rfl (sKt rfl rfl rfl (sKt rfl rfl rfl (sKt rfl rfl rfl (sV rfl (py_pickT rfl rfl) (s_nil (W_ift rfl (W_sr (sA rfl rfl (s_nil (rT hQ Tryz.results70 rfl ?_))))))))))
    exact ⟨H4.ext, congrArg (Value.int .i64) ((if_neg (by omega)).trans (if_neg (by simp_all <;> omega))).symm⟩
   ·try simp only [decide_eq_true_eq, decide_eq_false_iff_not] at hg2
    refine s_val (wg rfl rfl rfl) rfl rfl (py_field tu38 rfl ts36 rfl rfl) (s_val (wg rfl rfl rfl) rfl rfl (py_load tu36 rfl rfl (cell_atL (H4.box 0 rfl) rfl)) (s_val (wg rfl rfl rfl) rfl rfl (py_len tu36 rfl) (s_val (wg rfl rfl rfl) rfl rfl (py_neq rfl rfl) (sV rfl (py_pickF rfl rfl) (s_nil (W_ifd rfl (fun c2 => ?_) (fun c2 => ?_)))))))
    ·refine W_sr (sA rfl rfl (s_nil (rT hQ Tryz.results70 rfl ?_)))
     exact ⟨H4.ext, congrArg (Value.int .i64) ((if_neg (by omega)).trans (if_neg (by simp_all <;> omega))).symm⟩
    ·refine W_skip (W_seq (W_sr (sV rfl (py_loadS tu38 rfl ts38 rfl rfl (At.whole (H4.box 0 rfl))) (s_call (wn rfl) rfl rfl (pc_call Tryz.func146 rfl Tryz_nm146 rfl) (Tryz_impl_tapesFault (by assumption) (H4.sees 0 rfl) (H4.sees 1 rfl) (H4.sees 2 rfl) (by assumption)) (fun v4 w5 r4 => ?_)))))
     obtain ⟨e5, rfl⟩ := r4
     have H5 := H4.to e5
     refine sA rfl rfl (s_nil (W_sr (sM rfl rfl (sV rfl (py_neq rfl rfl) (s_nil (W_ifd rfl (fun c3 => ?_) (fun c3 => ?_)))))))
     ·refine W_sr (sM rfl rfl (sA rfl rfl (s_nil (rT hQ Tryz.results70 rfl ?_))))
      exact ⟨H5.ext, congrArg (Value.int .i64) ((if_neg (by omega)).trans ((if_pos (by simp_all <;> omega)).trans (if_pos (by omega)))).symm⟩
     ·refine W_skip (W_seq (W_sr (sV rfl (py_field tu38 rfl ts2 rfl rfl) (sV rfl (py_load tu2 rfl rfl (cell_atL (H5.box 0 rfl) rfl)) (s_call (wn rfl) rfl rfl (pc_call Tryz.func147 rfl Tryz_nm147 rfl) Tryz_impl_inside (fun v5 w6 r5 => ?_))))))
      obtain ⟨e6, rfl⟩ := r5
      have H6 := H5.to e6
      refine sV rfl (py_not rfl) (sM rfl rfl (s_case (t := 34) rfl (fun hg3 => ?_) (fun hg3 => ?_)))
      ·try simp only [decide_eq_true_eq, decide_eq_false_iff_not] at hg3
       refine sKt rfl rfl rfl (sKt rfl rfl rfl (sKt rfl rfl rfl (sKt rfl rfl rfl (sV rfl (py_pickT rfl rfl) (s_nil (W_ift rfl (W_sr (sA rfl rfl (s_nil (rT hQ Tryz.results70 rfl ?_))))))))))
       exact ⟨H6.ext, congrArg (Value.int .i64) ((if_neg (by omega)).trans ((if_pos (by simp_all <;> omega)).trans ((if_neg (by omega)).trans (if_neg (by simp_all <;> omega))))).symm⟩
      ·try simp only [decide_eq_true_eq, decide_eq_false_iff_not] at hg3
       refine s_val (wg rfl rfl rfl) rfl rfl (py_field tu38 rfl ts2 rfl rfl) (s_val (wg rfl rfl rfl) rfl rfl (py_load tu2 rfl rfl (cell_atL (H6.box 0 rfl) rfl)) (s_call (wg rfl rfl rfl) rfl rfl (pc_call Tryz.func147 rfl Tryz_nm147 rfl) Tryz_impl_inside (fun v6 w7 r6 => ?_)))
       obtain ⟨e7, rfl⟩ := r6
       have H7 := H6.to e7
       refine s_val (wg rfl rfl rfl) rfl rfl (py_not rfl) (sV rfl (py_pickF rfl rfl) (s_nil (W_if rfl (fun c4 => ?_) (fun c4 => ?_))))
       ·refine W_sr (sA rfl rfl (s_nil (rT hQ Tryz.results70 rfl ?_)))
        exact ⟨H7.ext, congrArg (Value.int .i64) ((if_neg (by omega)).trans ((if_pos (by simp_all <;> omega)).trans ((if_neg (by omega)).trans (if_neg (by simp_all <;> omega))))).symm⟩
       ·refine W_skip (W_sr (sA rfl rfl (s_nil (rT hQ Tryz.results70 rfl ?_))))
        exact ⟨H7.ext, congrArg (Value.int .i64) ((if_neg (by omega)).trans ((if_pos (by simp_all <;> omega)).trans ((if_neg (by omega)).trans (if_pos (by simp_all <;> omega))))).symm⟩
set_option maxHeartbeats 1000000 in
theorem Tryz_spec_WorldFault {w : World} {z : Wld} {zA9 zA10 zA11 : Option Addr} {zC9 zC10 zC11 : Nat} (zK : z.Ok) (zS9 : Sees w [.slice zA9 z.Groups.length zC9] z.Groups) (zS10 : Sees w [.slice zA10 z.On.length zC10] z.On) (zS11 : Sees w [.slice zA11 z.Tapes.length zC11] z.Tapes) : Ret Tryz.prog 93 #[z.val zA9 zC9 zA10 zC10 zA11 zC11] w fun v w' => Ext No w w' ∧ (v = .int .i64 (worldF z)) := by
 have zK2 := zK
 unfold Wld.Ok Shape.Ok at zK2
 try unfold I64ok at zK2
 try unfold maxLen at zK2
 have zL9 := sL zS9
 obtain ⟨zF9, zO9⟩ := zS9
 have zL10 := sL zS10
 obtain ⟨zF10, zO10⟩ := zS10
 have zL11 := sL zS11
 obtain ⟨zF11, zO11⟩ := zS11
 refine ret_Q (vs := [z.val zA9 zC9 zA10 zC10 zA11 zC11]) Tryz.func93 rfl Tryz.ntmps93 rfl (fun Q hQ hN => ?_)
 have H0 := Sep.start (w := w) (F := [seen false [.slice zA9 z.Groups.length zC9] z.Groups zF9, seen false [.slice zA10 z.On.length zC10] z.On zF10, seen false [.slice zA11 z.Tapes.length zC11] z.Tapes zF11]) (all_cons zO9 (all_cons zO10 (all_cons zO11 (by simp))))
 refine W_sr (s_box (wn rfl) rfl rfl H0 (fun b1 w1 e1 g1 H1 => ?_))
 refine sA rfl rfl (s_nil (W_seq (W_sr (sV rfl (py_field tu38 rfl ts34 rfl rfl) (sV rfl (py_loadS tu34 rfl ts34 rfl rfl (At.sub (H1.box 0 rfl) 9)) (s_call (wn rfl) rfl rfl (pc_call Tryz.func159 rfl Tryz_nm159 rfl) Tryz_spec_ShapeFault (fun v1 w2 r1 => ?_)))))))
 obtain ⟨e2, rfl⟩ := r1
 have H2 := H1.to e2
 refine sA rfl rfl (s_nil (W_sr (sM rfl rfl (sV rfl (py_neq rfl rfl) (s_nil (W_ifd rfl (fun c1 => ?_) (fun c1 => ?_)))))))
 ·refine W_sr (sM rfl rfl (sA rfl rfl (s_nil (rT hQ Tryz.results93 rfl ?_))))
  exact ⟨H2.ext, congrArg (Value.int .i64) (if_pos (by omega)).symm⟩
 ·refine W_skip (W_seq (W_seq ?_))
  have hs := shapeFault_ok (s := z.Shape) (by omega)
  have sbd := shape_bd hs
  refine W_drw (S := Ext No _) [(0, true), (1, false), (2, true), (3, true), (4, true), (5, true), (6, true), (7, true), (8, false), (9, true), (10, false), (11, true), (12, true), (13, true), (14, true), (15, true), (16, true), (17, true), (18, true), (19, true), (20, true), (21, true), (22, true), (23, true), (24, true), (25, true), (26, true), (27, true), (28, true), (29, true), (30, true), (31, true), (32, true), (33, true), (34, true), (35, true), (36, true), (37, false)] (by kernel_rfl) (by kernel_rfl) (by kernel_rfl) rfl (fun _ => Ext.refl.drawn _) (fun q1 => ?_)
  have H3 := H2.drawn q1
  refine dV rfl rfl (fun zw hx => py_loadS tu38 rfl ts38 rfl rfl (At.whole (hx.heap (H3.box 0 rfl)))) (d_call rfl (wn rfl) rfl rfl (pc_call Tryz.func160 rfl Tryz_nm160 rfl) (Tryz_spec_l5Built (by assumption) (H3.sees 0 rfl) (H3.sees 1 rfl) (H3.sees 2 rfl) (by assumption)) (fun hS _ _ r _ => hS.trans r.1.no) (fun v2 w3 r2 => ?_))
  obtain ⟨e3, rfl⟩ := r2
  have H4 := H3.to e3
  refine dV rfl rfl (fun zw hx => py_not rfl) (dM rfl rfl rfl (d_case (t := 17) rfl (fun hg1 => ?_) (fun hg1 => ?_)))
  ·try simp only [decide_eq_true_eq, decide_eq_false_iff_not] at hg1
   refine dKt rfl rfl rfl rfl (dKt rfl rfl rfl rfl (dKt rfl rfl rfl rfl (dKt rfl rfl rfl rfl (d_skipA rfl (wog (b := true) rfl rfl rfl) rfl rfl (dKt rfl rfl rfl rfl (d_skipA rfl (wog (b := true) rfl rfl rfl) rfl rfl (dKt rfl rfl rfl rfl (dV rfl rfl (fun zw hx => py_pickT rfl rfl) (dM rfl rfl rfl (dKt rfl rfl rfl rfl (dKt rfl rfl rfl rfl (dKt rfl rfl rfl rfl (dKt rfl rfl rfl rfl (dKt rfl rfl rfl rfl (dKt rfl rfl rfl rfl (dKt rfl rfl rfl rfl (dV rfl rfl (fun zw hx => py_pickT rfl rfl) (dM rfl rfl rfl (dKt rfl rfl rfl rfl (dKt rfl rfl rfl rfl (dKt rfl rfl rfl rfl (d_skip rfl (wou rfl rfl rfl) rfl rfl (d_skip rfl (wou rfl rfl rfl) rfl rfl (d_skip rfl (wou rfl rfl rfl) rfl rfl (d_skip rfl (wou rfl rfl rfl) rfl rfl (dKt rfl rfl rfl rfl (dV rfl rfl (fun zw hx => py_pickT rfl rfl) (dM rfl rfl rfl (dKt rfl rfl rfl rfl (dKt rfl rfl rfl rfl (dKt rfl rfl rfl rfl (dKt rfl rfl rfl rfl (d_end rfl (wn rfl) rfl rfl (py_pickT rfl rfl) (d_nil (W_ift rfl (W_sr (sA rfl rfl (s_nil (rT hQ Tryz.results93 rfl ?_)))))))))))))))))))))))))))))))))))))))
   exact ⟨H4.ext, congrArg (Value.int .i64) ((if_neg (by omega)).trans (if_neg (by rw [← fine_eq]; first | (simp_all <;> omega) | (cases hh : z.On <;> simp_all <;> omega)))).symm⟩
  ·try simp only [decide_eq_true_eq, decide_eq_false_iff_not] at hg1
   refine d_val rfl (wg rfl rfl rfl) rfl rfl (fun zw hx => py_field tu38 rfl ts25 rfl rfl) (d_val rfl (wg rfl rfl rfl) rfl rfl (fun zw hx => py_load tu25 rfl rfl (cell_atL (hx.heap (H3.box 0 rfl)) rfl)) (d_val rfl (wg rfl rfl rfl) rfl rfl (fun zw hx => py_field tu38 rfl ts34 rfl rfl) (d_val rfl (wg rfl rfl rfl) rfl rfl (fun zw hx => py_loadS tu34 rfl ts34 rfl rfl (At.sub (hx.heap (H3.box 0 rfl)) 9)) (d_call rfl (wg rfl rfl rfl) rfl rfl (pc_call Tryz.func162 rfl Tryz_nm162 rfl) (Tryz_spec_l5All (by assumption)) (fun hS _ _ r _ => hS.trans r.1.no) (fun v3 w4 r3 => ?_)))))
   obtain ⟨e4, rfl⟩ := r3
   have H5 := H4.to e4
   refine d_val rfl (wg rfl rfl rfl) rfl rfl (fun zw hx => py_sub rfl rfl (in64 ⟨by omega, by omega⟩)) (d_call rfl (wg rfl rfl rfl) rfl rfl (pc_call Tryz.func161 rfl Tryz_nm161 rfl) (Tryz_spec_l5Apart (H5.sees 1 rfl)) (fun hS _ _ r _ => hS.trans r.1.no) (fun v4 w5 r4 => ?_))
   obtain ⟨e5, rfl⟩ := r4
   have H6 := H5.to e5
   refine d_val rfl (wg rfl rfl rfl) rfl rfl (fun zw hx => py_not rfl) (dV rfl rfl (fun zw hx => py_pickF rfl rfl) (dM rfl rfl rfl (d_case (t := 27) rfl (fun hg2 => ?_) (fun hg2 => ?_))))
   ·try simp only [decide_eq_true_eq, decide_eq_false_iff_not] at hg2
    refine dKt rfl rfl rfl rfl (dKt rfl rfl rfl rfl (dKt rfl rfl rfl rfl (dKt rfl rfl rfl rfl (dKt rfl rfl rfl rfl (dKt rfl rfl rfl rfl (dKt rfl rfl rfl rfl (dV rfl rfl (fun zw hx => py_pickT rfl rfl) (dM rfl rfl rfl (dKt rfl rfl rfl rfl (dKt rfl rfl rfl rfl (dKt rfl rfl rfl rfl (d_skip rfl (wou rfl rfl rfl) rfl rfl (d_skip rfl (wou rfl rfl rfl) rfl rfl (d_skip rfl (wou rfl rfl rfl) rfl rfl (d_skip rfl (wou rfl rfl rfl) rfl rfl (dKt rfl rfl rfl rfl (dV rfl rfl (fun zw hx => py_pickT rfl rfl) (dM rfl rfl rfl (dKt rfl rfl rfl rfl (dKt rfl rfl rfl rfl (dKt rfl rfl rfl rfl (dKt rfl rfl rfl rfl (d_end rfl (wn rfl) rfl rfl (py_pickT rfl rfl) (d_nil (W_ift rfl (W_sr (sA rfl rfl (s_nil (rT hQ Tryz.results93 rfl ?_)))))))))))))))))))))))))))))
    exact ⟨H6.ext, congrArg (Value.int .i64) ((if_neg (by omega)).trans (if_neg (by rw [← fine_eq]; first | (simp_all <;> omega) | (cases hh : z.On <;> simp_all <;> omega)))).symm⟩
   ·try simp only [decide_eq_true_eq, decide_eq_false_iff_not] at hg2
    refine d_val rfl (wg rfl rfl rfl) rfl rfl (fun zw hx => py_field tu38 rfl ts25 rfl rfl) (d_val rfl (wg rfl rfl rfl) rfl rfl (fun zw hx => py_load tu25 rfl rfl (cell_atL (hx.heap (H3.box 0 rfl)) rfl)) (d_val rfl (wg rfl rfl rfl) rfl rfl (fun zw hx => py_len tu25 rfl) (d_val rfl (wg rfl rfl rfl) rfl rfl (fun zw hx => py_field tu38 rfl ts34 rfl rfl) (d_val rfl (wg rfl rfl rfl) rfl rfl (fun zw hx => py_field tu34 rfl ts2 rfl rfl) (d_val rfl (wg rfl rfl rfl) rfl rfl (fun zw hx => py_load tu2 rfl rfl (cell_atL (hx.heap (H3.box 0 rfl)) rfl)) (d_val rfl (wg rfl rfl rfl) rfl rfl (fun zw hx => py_gtr rfl rfl) (dV rfl rfl (fun zw hx => py_pickF rfl rfl) (dM rfl rfl rfl (d_case (t := 36) rfl (fun hg3 => ?_) (fun hg3 => ?_))))))))))
    ·try simp only [decide_eq_true_eq, decide_eq_false_iff_not] at hg3
     refine dKt rfl rfl rfl rfl (dKt rfl rfl rfl rfl (dKt rfl rfl rfl rfl (d_skip rfl (wou rfl rfl rfl) rfl rfl (d_skip rfl (wou rfl rfl rfl) rfl rfl (d_skip rfl (wou rfl rfl rfl) rfl rfl (d_skip rfl (wou rfl rfl rfl) rfl rfl (dKt rfl rfl rfl rfl (dV rfl rfl (fun zw hx => py_pickT rfl rfl) (dM rfl rfl rfl (dKt rfl rfl rfl rfl (dKt rfl rfl rfl rfl (dKt rfl rfl rfl rfl (dKt rfl rfl rfl rfl (d_end rfl (wn rfl) rfl rfl (py_pickT rfl rfl) (d_nil (W_ift rfl (W_sr (sA rfl rfl (s_nil (rT hQ Tryz.results93 rfl ?_))))))))))))))))))))
     exact ⟨H6.ext, congrArg (Value.int .i64) ((if_neg (by omega)).trans (if_neg (by rw [← fine_eq]; first | (simp_all <;> omega) | (cases hh : z.On <;> simp_all <;> omega)))).symm⟩
    ·try simp only [decide_eq_true_eq, decide_eq_false_iff_not] at hg3
     refine d_val rfl (wg rfl rfl rfl) rfl rfl (fun zw hx => py_field tu38 rfl ts4 rfl rfl) (d_val rfl (wg rfl rfl rfl) rfl rfl (fun zw hx => py_load tu4 rfl rfl (cell_atL (hx.heap (H3.box 0 rfl)) rfl)) (d_val rfl (wg rfl rfl rfl) rfl rfl (fun zw hx => py_move rfl) (d_case (t := 39) rfl (fun hg4 => ?_) (fun hg4 => ?_))))
     ·try simp only [decide_eq_true_eq, decide_eq_false_iff_not] at hg4
      refine d_val rfl (wg rfl rfl rfl) rfl rfl (fun zw hx => py_field tu38 rfl ts25 rfl rfl) (d_val rfl (wg rfl rfl rfl) rfl rfl (fun zw hx => py_load tu25 rfl rfl (cell_atL (hx.heap (H3.box 0 rfl)) rfl)) (d_val rfl (wg rfl rfl rfl) rfl rfl (fun zw hx => py_len tu25 rfl) (d_val rfl (wg rfl rfl rfl) rfl rfl (fun zw hx => py_gtr rfl rfl) (d_val rfl (wg rfl rfl rfl) rfl rfl (fun zw hx => py_pickT rfl rfl) (dV rfl rfl (fun zw hx => py_pickF rfl rfl) (dM rfl rfl rfl (d_case (t := 46) rfl (fun hg5 => ?_) (fun hg5 => ?_))))))))
      ·try simp only [decide_eq_true_eq, decide_eq_false_iff_not] at hg5
       refine dKt rfl rfl rfl rfl (dKt rfl rfl rfl rfl (dKt rfl rfl rfl rfl (dKt rfl rfl rfl rfl (d_end rfl (wn rfl) rfl rfl (py_pickT rfl rfl) (d_nil (W_ift rfl (W_sr (sA rfl rfl (s_nil (rT hQ Tryz.results93 rfl ?_))))))))))
       exact ⟨H6.ext, congrArg (Value.int .i64) ((if_neg (by omega)).trans (if_neg (by rw [← fine_eq]; first | (simp_all <;> omega) | (cases hh : z.On <;> simp_all <;> omega)))).symm⟩
      ·try simp only [decide_eq_true_eq, decide_eq_false_iff_not] at hg5
       refine d_val rfl (wg rfl rfl rfl) rfl rfl (fun zw hx => py_field tu38 rfl ts36 rfl rfl) (d_val rfl (wg rfl rfl rfl) rfl rfl (fun zw hx => py_load tu36 rfl rfl (cell_atL (hx.heap (H3.box 0 rfl)) rfl)) (d_val rfl (wg rfl rfl rfl) rfl rfl (fun zw hx => py_len tu36 rfl) (d_val rfl (wg rfl rfl rfl) rfl rfl (fun zw hx => py_neq rfl rfl) (d_end rfl (wn rfl) rfl rfl (py_pickF rfl rfl) (d_nil (W_ifd rfl (fun c2 => ?_) (fun c2 => ?_)))))))
       ·refine W_sr (sA rfl rfl (s_nil (rT hQ Tryz.results93 rfl ?_)))
        exact ⟨H6.ext, congrArg (Value.int .i64) ((if_neg (by omega)).trans (if_neg (by rw [← fine_eq]; first | (simp_all <;> omega) | (cases hh : z.On <;> simp_all <;> omega)))).symm⟩
       ·refine W_skip (W_seq (W_seq ?_))
        have hF : (groupsOK z && onOK z && decide (z.Tapes.length = 2)) = true := by rw [← fine_eq]; simp_all <;> omega
        have h2 : z.Tapes.length = 2 := by simp_all <;> omega
        obtain ⟨eb1, eo1, es1, ef1, ee1, ec1, eO1, eH1, em1⟩ := elem_st (H6.seen 2 rfl) 0 (by omega)
        obtain ⟨ea1, ek1, eg1, rfl, eq1, eK1, eo2⟩ := own_Tape eO1
        have eP1 := H6.look1 2 rfl eo2 (fun b hb => eH1 b (by rw [eq1]; simp [hb]))
        have eL1 := oL eo2
        refine W_reg (sV rfl (py_field tu38 rfl ts36 rfl rfl) (sV rfl (py_load tu36 rfl rfl (cell_atL (eP1.box 0 rfl) rfl)) (sV rfl (py_elz tu36 ts139 rfl rfl ee1 0 (by omega) (by omega)) (sV rfl (py_field tu139 rfl ts30 rfl rfl) (sV rfl (py_load tu30 rfl rfl (at_cell ec1 1 rfl)) (sV rfl (py_len tu30 rfl) (sV rfl (py_gtr rfl rfl) (sM rfl rfl (s_case (t := 59) rfl (fun hg6 => ?_) (fun hg6 => ?_))))))))))
        ·try simp only [decide_eq_true_eq, decide_eq_false_iff_not] at hg6
         refine sKt rfl rfl rfl (sKt rfl rfl rfl (sKt rfl rfl rfl (sKt rfl rfl rfl (sKt rfl rfl rfl (sKt rfl rfl rfl (sKt rfl rfl rfl (sV rfl (py_pickT rfl rfl) (s_nil (W_ift rfl (W_seq ?_))))))))))
         have tq := tapesF_many (z := z) (any_two h2 (by simp only [manyRecs]; simp_all <;> omega))
         refine W_reg (sA rfl rfl (s_nil (rT hQ Tryz.results93 rfl ?_)))
         exact ⟨eP1.ext, congrArg (Value.int .i64) ((if_neg (by omega)).trans ((if_pos hF).trans ((if_pos (by omega)).trans tq))).symm⟩
        ·try simp only [decide_eq_true_eq, decide_eq_false_iff_not] at hg6
         refine s_val (wg rfl rfl rfl) rfl rfl (py_field tu38 rfl ts36 rfl rfl) (s_val (wg rfl rfl rfl) rfl rfl (py_load tu36 rfl rfl (cell_atL (eP1.box 0 rfl) rfl)) ?_)
         obtain ⟨eb2, eo3, es2, ef2, ee2, ec2, eO2, eH2, em2⟩ := elem_st (eP1.seen 2 rfl) 1 (by omega)
         obtain ⟨ea2, ek2, eg2, rfl, eq2, eK2, eo4⟩ := own_Tape eO2
         have eP2 := eP1.look1 2 rfl eo4 (fun b hb => eH2 b (by rw [eq2]; simp [hb]))
         have eL2 := oL eo4
         refine s_val (wg rfl rfl rfl) rfl rfl (py_elz tu36 ts139 rfl rfl ee2 1 (by omega) (by omega)) (s_val (wg rfl rfl rfl) rfl rfl (py_field tu139 rfl ts30 rfl rfl) (s_val (wg rfl rfl rfl) rfl rfl (py_load tu30 rfl rfl (at_cell ec2 1 rfl)) (s_val (wg rfl rfl rfl) rfl rfl (py_len tu30 rfl) (s_val (wg rfl rfl rfl) rfl rfl (py_gtr rfl rfl) (sV rfl (py_pickF rfl rfl) (s_nil (W_ifd rfl (fun c3 => ?_) (fun c3 => ?_))))))))
         ·refine W_seq ?_
          have tq := tapesF_many (z := z) (any_two h2 (by simp only [manyRecs]; simp_all <;> omega))
          refine W_reg (sA rfl rfl (s_nil (rT hQ Tryz.results93 rfl ?_)))
          exact ⟨eP2.ext, congrArg (Value.int .i64) ((if_neg (by omega)).trans ((if_pos hF).trans ((if_pos (by omega)).trans tq))).symm⟩
         ·refine W_skip (W_seq (W_seq ?_))
          have hM : z.Tapes.any manyRecs = false := any_neither h2 (by simp only [manyRecs]; simp_all <;> omega) (by simp only [manyRecs]; simp_all <;> omega)
          refine W_reg (sA rfl rfl (s_nil (W_block (W_loopS (γ := Nat) eP2 [(1, _)] ⟨rfl, trivial⟩ (fun k => [(4, .int .i64 k)]) (fun k => k ≤ z.Tapes.length ∧ tapeF z.Shape z.Tapes k = 0) (fun k => z.Tapes.length - k) 0 ⟨rfl, trivial⟩ ⟨by omega, rfl⟩ (fun k w6 H7 ⟨hk, hkz⟩ => ?_)))))
          dsimp only [lCA, lNA]
          refine W_seq (W_sr (sM rfl rfl (sV rfl (py_lss rfl rfl) (s_nil (W_ifd rfl (fun c4 => ?_) (fun c4 => ?_))))))
          ·refine W_skip (W_seq (W_block (W_sr (sA rfl rfl (s_nil (W_block (W_loopS (γ := Nat) H7 [(1, _), (4, _)] ⟨rfl, rfl, trivial⟩ (fun k2 => [(5, .int .i64 k2)]) (fun k2 => k2 ≤ (z.Tapes.getD k default).Recs.length ∧ recsF z.Shape (z.Tapes.getD k default).Recs k2 = 0) (fun k2 => (z.Tapes.getD k default).Recs.length - k2) 0 ⟨rfl, trivial⟩ ⟨by omega, rfl⟩ (fun k2 w7 H8 ⟨hk2, hk2z⟩ => ?_))))))))
           dsimp only [lCA, lNA]
           refine W_seq (W_seq ?_)
           obtain ⟨eb3, eo5, es3, ef3, ee3, ec3, eO3, eH3, em3⟩ := elem_st (H8.seen 2 rfl) k (by omega)
           obtain ⟨ea3, ek3, eg3, rfl, eq3, eK3, eo6⟩ := own_Tape eO3
           have eP3 := H8.look1 2 rfl eo6 (fun b hb => eH3 b (by rw [eq3]; simp [hb]))
           have eL3 := oL eo6
           refine W_reg (sM rfl rfl (sV rfl (py_field tu38 rfl ts36 rfl rfl) (sV rfl (py_load tu36 rfl rfl (cell_atL (eP3.box 0 rfl) rfl)) (sM rfl rfl (sV rfl (py_elz tu36 ts139 rfl rfl ee3 k (by omega) (by omega)) (sV rfl (py_field tu139 rfl ts30 rfl rfl) (sV rfl (py_load tu30 rfl rfl (at_cell ec3 1 rfl)) (sV rfl (py_len tu30 rfl) (sV rfl (py_lss rfl rfl) (s_nil (W_ifd rfl (fun c5 => ?_) (fun c5 => ?_))))))))))))
           ·refine W_skip (W_seq (W_block (W_seq ?_)))
            obtain ⟨eb4, eo7, es4, ef4, ee4, ec4, eO4, eH4, em4⟩ := elem_st (eP3.seen 2 rfl) k (by omega)
            obtain ⟨ea4, ek4, eg4, rfl, eq4, eK4, eo8⟩ := own_Tape eO4
            have eP4 := eP3.look1 2 rfl eo8 (fun b hb => eH4 b (by rw [eq4]; simp [hb]))
            have eL4 := oL eo8
            obtain ⟨eb5, eo9, es5, ef5, ee5, ec5, eO5, eH5, em5⟩ := elem_st (eP4.seen 6 rfl) k2 (by omega)
            obtain ⟨ea5, ek5, ea6, ek6, ea7, ek7, eg5, eg6, eg7, rfl, eq5, eK5, eo10, eo11, eo12⟩ := own_Rec eO5
            have eK5U := eK5
            unfold Rec.Ok at eK5U
            try unfold I64ok at eK5U
            try unfold maxLen at eK5U
            have eP5 := eP4.look1 6 rfl eo10 (fun b hb => eH5 b (by rw [eq5]; simp [hb]))
            have eL5 := oL eo10
            have eP6 := eP5.look1 6 rfl eo11 (fun b hb => eH5 b (by rw [eq5]; simp [hb]))
            have eL6 := oL eo11
            have eP7 := eP6.look1 6 rfl eo12 (fun b hb => eH5 b (by rw [eq5]; simp [hb]))
            have eL7 := oL eo12
            refine W_drw (S := Ext No _) [(0, true), (1, true), (2, true), (3, true), (4, true), (5, true), (6, true), (7, true), (8, true), (9, true), (10, true), (11, false), (12, false)] (by kernel_rfl) (by kernel_rfl) (by kernel_rfl) rfl (fun _ => Ext.refl.drawn _) (fun q2 => ?_)
            have H9 := eP7.drawn q2
            refine dV rfl rfl (fun zw hx => py_field tu38 rfl ts34 rfl rfl) (dV rfl rfl (fun zw hx => py_loadS tu34 rfl ts34 rfl rfl (At.sub (hx.heap (H9.box 0 rfl)) 9)) (dV rfl rfl (fun zw hx => py_field tu38 rfl ts36 rfl rfl) (dV rfl rfl (fun zw hx => py_load tu36 rfl rfl (cell_atL (hx.heap (H9.box 0 rfl)) rfl)) (dM rfl rfl rfl (dV rfl rfl (fun zw hx => py_elz tu36 ts139 rfl rfl ee4 k (by omega) (by omega)) (dV rfl rfl (fun zw hx => py_field tu139 rfl ts30 rfl rfl) (dV rfl rfl (fun zw hx => py_load tu30 rfl rfl (at_cell (hx.at ec4) 1 rfl)) (dM rfl rfl rfl (dV rfl rfl (fun zw hx => py_elz tu30 ts68 rfl rfl ee5 k2 (by omega) (by omega)) (dV rfl rfl (fun zw hx => py_loadS tu68 rfl ts68 rfl rfl (hx.at ec5)) (d_call rfl (wn rfl) rfl rfl (pc_call Tryz.func112 rfl Tryz_nm112 rfl) (Tryz_spec_RecFault (by assumption) (H9.sees 7 rfl) (H9.sees 8 rfl) (H9.sees 9 rfl)) (fun hS _ _ r _ => hS.trans r.1.no) (fun v5 w8 r5 => ?_))))))))))))
            obtain ⟨e6, rfl⟩ := r5
            have H10 := H9.to e6
            refine d_end rfl (wn rfl) rfl rfl (py_assign rfl) (d_nil (W_sr (sM rfl rfl (sV rfl (py_neq rfl rfl) (s_nil (W_ifd rfl (fun c6 => ?_) (fun c6 => ?_)))))))
            ·refine W_sr (sM rfl rfl (sA rfl rfl (s_nil (rT hQ Tryz.results93 rfl ?_))))
             have tq := tapesF_rec hM (k := k) (k2 := k2) (by omega) hkz (by omega) hk2z (by omega)
             exact ⟨H10.ext, congrArg (Value.int .i64) ((if_neg (by omega)).trans (((if_neg (by omega)).trans ((if_pos hF).trans ((if_pos (by omega)).trans tq)))).symm)⟩
            ·refine W_skip (W_reg (sM rfl rfl (sV rfl (py_add rfl rfl (in64 ⟨by omega, by omega⟩)) (sA rfl rfl (s_nil (⟨k2 + 1, ⟨rfl, rfl, rfl, trivial⟩, ⟨(H10.ftake 5), by omega, (recsF_next hk2z).trans (by omega)⟩, by dsimp only; omega⟩))))))
           ·refine W_exit (W_reg (sM rfl rfl (sV rfl (py_add rfl rfl (in64 ⟨by omega, by omega⟩)) (sA rfl rfl (s_nil ?_)))))
            obtain rfl : k2 = (z.Tapes.getD k default).Recs.length := by omega
            refine ⟨k + 1, ⟨rfl, rfl, trivial⟩, ⟨(eP3.ftake 5), by omega, (tapeF_next hkz).trans hk2z⟩, by dsimp only; omega⟩
          ·refine W_exit (W_seq (W_seq ?_))
           obtain rfl : k = z.Tapes.length := by omega
           have hAll := hkz
           refine W_reg (sA rfl rfl (s_nil (W_block (W_loopS (γ := Nat) H7 [(1, _)] ⟨rfl, trivial⟩ (fun k => [(7, .int .i64 k)]) (fun k => k ≤ 2 ∧ (∀ i, i < k → wipedFull (z.Tapes.getD i default) = false)) (fun k => 2 - k) 0 ⟨rfl, trivial⟩ ⟨by omega, fun i hi => by omega⟩ (fun k w9 H11 ⟨hk, hek⟩ => ?_)))))
           dsimp only [lCA, lNA]
           refine W_seq (W_sr (sM rfl rfl (sV rfl (py_lss rfl rfl) (s_nil (W_ifd rfl (fun c7 => ?_) (fun c7 => ?_))))))
           ·refine W_skip (W_seq (W_block (W_seq ?_)))
            obtain ⟨eb6, eo13, es6, ef6, ee6, ec6, eO6, eH6, em6⟩ := elem_st (H11.seen 2 rfl) k (by omega)
            obtain ⟨ea8, ek8, eg8, rfl, eq6, eK6, eo14⟩ := own_Tape eO6
            have eP8 := H11.look1 2 rfl eo14 (fun b hb => eH6 b (by rw [eq6]; simp [hb]))
            have eL8 := oL eo14
            refine W_reg (sV rfl (py_field tu38 rfl ts36 rfl rfl) (sV rfl (py_load tu36 rfl rfl (cell_atL (eP8.box 0 rfl) rfl)) (sM rfl rfl (sV rfl (py_elz tu36 ts139 rfl rfl ee6 k (by omega) (by omega)) (sV rfl (py_field tu139 rfl ts4 rfl rfl) (sV rfl (py_load tu4 rfl rfl (at_cell ec6 0 rfl)) (sM rfl rfl (s_case (t := 108) rfl (fun hg7 => ?_) (fun hg7 => ?_)))))))))
            ·try simp only [decide_eq_true_eq, decide_eq_false_iff_not] at hg7
             refine s_val (wg rfl rfl rfl) rfl rfl (py_field tu38 rfl ts36 rfl rfl) (s_val (wg rfl rfl rfl) rfl rfl (py_load tu36 rfl rfl (cell_atL (eP8.box 0 rfl) rfl)) (s_val (wg rfl rfl rfl) rfl rfl (py_move rfl) (s_val (wg rfl rfl rfl) rfl rfl (py_elz tu36 ts139 rfl rfl ee6 k (by omega) (by omega)) (s_val (wg rfl rfl rfl) rfl rfl (py_field tu139 rfl ts30 rfl rfl) (s_val (wg rfl rfl rfl) rfl rfl (py_load tu30 rfl rfl (at_cell ec6 1 rfl)) (s_val (wg rfl rfl rfl) rfl rfl (py_len tu30 rfl) (s_val (wg rfl rfl rfl) rfl rfl (py_gtr rfl rfl) (sV rfl (py_pickT rfl rfl) (s_nil (W_ifd rfl (fun c8 => ?_) (fun c8 => ?_)))))))))))
             ·refine W_sr (sA rfl rfl (s_nil (rT hQ Tryz.results93 rfl ?_)))
              have tq := tapesF_full hM hAll (any_at k (by omega) (by rw [wipedFull]; simp_all <;> omega))
              exact ⟨eP8.ext, congrArg (Value.int .i64) ((if_neg (by omega)).trans ((if_pos hF).trans ((if_pos (by omega)).trans tq))).symm⟩
             ·refine W_skip (W_reg (sM rfl rfl (sV rfl (py_add rfl rfl (in64 ⟨by omega, by omega⟩)) (sA rfl rfl (s_nil (⟨k + 1, ⟨rfl, rfl, trivial⟩, ⟨(eP8.ftake 5), by omega, fun i hi => ?_⟩, by dsimp only; omega⟩))))))
              by_cases e : i = k
              ·subst e; rw [wipedFull]; simp_all <;> omega
              ·exact hek i (by omega)
            ·try simp only [decide_eq_true_eq, decide_eq_false_iff_not] at hg7
             refine sKf rfl rfl rfl (sKf rfl rfl rfl (sKf rfl rfl rfl (sKf rfl rfl rfl (sKf rfl rfl rfl (sKf rfl rfl rfl (sKf rfl rfl rfl (sKf rfl rfl rfl (sV rfl (py_pickF rfl rfl) (s_nil (W_iff rfl (W_skip (W_reg (sM rfl rfl (sV rfl (py_add rfl rfl (in64 ⟨by omega, by omega⟩)) (sA rfl rfl (s_nil (⟨k + 1, ⟨rfl, rfl, trivial⟩, ⟨(eP8.ftake 5), by omega, fun i hi => ?_⟩, by dsimp only; omega⟩)))))))))))))))))
             by_cases e : i = k
             ·subst e; rw [wipedFull]; simp_all <;> omega
             ·exact hek i (by omega)
           ·refine W_exit (W_seq (W_seq ?_))
            have tq := tapesF_ok hM hAll (any_none (fun i hi => hek i (by omega)))
            refine W_reg (sV rfl (py_field tu38 rfl ts2 rfl rfl) (sV rfl (py_load tu2 rfl rfl (cell_atL (H11.box 0 rfl) rfl)) (s_call (wn rfl) rfl rfl (pc_call Tryz.func97 rfl Tryz_nm97 rfl) Tryz_spec_l1In (fun v6 w10 r6 => ?_))))
            obtain ⟨e7, rfl⟩ := r6
            have H12 := H11.to e7
            refine sV rfl (py_not rfl) (sM rfl rfl (s_case (t := 122) rfl (fun hg8 => ?_) (fun hg8 => ?_)))
            ·try simp only [decide_eq_true_eq, decide_eq_false_iff_not] at hg8
             refine sKt rfl rfl rfl (sKt rfl rfl rfl (sKt rfl rfl rfl (sKt rfl rfl rfl (sV rfl (py_pickT rfl rfl) (s_nil (W_ift rfl (W_sr (sA rfl rfl (s_nil (rT hQ Tryz.results93 rfl ?_))))))))))
             exact ⟨H12.ext, congrArg (Value.int .i64) ((if_neg (by omega)).trans ((if_pos hF).trans ((if_neg (by omega)).trans (if_neg (by simp_all <;> omega))))).symm⟩
            ·try simp only [decide_eq_true_eq, decide_eq_false_iff_not] at hg8
             refine s_val (wg rfl rfl rfl) rfl rfl (py_field tu38 rfl ts2 rfl rfl) (s_val (wg rfl rfl rfl) rfl rfl (py_load tu2 rfl rfl (cell_atL (H12.box 0 rfl) rfl)) (s_call (wg rfl rfl rfl) rfl rfl (pc_call Tryz.func97 rfl Tryz_nm97 rfl) Tryz_spec_l1In (fun v7 w11 r7 => ?_)))
             obtain ⟨e8, rfl⟩ := r7
             have H13 := H12.to e8
             refine s_val (wg rfl rfl rfl) rfl rfl (py_not rfl) (sV rfl (py_pickF rfl rfl) (s_nil (W_if rfl (fun c9 => ?_) (fun c9 => ?_))))
             ·refine W_sr (sA rfl rfl (s_nil (rT hQ Tryz.results93 rfl ?_)))
              exact ⟨H13.ext, congrArg (Value.int .i64) ((if_neg (by omega)).trans ((if_pos hF).trans ((if_neg (by omega)).trans (if_neg (by simp_all <;> omega))))).symm⟩
             ·refine W_skip (W_sr (sA rfl rfl (s_nil (rT hQ Tryz.results93 rfl ?_))))
              exact ⟨H13.ext, congrArg (Value.int .i64) ((if_neg (by omega)).trans ((if_pos hF).trans ((if_neg (by omega)).trans (if_pos (by simp_all <;> omega))))).symm⟩
     ·try simp only [decide_eq_true_eq, decide_eq_false_iff_not] at hg4
      refine dKf rfl rfl rfl rfl (dKf rfl rfl rfl rfl (dKf rfl rfl rfl rfl (dKf rfl rfl rfl rfl (d_val rfl (wg rfl rfl rfl) rfl rfl (fun zw hx => py_pickF rfl rfl) (dV rfl rfl (fun zw hx => py_pickF rfl rfl) (dM rfl rfl rfl (d_val rfl (wg rfl rfl rfl) rfl rfl (fun zw hx => py_field tu38 rfl ts36 rfl rfl) (d_val rfl (wg rfl rfl rfl) rfl rfl (fun zw hx => py_load tu36 rfl rfl (cell_atL (hx.heap (H3.box 0 rfl)) rfl)) (d_val rfl (wg rfl rfl rfl) rfl rfl (fun zw hx => py_len tu36 rfl) (d_val rfl (wg rfl rfl rfl) rfl rfl (fun zw hx => py_neq rfl rfl) (d_end rfl (wn rfl) rfl rfl (py_pickF rfl rfl) (d_nil (W_ifd rfl (fun c10 => ?_) (fun c10 => ?_))))))))))))))
      ·refine W_sr (sA rfl rfl (s_nil (rT hQ Tryz.results93 rfl ?_)))
       exact ⟨H6.ext, congrArg (Value.int .i64) ((if_neg (by omega)).trans (if_neg (by rw [← fine_eq]; first | (simp_all <;> omega) | (cases hh : z.On <;> simp_all <;> omega)))).symm⟩
      ·refine W_skip (W_seq (W_seq ?_))
       have hF : (groupsOK z && onOK z && decide (z.Tapes.length = 2)) = true := by rw [← fine_eq]; simp_all <;> omega
       have h2 : z.Tapes.length = 2 := by simp_all <;> omega
       obtain ⟨eb7, eo15, es7, ef7, ee7, ec7, eO7, eH7, em7⟩ := elem_st (H6.seen 2 rfl) 0 (by omega)
       obtain ⟨ea9, ek9, eg9, rfl, eq7, eK7, eo16⟩ := own_Tape eO7
       have eP9 := H6.look1 2 rfl eo16 (fun b hb => eH7 b (by rw [eq7]; simp [hb]))
       have eL9 := oL eo16
       refine W_reg (sV rfl (py_field tu38 rfl ts36 rfl rfl) (sV rfl (py_load tu36 rfl rfl (cell_atL (eP9.box 0 rfl) rfl)) (sV rfl (py_elz tu36 ts139 rfl rfl ee7 0 (by omega) (by omega)) (sV rfl (py_field tu139 rfl ts30 rfl rfl) (sV rfl (py_load tu30 rfl rfl (at_cell ec7 1 rfl)) (sV rfl (py_len tu30 rfl) (sV rfl (py_gtr rfl rfl) (sM rfl rfl (s_case (t := 59) rfl (fun hg9 => ?_) (fun hg9 => ?_))))))))))
       ·try simp only [decide_eq_true_eq, decide_eq_false_iff_not] at hg9
        refine sKt rfl rfl rfl (sKt rfl rfl rfl (sKt rfl rfl rfl (sKt rfl rfl rfl (sKt rfl rfl rfl (sKt rfl rfl rfl (sKt rfl rfl rfl (sV rfl (py_pickT rfl rfl) (s_nil (W_ift rfl (W_seq ?_))))))))))
        have tq := tapesF_many (z := z) (any_two h2 (by simp only [manyRecs]; simp_all <;> omega))
        refine W_reg (sA rfl rfl (s_nil (rT hQ Tryz.results93 rfl ?_)))
        exact ⟨eP9.ext, congrArg (Value.int .i64) ((if_neg (by omega)).trans ((if_pos hF).trans ((if_pos (by omega)).trans tq))).symm⟩
       ·try simp only [decide_eq_true_eq, decide_eq_false_iff_not] at hg9
        refine s_val (wg rfl rfl rfl) rfl rfl (py_field tu38 rfl ts36 rfl rfl) (s_val (wg rfl rfl rfl) rfl rfl (py_load tu36 rfl rfl (cell_atL (eP9.box 0 rfl) rfl)) ?_)
        obtain ⟨eb8, eo17, es8, ef8, ee8, ec8, eO8, eH8, em8⟩ := elem_st (eP9.seen 2 rfl) 1 (by omega)
        obtain ⟨ea10, ek10, eg10, rfl, eq8, eK8, eo18⟩ := own_Tape eO8
        have eP10 := eP9.look1 2 rfl eo18 (fun b hb => eH8 b (by rw [eq8]; simp [hb]))
        have eL10 := oL eo18
        refine s_val (wg rfl rfl rfl) rfl rfl (py_elz tu36 ts139 rfl rfl ee8 1 (by omega) (by omega)) (s_val (wg rfl rfl rfl) rfl rfl (py_field tu139 rfl ts30 rfl rfl) (s_val (wg rfl rfl rfl) rfl rfl (py_load tu30 rfl rfl (at_cell ec8 1 rfl)) (s_val (wg rfl rfl rfl) rfl rfl (py_len tu30 rfl) (s_val (wg rfl rfl rfl) rfl rfl (py_gtr rfl rfl) (sV rfl (py_pickF rfl rfl) (s_nil (W_ifd rfl (fun c11 => ?_) (fun c11 => ?_))))))))
        ·refine W_seq ?_
         have tq := tapesF_many (z := z) (any_two h2 (by simp only [manyRecs]; simp_all <;> omega))
         refine W_reg (sA rfl rfl (s_nil (rT hQ Tryz.results93 rfl ?_)))
         exact ⟨eP10.ext, congrArg (Value.int .i64) ((if_neg (by omega)).trans ((if_pos hF).trans ((if_pos (by omega)).trans tq))).symm⟩
        ·refine W_skip (W_seq (W_seq ?_))
         have hM : z.Tapes.any manyRecs = false := any_neither h2 (by simp only [manyRecs]; simp_all <;> omega) (by simp only [manyRecs]; simp_all <;> omega)
         refine W_reg (sA rfl rfl (s_nil (W_block (W_loopS (γ := Nat) eP10 [(1, _)] ⟨rfl, trivial⟩ (fun k => [(4, .int .i64 k)]) (fun k => k ≤ z.Tapes.length ∧ tapeF z.Shape z.Tapes k = 0) (fun k => z.Tapes.length - k) 0 ⟨rfl, trivial⟩ ⟨by omega, rfl⟩ (fun k w12 H14 ⟨hk, hkz⟩ => ?_)))))
         dsimp only [lCA, lNA]
         refine W_seq (W_sr (sM rfl rfl (sV rfl (py_lss rfl rfl) (s_nil (W_ifd rfl (fun c12 => ?_) (fun c12 => ?_))))))
         ·refine W_skip (W_seq (W_block (W_sr (sA rfl rfl (s_nil (W_block (W_loopS (γ := Nat) H14 [(1, _), (4, _)] ⟨rfl, rfl, trivial⟩ (fun k2 => [(5, .int .i64 k2)]) (fun k2 => k2 ≤ (z.Tapes.getD k default).Recs.length ∧ recsF z.Shape (z.Tapes.getD k default).Recs k2 = 0) (fun k2 => (z.Tapes.getD k default).Recs.length - k2) 0 ⟨rfl, trivial⟩ ⟨by omega, rfl⟩ (fun k2 w13 H15 ⟨hk2, hk2z⟩ => ?_))))))))
          dsimp only [lCA, lNA]
          refine W_seq (W_seq ?_)
          obtain ⟨eb9, eo19, es9, ef9, ee9, ec9, eO9, eH9, em9⟩ := elem_st (H15.seen 2 rfl) k (by omega)
          obtain ⟨ea11, ek11, eg11, rfl, eq9, eK9, eo20⟩ := own_Tape eO9
          have eP11 := H15.look1 2 rfl eo20 (fun b hb => eH9 b (by rw [eq9]; simp [hb]))
          have eL11 := oL eo20
          refine W_reg (sM rfl rfl (sV rfl (py_field tu38 rfl ts36 rfl rfl) (sV rfl (py_load tu36 rfl rfl (cell_atL (eP11.box 0 rfl) rfl)) (sM rfl rfl (sV rfl (py_elz tu36 ts139 rfl rfl ee9 k (by omega) (by omega)) (sV rfl (py_field tu139 rfl ts30 rfl rfl) (sV rfl (py_load tu30 rfl rfl (at_cell ec9 1 rfl)) (sV rfl (py_len tu30 rfl) (sV rfl (py_lss rfl rfl) (s_nil (W_ifd rfl (fun c13 => ?_) (fun c13 => ?_))))))))))))
          ·refine W_skip (W_seq (W_block (W_seq ?_)))
           obtain ⟨eb10, eo21, es10, ef10, ee10, ec10, eO10, eH10, em10⟩ := elem_st (eP11.seen 2 rfl) k (by omega)
           obtain ⟨ea12, ek12, eg12, rfl, eq10, eK10, eo22⟩ := own_Tape eO10
           have eP12 := eP11.look1 2 rfl eo22 (fun b hb => eH10 b (by rw [eq10]; simp [hb]))
           have eL12 := oL eo22
           obtain ⟨eb11, eo23, es11, ef11, ee11, ec11, eO11, eH11, em11⟩ := elem_st (eP12.seen 6 rfl) k2 (by omega)
           obtain ⟨ea13, ek13, ea14, ek14, ea15, ek15, eg13, eg14, eg15, rfl, eq11, eK11, eo24, eo25, eo26⟩ := own_Rec eO11
           have eK11U := eK11
           unfold Rec.Ok at eK11U
           try unfold I64ok at eK11U
           try unfold maxLen at eK11U
           have eP13 := eP12.look1 6 rfl eo24 (fun b hb => eH11 b (by rw [eq11]; simp [hb]))
           have eL13 := oL eo24
           have eP14 := eP13.look1 6 rfl eo25 (fun b hb => eH11 b (by rw [eq11]; simp [hb]))
           have eL14 := oL eo25
           have eP15 := eP14.look1 6 rfl eo26 (fun b hb => eH11 b (by rw [eq11]; simp [hb]))
           have eL15 := oL eo26
           refine W_drw (S := Ext No _) [(0, true), (1, true), (2, true), (3, true), (4, true), (5, true), (6, true), (7, true), (8, true), (9, true), (10, true), (11, false), (12, false)] (by kernel_rfl) (by kernel_rfl) (by kernel_rfl) rfl (fun _ => Ext.refl.drawn _) (fun q3 => ?_)
           have H16 := eP15.drawn q3
           refine dV rfl rfl (fun zw hx => py_field tu38 rfl ts34 rfl rfl) (dV rfl rfl (fun zw hx => py_loadS tu34 rfl ts34 rfl rfl (At.sub (hx.heap (H16.box 0 rfl)) 9)) (dV rfl rfl (fun zw hx => py_field tu38 rfl ts36 rfl rfl) (dV rfl rfl (fun zw hx => py_load tu36 rfl rfl (cell_atL (hx.heap (H16.box 0 rfl)) rfl)) (dM rfl rfl rfl (dV rfl rfl (fun zw hx => py_elz tu36 ts139 rfl rfl ee10 k (by omega) (by omega)) (dV rfl rfl (fun zw hx => py_field tu139 rfl ts30 rfl rfl) (dV rfl rfl (fun zw hx => py_load tu30 rfl rfl (at_cell (hx.at ec10) 1 rfl)) (dM rfl rfl rfl (dV rfl rfl (fun zw hx => py_elz tu30 ts68 rfl rfl ee11 k2 (by omega) (by omega)) (dV rfl rfl (fun zw hx => py_loadS tu68 rfl ts68 rfl rfl (hx.at ec11)) (d_call rfl (wn rfl) rfl rfl (pc_call Tryz.func112 rfl Tryz_nm112 rfl) (Tryz_spec_RecFault (by assumption) (H16.sees 7 rfl) (H16.sees 8 rfl) (H16.sees 9 rfl)) (fun hS _ _ r _ => hS.trans r.1.no) (fun v8 w14 r8 => ?_))))))))))))
           obtain ⟨e9, rfl⟩ := r8
           have H17 := H16.to e9
           refine d_end rfl (wn rfl) rfl rfl (py_assign rfl) (d_nil (W_sr (sM rfl rfl (sV rfl (py_neq rfl rfl) (s_nil (W_ifd rfl (fun c14 => ?_) (fun c14 => ?_)))))))
           ·refine W_sr (sM rfl rfl (sA rfl rfl (s_nil (rT hQ Tryz.results93 rfl ?_))))
            have tq := tapesF_rec hM (k := k) (k2 := k2) (by omega) hkz (by omega) hk2z (by omega)
            exact ⟨H17.ext, congrArg (Value.int .i64) ((if_neg (by omega)).trans (((if_neg (by omega)).trans ((if_pos hF).trans ((if_pos (by omega)).trans tq)))).symm)⟩
           ·refine W_skip (W_reg (sM rfl rfl (sV rfl (py_add rfl rfl (in64 ⟨by omega, by omega⟩)) (sA rfl rfl (s_nil (⟨k2 + 1, ⟨rfl, rfl, rfl, trivial⟩, ⟨(H17.ftake 5), by omega, (recsF_next hk2z).trans (by omega)⟩, by dsimp only; omega⟩))))))
          ·refine W_exit (W_reg (sM rfl rfl (sV rfl (py_add rfl rfl (in64 ⟨by omega, by omega⟩)) (sA rfl rfl (s_nil ?_)))))
           obtain rfl : k2 = (z.Tapes.getD k default).Recs.length := by omega
           refine ⟨k + 1, ⟨rfl, rfl, trivial⟩, ⟨(eP11.ftake 5), by omega, (tapeF_next hkz).trans hk2z⟩, by dsimp only; omega⟩
         ·refine W_exit (W_seq (W_seq ?_))
          obtain rfl : k = z.Tapes.length := by omega
          have hAll := hkz
          refine W_reg (sA rfl rfl (s_nil (W_block (W_loopS (γ := Nat) H14 [(1, _)] ⟨rfl, trivial⟩ (fun k => [(7, .int .i64 k)]) (fun k => k ≤ 2 ∧ (∀ i, i < k → wipedFull (z.Tapes.getD i default) = false)) (fun k => 2 - k) 0 ⟨rfl, trivial⟩ ⟨by omega, fun i hi => by omega⟩ (fun k w15 H18 ⟨hk, hek⟩ => ?_)))))
          dsimp only [lCA, lNA]
          refine W_seq (W_sr (sM rfl rfl (sV rfl (py_lss rfl rfl) (s_nil (W_ifd rfl (fun c15 => ?_) (fun c15 => ?_))))))
          ·refine W_skip (W_seq (W_block (W_seq ?_)))
           obtain ⟨eb12, eo27, es12, ef12, ee12, ec12, eO12, eH12, em12⟩ := elem_st (H18.seen 2 rfl) k (by omega)
           obtain ⟨ea16, ek16, eg16, rfl, eq12, eK12, eo28⟩ := own_Tape eO12
           have eP16 := H18.look1 2 rfl eo28 (fun b hb => eH12 b (by rw [eq12]; simp [hb]))
           have eL16 := oL eo28
           refine W_reg (sV rfl (py_field tu38 rfl ts36 rfl rfl) (sV rfl (py_load tu36 rfl rfl (cell_atL (eP16.box 0 rfl) rfl)) (sM rfl rfl (sV rfl (py_elz tu36 ts139 rfl rfl ee12 k (by omega) (by omega)) (sV rfl (py_field tu139 rfl ts4 rfl rfl) (sV rfl (py_load tu4 rfl rfl (at_cell ec12 0 rfl)) (sM rfl rfl (s_case (t := 108) rfl (fun hg10 => ?_) (fun hg10 => ?_)))))))))
           ·try simp only [decide_eq_true_eq, decide_eq_false_iff_not] at hg10
            refine s_val (wg rfl rfl rfl) rfl rfl (py_field tu38 rfl ts36 rfl rfl) (s_val (wg rfl rfl rfl) rfl rfl (py_load tu36 rfl rfl (cell_atL (eP16.box 0 rfl) rfl)) (s_val (wg rfl rfl rfl) rfl rfl (py_move rfl) (s_val (wg rfl rfl rfl) rfl rfl (py_elz tu36 ts139 rfl rfl ee12 k (by omega) (by omega)) (s_val (wg rfl rfl rfl) rfl rfl (py_field tu139 rfl ts30 rfl rfl) (s_val (wg rfl rfl rfl) rfl rfl (py_load tu30 rfl rfl (at_cell ec12 1 rfl)) (s_val (wg rfl rfl rfl) rfl rfl (py_len tu30 rfl) (s_val (wg rfl rfl rfl) rfl rfl (py_gtr rfl rfl) (sV rfl (py_pickT rfl rfl) (s_nil (W_ifd rfl (fun c16 => ?_) (fun c16 => ?_)))))))))))
            ·refine W_sr (sA rfl rfl (s_nil (rT hQ Tryz.results93 rfl ?_)))
             have tq := tapesF_full hM hAll (any_at k (by omega) (by rw [wipedFull]; simp_all <;> omega))
             exact ⟨eP16.ext, congrArg (Value.int .i64) ((if_neg (by omega)).trans ((if_pos hF).trans ((if_pos (by omega)).trans tq))).symm⟩
            ·refine W_skip (W_reg (sM rfl rfl (sV rfl (py_add rfl rfl (in64 ⟨by omega, by omega⟩)) (sA rfl rfl (s_nil (⟨k + 1, ⟨rfl, rfl, trivial⟩, ⟨(eP16.ftake 5), by omega, fun i hi => ?_⟩, by dsimp only; omega⟩))))))
             by_cases e : i = k
             ·subst e; rw [wipedFull]; simp_all <;> omega
             ·exact hek i (by omega)
           ·try simp only [decide_eq_true_eq, decide_eq_false_iff_not] at hg10
            refine sKf rfl rfl rfl (sKf rfl rfl rfl (sKf rfl rfl rfl (sKf rfl rfl rfl (sKf rfl rfl rfl (sKf rfl rfl rfl (sKf rfl rfl rfl (sKf rfl rfl rfl (sV rfl (py_pickF rfl rfl) (s_nil (W_iff rfl (W_skip (W_reg (sM rfl rfl (sV rfl (py_add rfl rfl (in64 ⟨by omega, by omega⟩)) (sA rfl rfl (s_nil (⟨k + 1, ⟨rfl, rfl, trivial⟩, ⟨(eP16.ftake 5), by omega, fun i hi => ?_⟩, by dsimp only; omega⟩)))))))))))))))))
            by_cases e : i = k
            ·subst e; rw [wipedFull]; simp_all <;> omega
            ·exact hek i (by omega)
          ·refine W_exit (W_seq (W_seq ?_))
           have tq := tapesF_ok hM hAll (any_none (fun i hi => hek i (by omega)))
           refine W_reg (sV rfl (py_field tu38 rfl ts2 rfl rfl) (sV rfl (py_load tu2 rfl rfl (cell_atL (H18.box 0 rfl) rfl)) (s_call (wn rfl) rfl rfl (pc_call Tryz.func97 rfl Tryz_nm97 rfl) Tryz_spec_l1In (fun v9 w16 r9 => ?_))))
           obtain ⟨e10, rfl⟩ := r9
           have H19 := H18.to e10
           refine sV rfl (py_not rfl) (sM rfl rfl (s_case (t := 122) rfl (fun hg11 => ?_) (fun hg11 => ?_)))
           ·try simp only [decide_eq_true_eq, decide_eq_false_iff_not] at hg11
            refine sKt rfl rfl rfl (sKt rfl rfl rfl (sKt rfl rfl rfl (sKt rfl rfl rfl (sV rfl (py_pickT rfl rfl) (s_nil (W_ift rfl (W_sr (sA rfl rfl (s_nil (rT hQ Tryz.results93 rfl ?_))))))))))
            exact ⟨H19.ext, congrArg (Value.int .i64) ((if_neg (by omega)).trans ((if_pos hF).trans ((if_neg (by omega)).trans (if_neg (by simp_all <;> omega))))).symm⟩
           ·try simp only [decide_eq_true_eq, decide_eq_false_iff_not] at hg11
            refine s_val (wg rfl rfl rfl) rfl rfl (py_field tu38 rfl ts2 rfl rfl) (s_val (wg rfl rfl rfl) rfl rfl (py_load tu2 rfl rfl (cell_atL (H19.box 0 rfl) rfl)) (s_call (wg rfl rfl rfl) rfl rfl (pc_call Tryz.func97 rfl Tryz_nm97 rfl) Tryz_spec_l1In (fun v10 w17 r10 => ?_)))
            obtain ⟨e11, rfl⟩ := r10
            have H20 := H19.to e11
            refine s_val (wg rfl rfl rfl) rfl rfl (py_not rfl) (sV rfl (py_pickF rfl rfl) (s_nil (W_if rfl (fun c17 => ?_) (fun c17 => ?_))))
            ·refine W_sr (sA rfl rfl (s_nil (rT hQ Tryz.results93 rfl ?_)))
             exact ⟨H20.ext, congrArg (Value.int .i64) ((if_neg (by omega)).trans ((if_pos hF).trans ((if_neg (by omega)).trans (if_neg (by simp_all <;> omega))))).symm⟩
            ·refine W_skip (W_sr (sA rfl rfl (s_nil (rT hQ Tryz.results93 rfl ?_))))
             exact ⟨H20.ext, congrArg (Value.int .i64) ((if_neg (by omega)).trans ((if_pos hF).trans ((if_neg (by omega)).trans (if_pos (by simp_all <;> omega))))).symm⟩
end Go.Wk
namespace Go.Wk
open Go.Proofs Rp
set_option maxRecDepth 10000
theorem Tryz_impl_World_wiped {w : World} {zb zC9 zC10 zC11 : Nat} {z : Wld} {zA9 zA10 zA11 : Option Addr} {g : Int} (zB : w.heap[zb]? = some (.cells [.int .i64 z.Shape.Groups, .int .i64 z.Shape.Column, .int .i64 z.Shape.Data, .int .i64 z.Shape.Spare, .int .i64 z.Shape.Rows, .int .i64 z.Shape.Cap, .int .i64 z.Shape.Batch, .int .i64 z.Shape.Queue, .int .i64 z.Shape.Stage, .slice zA9 z.Groups.length zC9, .slice zA10 z.On.length zC10, .slice zA11 z.Tapes.length zC11, .int .i64 z.Writes, .int .i64 z.Stop, .bool z.Down].toArray 38)) (zK : z.Ok) (zS9 : Sees w [.slice zA9 z.Groups.length zC9] z.Groups) (zS10 : Sees w [.slice zA10 z.On.length zC10] z.On) (zS11 : Sees w [.slice zA11 z.Tapes.length zC11] z.Tapes) (hs : z.Shape.ok = true) (hG : groupsOK z = true) (hg : ins g 0 (z.Shape.Groups + z.Shape.Column - 1) = true) : Ret Tryz.prog 174 #[.pointer (some ⟨zb, 0, none⟩), .int .i64 g] w fun v w' => Ext No w w' ∧ (Res w w' [v] (wipedL z g)) := by
 have zK2 := zK
 unfold Wld.Ok Shape.Ok at zK2
 try unfold I64ok at zK2
 try unfold maxLen at zK2
 have zL9 := sL zS9
 obtain ⟨zF9, zO9⟩ := zS9
 have zL10 := sL zS10
 obtain ⟨zF10, zO10⟩ := zS10
 have zL11 := sL zS11
 obtain ⟨zF11, zO11⟩ := zS11
 have sbd := shape_bd hs
 have hgg := groups_get hG
 have hgl := hgg.1
 have hgi := ins_iff.1 hg
 obtain ⟨hdl, hdd⟩ := hgg.2 g.toNat (by omega)
 refine ret_Q (vs := [.pointer (some ⟨zb, 0, none⟩), .int .i64 g]) Tryz.func174 rfl Tryz.ntmps174 rfl (fun Q hQ hN => ?_)
 have H0 := Sep.start (w := w) (F := [box zb (.cells [.int .i64 z.Shape.Groups, .int .i64 z.Shape.Column, .int .i64 z.Shape.Data, .int .i64 z.Shape.Spare, .int .i64 z.Shape.Rows, .int .i64 z.Shape.Cap, .int .i64 z.Shape.Batch, .int .i64 z.Shape.Queue, .int .i64 z.Shape.Stage, .slice zA9 z.Groups.length zC9, .slice zA10 z.On.length zC10, .slice zA11 z.Tapes.length zC11, .int .i64 z.Writes, .int .i64 z.Stop, .bool z.Down].toArray 38), seen false [.slice zA9 z.Groups.length zC9] z.Groups zF9, seen false [.slice zA10 z.On.length zC10] z.On zF10, seen false [.slice zA11 z.Tapes.length zC11] z.Tapes zF11]) (all_cons (by exact zB) (all_cons zO9 (all_cons zO10 (all_cons zO11 (by simp)))))
 refine W_sr (sA rfl rfl (s_nil (W_sr (s_lit0 (α := Int) (wn rfl) rfl tu25 Tryz_ty2 H0 (fun b1 w1 e1 g1 H1 => ?_)))))
 refine sA rfl rfl (s_nil (W_seq (W_seq ?_)))
 obtain ⟨eb1, eo1, ea1, ek1, ef1, ee1, ec1, eO1, eH1⟩ := elem_sl (H1.seen 1 rfl) g.toNat (by omega)
 have eP1 := H1.look1 1 rfl eO1 eH1
 refine W_reg (sM rfl rfl (sV rfl (py_nil rfl) (sV rfl (py_field tu38 rfl ts35 rfl rfl) (sV rfl (py_load tu35 rfl rfl (cell_atL (eP1.fbox 0 rfl) rfl)) (sM rfl rfl (sV rfl (py_elz tu35 ts142 rfl rfl ee1 g.toNat (by omega) (by omega)) (sV rfl (py_load tu142 rfl rfl ec1) (sV rfl (py_len tu142 rfl) (sM rfl rfl (s_nil (W_block (W_loopA (α := Int) (γ := Nat) (fun k => wipedTo (z.Groups.getD g.toNat []) k) 0 eP1 0 rfl 5 rfl [(4, _), (15, _), (16, _)] ⟨rfl, rfl, rfl, trivial⟩ (fun k => [(17, .int .i64 k)]) (fun k => k ≤ (z.Groups.getD g.toNat []).length ∧ True) (fun k => (z.Groups.getD g.toNat []).length - k) ⟨rfl, trivial⟩ ⟨by omega, trivial⟩ (fun k vA1 fA1 w2 H2 ⟨hk, _⟩ => ?_)))))))))))))
 dsimp only [lCA, lNA, lSZ, lSS] at H2 ⊢
 refine W_sr (sV rfl (py_lss rfl rfl) (s_nil (W_seq (W_ifd rfl (fun c1 => ?_) (fun c1 => ?_)))))
 ·refine W_skip (W_seq (W_block (W_seq ?_)))
  obtain ⟨eb2, eo2, es1, ef2, ee2, ec2, eO2, eH2, em1⟩ := elem_st (H2.seen 4 rfl) k (by omega)
  obtain ⟨ea2, ek2, eg1, rfl, eq1, eK1, eo3⟩ := own_Drive eO2
  have eP2 := H2.look1 4 rfl eo3 (fun b hb => eH2 b (by rw [eq1]; simp [hb]))
  have eL1 := oL eo3
  refine W_reg (sM rfl rfl (sV rfl (py_elz tu142 ts180 rfl rfl ee2 k (by omega) (by omega)) (sV rfl (py_loadS tu180 rfl ts180 rfl rfl ec2) (s_var (wn rfl) rfl Tryz.zeroValue180 eP2 (fun b2 w3 e2 g2 H3 => ?_)))))
  refine sA rfl rfl (s_stoS (wn rfl) ts180 rfl rfl rfl rfl H3 1 rfl rfl (fun w4 e3 H4 => ?_))
  dsimp only [lNA, lCA, lSZ, lSS, layL] at H4
  refine s_nil (W_sr (sV rfl (py_field tu180 rfl ts4 rfl rfl) (sV rfl (py_load tu4 rfl rfl (cell_atL (H4.box 1 rfl) rfl)) (s_nil (W_if rfl (fun c2 => ?_) (fun c2 => ?_))))))
  ·have wl := wiped_len (G := (z.Groups.getD g.toNat [])) (k := k)
   refine W_reg (sM rfl rfl (sM rfl rfl (s_lit1 (wn rfl) rfl tu25 Tryz_ty2 rfl rfl rfl rfl H4 (fun b3 w5 e4 g3 H5 => ?_))))
   refine s_app1 (wn rfl) rfl tu25 Tryz_ty2 rfl rfl rfl H5 0 2 rfl rfl (own_bi (by first | assumption | (unfold I64ok; omega))) (by unfold maxLen; omega) (by omega) (fun v1 w6 fp1 H6 => ?_)
   refine sA rfl rfl (s_nil (W_reg (sV rfl (py_add rfl rfl (in64 ⟨by omega, by omega⟩)) (sM rfl rfl (s_nil ?_)))))
   rw [← wiped_yes c2] at H6
   exact ⟨(k + 1, _, _), ⟨rfl, rfl, rfl, rfl, rfl, trivial⟩, ⟨((H6.ftake 5).dtake 1), by omega, trivial⟩, by dsimp only; omega⟩
  ·refine W_skip (W_reg (sV rfl (py_add rfl rfl (in64 ⟨by omega, by omega⟩)) (sM rfl rfl (s_nil ?_))))
   rw [← wiped_no c2] at H4
   exact ⟨(k + 1, _, _), ⟨rfl, rfl, rfl, rfl, rfl, trivial⟩, ⟨((H4.ftake 5).dtake 1), by omega, trivial⟩, by dsimp only; omega⟩
 ·refine W_exit (W_sr (sM rfl rfl (sA rfl rfl (s_nil (rT hQ Tryz.results174 rfl ?_)))))
  obtain rfl : k = (z.Groups.getD g.toNat []).length := by omega
  exact ⟨H2.ext, H2.out 0 rfl⟩
theorem Tryz_impl_World_dead {w : World} {zb zC9 zC10 zC11 : Nat} {z : Wld} {zA9 zA10 zA11 : Option Addr} {g : Int} (zB : w.heap[zb]? = some (.cells [.int .i64 z.Shape.Groups, .int .i64 z.Shape.Column, .int .i64 z.Shape.Data, .int .i64 z.Shape.Spare, .int .i64 z.Shape.Rows, .int .i64 z.Shape.Cap, .int .i64 z.Shape.Batch, .int .i64 z.Shape.Queue, .int .i64 z.Shape.Stage, .slice zA9 z.Groups.length zC9, .slice zA10 z.On.length zC10, .slice zA11 z.Tapes.length zC11, .int .i64 z.Writes, .int .i64 z.Stop, .bool z.Down].toArray 38)) (zK : z.Ok) (zS9 : Sees w [.slice zA9 z.Groups.length zC9] z.Groups) (zS10 : Sees w [.slice zA10 z.On.length zC10] z.On) (zS11 : Sees w [.slice zA11 z.Tapes.length zC11] z.Tapes) (hs : z.Shape.ok = true) (hG : groupsOK z = true) (hg : ins g 0 (z.Shape.Groups + z.Shape.Column - 1) = true) : Ret Tryz.prog 101 #[.pointer (some ⟨zb, 0, none⟩), .int .i64 g] w fun v w' => Ext No w w' ∧ (v = .bool (deadF z g)) := by
 have zK2 := zK
 unfold Wld.Ok Shape.Ok at zK2
 try unfold I64ok at zK2
 try unfold maxLen at zK2
 have zL9 := sL zS9
 obtain ⟨zF9, zO9⟩ := zS9
 have zL10 := sL zS10
 obtain ⟨zF10, zO10⟩ := zS10
 have zL11 := sL zS11
 obtain ⟨zF11, zO11⟩ := zS11
 have sbd := shape_bd hs
 refine ret_Q (vs := [.pointer (some ⟨zb, 0, none⟩), .int .i64 g]) Tryz.func101 rfl Tryz.ntmps101 rfl (fun Q hQ hN => ?_)
 have H0 := Sep.start (w := w) (F := [box zb (.cells [.int .i64 z.Shape.Groups, .int .i64 z.Shape.Column, .int .i64 z.Shape.Data, .int .i64 z.Shape.Spare, .int .i64 z.Shape.Rows, .int .i64 z.Shape.Cap, .int .i64 z.Shape.Batch, .int .i64 z.Shape.Queue, .int .i64 z.Shape.Stage, .slice zA9 z.Groups.length zC9, .slice zA10 z.On.length zC10, .slice zA11 z.Tapes.length zC11, .int .i64 z.Writes, .int .i64 z.Stop, .bool z.Down].toArray 38), seen false [.slice zA9 z.Groups.length zC9] z.Groups zF9, seen false [.slice zA10 z.On.length zC10] z.On zF10, seen false [.slice zA11 z.Tapes.length zC11] z.Tapes zF11]) (all_cons (by exact zB) (all_cons zO9 (all_cons zO10 (all_cons zO11 (by simp)))))
 refine W_sr (sA rfl rfl (s_nil (W_seq (W_drw (S := Ext No _) [(0, true), (1, true), (4, true), (5, true), (6, true), (7, true), (8, true), (2, false), (3, false), (9, true), (10, false)] (by kernel_rfl) (by kernel_rfl) (by kernel_rfl) rfl (fun _ => Ext.refl.drawn _) (fun q1 => ?_)))))
 have H1 := H0.drawn q1
 refine dM rfl rfl rfl (dM rfl rfl rfl (dM rfl rfl rfl (dV rfl rfl (fun zw hx => py_nil rfl) (dV rfl rfl (fun zw hx => py_field tu38 rfl ts34 rfl rfl) (dV rfl rfl (fun zw hx => py_field tu34 rfl ts2 rfl rfl) (dV rfl rfl (fun zw hx => py_load tu2 rfl rfl (cell_atL (hx.heap (H1.fbox 0 rfl)) rfl)) (d_call rfl (wn rfl) rfl rfl (pc_call Tryz.func174 rfl Tryz_nm174 rfl) (Tryz_impl_World_wiped (H1.fbox 0 rfl) (by assumption) (H1.sees 1 rfl) (H1.sees 2 rfl) (H1.sees 3 rfl) (by assumption) (by assumption) (by assumption)) (fun hS _ _ r _ => hS.trans r.1.no) (fun v1 w1 r1 => ?_))))))))
 obtain ⟨e1, r1⟩ := r1
 obtain ⟨fp1, H2⟩ := H1.res e1 r1
 obtain ⟨a1, k1, q2⟩ := own_slice (H2.mine 0 rfl)
 cases q2
 refine d_call rfl (wn rfl) rfl rfl (pc_call Tryz.func173 rfl Tryz_nm173 rfl) (Tryz_size_int64 (H2.msees 0 rfl)) (fun hS _ _ r _ => hS.trans r.1.no) (fun v2 w2 r2 => ?_)
 obtain ⟨e2, rfl⟩ := r2
 have H3 := H2.to e2
 refine dV rfl rfl (fun zw hx => py_gtr rfl rfl) (d_end rfl (wn rfl) rfl rfl (py_assign rfl) (d_nil (rT hQ Tryz.results101 rfl ?_)))
 exact ⟨H3.ext, rfl⟩
theorem Tryz_spec_l7Dead {w : World} {zb zC9 zC10 zC11 : Nat} {z : Wld} {zA9 zA10 zA11 : Option Addr} {g : Int} (zB : w.heap[zb]? = some (.cells [.int .i64 z.Shape.Groups, .int .i64 z.Shape.Column, .int .i64 z.Shape.Data, .int .i64 z.Shape.Spare, .int .i64 z.Shape.Rows, .int .i64 z.Shape.Cap, .int .i64 z.Shape.Batch, .int .i64 z.Shape.Queue, .int .i64 z.Shape.Stage, .slice zA9 z.Groups.length zC9, .slice zA10 z.On.length zC10, .slice zA11 z.Tapes.length zC11, .int .i64 z.Writes, .int .i64 z.Stop, .bool z.Down].toArray 38)) (zK : z.Ok) (zS9 : Sees w [.slice zA9 z.Groups.length zC9] z.Groups) (zS10 : Sees w [.slice zA10 z.On.length zC10] z.On) (zS11 : Sees w [.slice zA11 z.Tapes.length zC11] z.Tapes) (hs : z.Shape.ok = true) (hG : groupsOK z = true) (hg : ins g 0 (z.Shape.Groups + z.Shape.Column - 1) = true) : Ret Tryz.prog 158 #[.pointer (some ⟨zb, 0, none⟩), .int .i64 g] w fun v w' => Ext No w w' ∧ (v = .bool (deadF z g)) := by
 have zK2 := zK
 unfold Wld.Ok Shape.Ok at zK2
 try unfold I64ok at zK2
 try unfold maxLen at zK2
 have zL9 := sL zS9
 obtain ⟨zF9, zO9⟩ := zS9
 have zL10 := sL zS10
 obtain ⟨zF10, zO10⟩ := zS10
 have zL11 := sL zS11
 obtain ⟨zF11, zO11⟩ := zS11
 have sbd := shape_bd hs
 have hgg := groups_get hG
 have hgl := hgg.1
 have hgi := ins_iff.1 hg
 obtain ⟨hdl, hdd⟩ := hgg.2 g.toNat (by omega)
 refine ret_Q (vs := [.pointer (some ⟨zb, 0, none⟩), .int .i64 g]) Tryz.func158 rfl Tryz.ntmps158 rfl (fun Q hQ hN => ?_)
 have H0 := Sep.start (w := w) (F := [box zb (.cells [.int .i64 z.Shape.Groups, .int .i64 z.Shape.Column, .int .i64 z.Shape.Data, .int .i64 z.Shape.Spare, .int .i64 z.Shape.Rows, .int .i64 z.Shape.Cap, .int .i64 z.Shape.Batch, .int .i64 z.Shape.Queue, .int .i64 z.Shape.Stage, .slice zA9 z.Groups.length zC9, .slice zA10 z.On.length zC10, .slice zA11 z.Tapes.length zC11, .int .i64 z.Writes, .int .i64 z.Stop, .bool z.Down].toArray 38), seen false [.slice zA9 z.Groups.length zC9] z.Groups zF9, seen false [.slice zA10 z.On.length zC10] z.On zF10, seen false [.slice zA11 z.Tapes.length zC11] z.Tapes zF11]) (all_cons (by exact zB) (all_cons zO9 (all_cons zO10 (all_cons zO11 (by simp)))))
 refine W_sr (sA rfl rfl (s_nil (W_sr (sA rfl rfl (s_nil (W_seq (W_sr (sA rfl rfl (s_nil (W_block (W_loopS (γ := Nat) H0 [(0, _), (1, _), (4, _)] ⟨rfl, rfl, rfl, trivial⟩ (fun k => [(5, .int .i64 ((wipedTo (z.Groups.getD g.toNat []) k).length : Nat)), (6, .int .i64 k)]) (fun k => k ≤ (z.Groups.getD g.toNat []).length ∧ True) (fun k => (z.Groups.getD g.toNat []).length - k) 0 ⟨rfl, rfl, trivial⟩ ⟨by omega, trivial⟩ (fun k w1 H1 ⟨hk, _⟩ => ?_))))))))))))
 dsimp only [lCA, lNA]
 refine W_seq (W_seq ?_)
 obtain ⟨eb1, eo1, ea1, ek1, ef1, ee1, ec1, eO1, eH1⟩ := elem_sl (H1.seen 1 rfl) g.toNat (by omega)
 have eP1 := H1.look1 1 rfl eO1 eH1
 refine W_reg (sM rfl rfl (sM rfl rfl (sV rfl (py_nil rfl) (sV rfl (py_field tu38 rfl ts35 rfl rfl) (sV rfl (py_load tu35 rfl rfl (cell_atL (eP1.fbox 0 rfl) rfl)) (sM rfl rfl (sV rfl (py_elz tu35 ts142 rfl rfl ee1 g.toNat (by omega) (by omega)) (sV rfl (py_load tu142 rfl rfl ec1) (sV rfl (py_len tu142 rfl) (sV rfl (py_lss rfl rfl) (s_nil (W_ifd rfl (fun c1 => ?_) (fun c1 => ?_)))))))))))))
 ·refine W_skip (W_seq (W_block (W_seq ?_)))
  obtain ⟨eb2, eo2, ea2, ek2, ef2, ee2, ec2, eO2, eH2⟩ := elem_sl (eP1.seen 1 rfl) g.toNat (by omega)
  have eP2 := eP1.look1 1 rfl eO2 eH2
  obtain ⟨eb3, eo3, es1, ef3, ee3, ec3, eO3, eH3, em1⟩ := elem_st (eP2.seen 5 rfl) k (by omega)
  obtain ⟨ea3, ek3, eg1, rfl, eq1, eK1, eo4⟩ := own_Drive eO3
  have eP3 := eP2.look1 5 rfl eo4 (fun b hb => eH3 b (by rw [eq1]; simp [hb]))
  have eL1 := oL eo4
  refine W_reg (sM rfl rfl (sV rfl (py_nil rfl) (sV rfl (py_field tu38 rfl ts35 rfl rfl) (sV rfl (py_load tu35 rfl rfl (cell_atL (eP3.fbox 0 rfl) rfl)) (sM rfl rfl (sV rfl (py_elz tu35 ts142 rfl rfl ee2 g.toNat (by omega) (by omega)) (sV rfl (py_load tu142 rfl rfl ec2) (sM rfl rfl (sV rfl (py_elz tu142 ts180 rfl rfl ee3 k (by omega) (by omega)) (sV rfl (py_field tu180 rfl ts4 rfl rfl) (sV rfl (py_load tu4 rfl rfl (at_cell ec3 0 rfl)) (s_nil (W_if rfl (fun c2 => ?_) (fun c2 => ?_))))))))))))))
  ·have wl := wiped_len (G := (z.Groups.getD g.toNat [])) (k := k)
   refine W_reg (sM rfl rfl (sV rfl (py_add rfl rfl (in64 ⟨by omega, by omega⟩)) (sA rfl rfl (s_nil (W_reg (sM rfl rfl (sV rfl (py_add rfl rfl (in64 ⟨by omega, by omega⟩)) (sA rfl rfl (s_nil ?_)))))))))
   have wq := wiped_yes c2
   exact ⟨k + 1, ⟨eqI (by rw [wq]; simp), rfl, rfl, rfl, rfl, trivial⟩, ⟨(eP3.ftake 4), by omega, trivial⟩, by dsimp only; omega⟩
  ·refine W_skip (W_reg (sM rfl rfl (sV rfl (py_add rfl rfl (in64 ⟨by omega, by omega⟩)) (sA rfl rfl (s_nil ?_)))))
   have wq := wiped_no c2
   exact ⟨k + 1, ⟨eqI (by rw [wq]), rfl, rfl, rfl, rfl, trivial⟩, ⟨(eP3.ftake 4), by omega, trivial⟩, by dsimp only; omega⟩
 ·refine W_exit (W_sr (sM rfl rfl (sM rfl rfl (sV rfl (py_nil rfl) (sV rfl (py_field tu38 rfl ts34 rfl rfl) (sV rfl (py_field tu34 rfl ts2 rfl rfl) (sV rfl (py_load tu2 rfl rfl (cell_atL (eP1.fbox 0 rfl) rfl)) (sV rfl (py_gtr rfl rfl) (sA rfl rfl (s_nil (rT hQ Tryz.results158 rfl ?_)))))))))))
  obtain rfl : k = (z.Groups.getD g.toNat []).length := by omega
  exact ⟨eP1.ext, rfl⟩
end Go.Wk
namespace Go.Wk
open Go.Proofs Rp
set_option maxRecDepth 10000
theorem Tryz_impl_MulG {w : World} {a : UInt8} {b : UInt8}  : Ret Tryz.prog 333 #[.int .u8 a.toNat, .int .u8 b.toNat] w fun v w' => Ext No w w' ∧ (v = .int .u8 (mulG a b).toNat) := by
 refine ret_Q (vs := [.int .u8 a.toNat, .int .u8 b.toNat]) Tryz.func333 rfl Tryz.ntmps333 rfl (fun Q hQ hN => ?_)
 have H0 := Sep.start (w := w) (F := []) (by simp)
 refine W_sr (sA rfl rfl (s_nil (W_sr (sA rfl rfl (s_nil (W_seq (W_block (W_loop (γ := UInt8 × UInt8 × UInt8) (fun (x, y, o) => [(0, .int .u8 x.toNat), (1, .int .u8 y.toNat), (5, .int .u8 o.toNat)]) (fun (x, y, o) w' => Sep No w [] [] w' ∧ mulR 8 x y o = mulG a b) (fun (x, y, o) => y.toNat) (a, b, 0) ⟨rfl, rfl, rfl, trivial⟩ ⟨H0, rfl⟩ (fun (x, y, o) w1 H1 => ?_)))))))))
 obtain ⟨H1, hI⟩ := H1
 refine W_seq (W_sr (sM rfl rfl (sV rfl (py_gtr rfl rfl) (s_nil (W_ifd rfl (fun c1 => ?_) (fun c1 => ?_))))))
 ·refine W_skip (W_seq (W_block (W_seq (W_sr (sM rfl rfl (sV rfl (py_and8 (b := 1) rfl rfl) (sV rfl (py_eql rfl rfl) (s_nil (W_ifd rfl (fun c2 => ?_) (fun c2 => ?_))))))))))
  ·refine W_reg (sM rfl rfl (sM rfl rfl (sV rfl (py_xor8 rfl rfl) (sA rfl rfl (s_nil (W_sr (sM rfl rfl (sV rfl (py_and8 (b := 128) rfl rfl) (sV rfl (py_neq rfl rfl) (s_nil (W_ifd rfl (fun c3 => ?_) (fun c3 => ?_))))))))))))
   ·refine W_reg (sM rfl rfl (sV rfl (py_shl8 (k := 1) (by omega) rfl rfl) (sV rfl (py_xor8 (b := 29) rfl rfl) (sA rfl rfl (s_nil (W_reg (sM rfl rfl (sV rfl (py_shr8 (k := 1) rfl rfl) (sA rfl rfl (s_nil (⟨(_, _, _), ⟨rfl, rfl, rfl, trivial⟩, ⟨H1, ?_⟩, ?_⟩)))))))))))
    ·rw [← hI, mulR_round x y o, xt, if_neg (fun e => c3 ((u8_inj (b := 0)).2 e)), if_pos ((u8_inj (b := 1)).1 c2)]
    ·dsimp only
     rw [shrN_toNat]
     omega
   ·refine W_reg (sM rfl rfl (sV rfl (py_shl8 (k := 1) (by omega) rfl rfl) (sA rfl rfl (s_nil (W_reg (sM rfl rfl (sV rfl (py_shr8 (k := 1) rfl rfl) (sA rfl rfl (s_nil (⟨(_, _, _), ⟨rfl, rfl, rfl, trivial⟩, ⟨H1, ?_⟩, ?_⟩))))))))))
    ·rw [← hI, mulR_round x y o, xt, if_pos (u8_zero (by omega)), if_pos ((u8_inj (b := 1)).1 c2)]
    ·dsimp only
     rw [shrN_toNat]
     omega
  ·refine W_skip (W_sr (sM rfl rfl (sV rfl (py_and8 (b := 128) rfl rfl) (sV rfl (py_neq rfl rfl) (s_nil (W_ifd rfl (fun c4 => ?_) (fun c4 => ?_)))))))
   ·refine W_reg (sM rfl rfl (sV rfl (py_shl8 (k := 1) (by omega) rfl rfl) (sV rfl (py_xor8 (b := 29) rfl rfl) (sA rfl rfl (s_nil (W_reg (sM rfl rfl (sV rfl (py_shr8 (k := 1) rfl rfl) (sA rfl rfl (s_nil (⟨(_, _, _), ⟨rfl, rfl, rfl, trivial⟩, ⟨H1, ?_⟩, ?_⟩)))))))))))
    ·rw [← hI, mulR_round x y o, xt, if_neg (fun e => c4 ((u8_inj (b := 0)).2 e)), if_neg (fun e => c2 ((u8_inj (b := 1)).2 e))]
    ·dsimp only
     rw [shrN_toNat]
     omega
   ·refine W_reg (sM rfl rfl (sV rfl (py_shl8 (k := 1) (by omega) rfl rfl) (sA rfl rfl (s_nil (W_reg (sM rfl rfl (sV rfl (py_shr8 (k := 1) rfl rfl) (sA rfl rfl (s_nil (⟨(_, _, _), ⟨rfl, rfl, rfl, trivial⟩, ⟨H1, ?_⟩, ?_⟩))))))))))
    ·rw [← hI, mulR_round x y o, xt, if_pos (u8_zero (by omega)), if_neg (fun e => c2 ((u8_inj (b := 1)).2 e))]
    ·dsimp only
     rw [shrN_toNat]
     omega
 ·refine W_exit (W_sr (sM rfl rfl (sA rfl rfl (s_nil (rT hQ Tryz.results333 rfl ?_)))))
  obtain rfl : y = 0 := u8_zero (by omega)
  exact ⟨H1.ext, by rw [← hI, mulR_zero]⟩
theorem Tryz_spec_MulG {w : World} {a : UInt8} {b : UInt8}  : Ret Tryz.prog 276 #[.int .u8 a.toNat, .int .u8 b.toNat] w fun v w' => Ext No w w' ∧ (v = .int .u8 (mulG a b).toNat) := by
 have al := a.toNat_lt
 refine ret_Q (vs := [.int .u8 a.toNat, .int .u8 b.toNat]) Tryz.func276 rfl Tryz.ntmps276 rfl (fun Q hQ hN => ?_)
 have H0 := Sep.start (w := w) (F := []) (by simp)
 refine W_sr (sA rfl rfl (s_nil (W_sr (sA rfl rfl (s_nil (W_sr (sM rfl rfl (sV rfl (py_conv tu5 tu3 rfl (in64 ⟨by omega, by omega⟩)) (sA rfl rfl (s_nil (W_seq (W_sr (sA rfl rfl (s_nil (W_block (W_loop (γ := Nat × UInt8 × UInt8) (fun (k, x, o) => [(1, .int .u8 b.toNat), (5, .int .i64 o.toNat), (6, .int .i64 x.toNat), (7, .int .i64 k)]) (fun (k, x, o) w' => Sep No w [] [] w' ∧ k ≤ 8 ∧ mulR (8 - k) x (shrN b k) o = mulG a b) (fun (k, x, o) => 8 - k) (0, a, 0) ⟨rfl, rfl, rfl, rfl, trivial⟩ ⟨H0, by omega, by rw [shrN_zero]; rfl⟩ (fun (k, x, o) w1 H1 => ?_)))))))))))))))))
 obtain ⟨H1, hk, hI⟩ := H1
 refine W_seq (W_sr (sM rfl rfl (sV rfl (py_lss rfl rfl) (s_nil (W_ifd rfl (fun c1 => ?_) (fun c1 => ?_))))))
 ·refine W_skip (W_seq (W_block (W_seq (W_sr (sM rfl rfl (sM rfl rfl (sV rfl (py_conv tu3 tu237 rfl (inu64 (by omega))) (sV rfl (py_shr8 (k := k) rfl rfl) (sV rfl (py_and8 (b := 1) rfl rfl) (sV rfl (py_eql rfl rfl) (s_nil (W_ifd rfl (fun c2 => ?_) (fun c2 => ?_)))))))))))))
  ·refine W_reg (sM rfl rfl (sM rfl rfl (sV rfl (py_xorI o x rfl rfl) (sA rfl rfl (s_nil (W_seq ?_))))))
   have xl := x.toNat_lt
   refine W_reg (sM rfl rfl (sV rfl (py_mul rfl rfl (in64 ⟨by omega, by omega⟩)) (sA rfl rfl (s_nil (W_sr (sM rfl rfl (sV rfl (py_gtr rfl rfl) (s_nil (W_ifd rfl (fun c3 => ?_) (fun c3 => ?_))))))))))
   ·refine W_reg (sM rfl rfl (sV rfl (py_xor rfl rfl) (sA rfl rfl (s_nil (W_reg (sM rfl rfl (sV rfl (py_add rfl rfl (in64 ⟨by omega, by omega⟩)) (sA rfl rfl (s_nil (⟨(k + 1, xt x, _), ⟨rfl, rfl, eqI (xt_big x (by omega)), rfl, trivial⟩, ⟨H1, by omega, ?_⟩, by dsimp only; omega⟩))))))))))
    rw [mulR_next (k := k) (by omega) x b o, if_pos (u8_one c2)] at hI
    exact hI
   ·refine W_skip (W_reg (sM rfl rfl (sV rfl (py_add rfl rfl (in64 ⟨by omega, by omega⟩)) (sA rfl rfl (s_nil (⟨(k + 1, xt x, _), ⟨rfl, rfl, eqI (xt_small x (by omega)), rfl, trivial⟩, ⟨H1, by omega, ?_⟩, by dsimp only; omega⟩))))))
    rw [mulR_next (k := k) (by omega) x b o, if_pos (u8_one c2)] at hI
    exact hI
  ·refine W_skip (W_seq ?_)
   have xl := x.toNat_lt
   refine W_reg (sM rfl rfl (sV rfl (py_mul rfl rfl (in64 ⟨by omega, by omega⟩)) (sA rfl rfl (s_nil (W_sr (sM rfl rfl (sV rfl (py_gtr rfl rfl) (s_nil (W_ifd rfl (fun c4 => ?_) (fun c4 => ?_))))))))))
   ·refine W_reg (sM rfl rfl (sV rfl (py_xor rfl rfl) (sA rfl rfl (s_nil (W_reg (sM rfl rfl (sV rfl (py_add rfl rfl (in64 ⟨by omega, by omega⟩)) (sA rfl rfl (s_nil (⟨(k + 1, xt x, _), ⟨rfl, rfl, eqI (xt_big x (by omega)), rfl, trivial⟩, ⟨H1, by omega, ?_⟩, by dsimp only; omega⟩))))))))))
    rw [mulR_next (k := k) (by omega) x b o, if_neg (fun e => c2 ((u8_inj (b := 1)).2 e))] at hI
    exact hI
   ·refine W_skip (W_reg (sM rfl rfl (sV rfl (py_add rfl rfl (in64 ⟨by omega, by omega⟩)) (sA rfl rfl (s_nil (⟨(k + 1, xt x, _), ⟨rfl, rfl, eqI (xt_small x (by omega)), rfl, trivial⟩, ⟨H1, by omega, ?_⟩, by dsimp only; omega⟩))))))
    rw [mulR_next (k := k) (by omega) x b o, if_neg (fun e => c2 ((u8_inj (b := 1)).2 e))] at hI
    exact hI
 ·refine W_exit (W_sr (sM rfl rfl (sV rfl (py_conv8 tu3 tu5 rfl) (sA rfl rfl (s_nil (rT hQ Tryz.results276 rfl ?_))))))
  obtain rfl : k = 8 := by omega
  exact ⟨H1.ext, by rw [u8Of_nat, ← hI]; rfl⟩
theorem Tryz_spec_PowG {w : World} {a : UInt8}  : Ret Tryz.prog 327 #[.int .u8 a.toNat, .int .i64 254] w fun v w' => Ext No w w' ∧ (v = .int .u8 (invG a).toNat) := by
 refine ret_Q (vs := [.int .u8 a.toNat, .int .i64 254]) Tryz.func327 rfl Tryz.ntmps327 rfl (fun Q hQ hN => ?_)
 have H0 := Sep.start (w := w) (F := []) (by simp)
 refine W_sr (sA rfl rfl (s_nil (W_seq (W_sr (sM rfl rfl (sV rfl (py_lss rfl rfl) (s_nil (W_ifd rfl (fun c1 => ?_) (fun c1 => ?_)))))))))
 ·exact absurd c1 (by decide)
 ·refine W_skip (W_seq (W_sr (sM rfl rfl (sV rfl (py_gtr rfl rfl) (sM rfl rfl (s_grp 2 (j := 2) (want := true) (t := 12) rfl rfl rfl rfl (fun hg1 kk1 => s_val (wgE rfl rfl rfl hg1) rfl rfl (py_move rfl) (s_val (wgE rfl rfl rfl hg1) rfl rfl (py_neq rfl rfl) (kk1 _ _ (kx rfl (kx rfl k0)) rfl Ext.refl))) (fun w1 e1 => ?_)))))))
  have H1 := H0.to e1
  refine sV rfl (py_band rfl rfl) (s_nil (W_if rfl (fun c2 => ?_) (fun c2 => ?_)))
  ·refine W_reg (sM rfl rfl (sV rfl (py_rem rfl rfl (by omega)) (sA rfl rfl (s_nil (W_seq (W_sr (sM rfl rfl (sV rfl (py_gtr rfl rfl) (sM rfl rfl (s_grp 2 (j := 2) (want := true) (t := 20) rfl rfl rfl rfl (fun hg2 kk2 => s_val (wgE rfl rfl rfl hg2) rfl rfl (py_move rfl) (s_val (wgE rfl rfl rfl hg2) rfl rfl (py_eql rfl rfl) (kk2 _ _ (kx rfl (kx rfl k0)) rfl Ext.refl))) (fun w2 e2 => ?_)))))))))))
   have H2 := H1.to e2
   refine sV rfl (py_band rfl rfl) (s_nil (W_if rfl (fun c3 => ?_) (fun c3 => ?_)))
   ·refine W_sr (sA rfl rfl (s_nil (rT hQ Tryz.results327 rfl ?_)))
    obtain rfl : a = 0 := u8_zero (by simp at c3; omega)
    exact ⟨H2.ext, by rw [inv_zero]; rfl⟩
   ·refine W_skip (W_sr (sA rfl rfl (s_nil (W_seq (W_block (W_loop (γ := Nat × UInt8) (fun (m, o) => [(0, .int .u8 a.toNat), (1, .int .i64 m), (5, .int .u8 o.toNat)]) (fun (m, o) w' => Sep No w [] [] w' ∧ m ≤ 254 ∧ mulG o (pw a m) = invG a) (fun (m, o) => m) (254, 1) ⟨rfl, eqI (by decide), rfl, trivial⟩ ⟨H2, by omega, mul_one_l _⟩ (fun (m, o) w3 H3 => ?_)))))))
    obtain ⟨H3, hm, hI⟩ := H3
    refine W_seq (W_sr (sM rfl rfl (sV rfl (py_gtr rfl rfl) (s_nil (W_ifd rfl (fun c4 => ?_) (fun c4 => ?_))))))
    ·refine W_skip (W_seq (W_block (W_reg (sM rfl rfl (sM rfl rfl (s_call (wn rfl) rfl rfl (pc_call Tryz.func276 rfl Tryz_nm276 rfl) Tryz_spec_MulG (fun v1 w4 r1 => ?_)))))))
     obtain ⟨e3, rfl⟩ := r1
     have H4 := H3.to e3
     refine sA rfl rfl (s_nil (W_reg (sM rfl rfl (sV rfl (py_sub rfl rfl (in64 ⟨by omega, by omega⟩)) (sA rfl rfl (s_nil ?_))))))
     obtain ⟨m, rfl⟩ : ∃ j, m = j + 1 := ⟨m - 1, by omega⟩
     refine ⟨(m, _), ⟨rfl, eqI (by omega), rfl, trivial⟩, ⟨H4, by omega, by rw [← hI, pw_step]⟩, by dsimp only; omega⟩
    ·refine W_exit (W_sr (sM rfl rfl (sA rfl rfl (s_nil (rT hQ Tryz.results327 rfl ?_)))))
     obtain rfl : m = 0 := by omega
     exact ⟨H3.ext, by rw [← hI]; show _ = Value.int .u8 (mulG o 1).toNat; rw [mul_one_r]⟩
  ·refine W_skip (W_seq (W_sr (sM rfl rfl (sV rfl (py_gtr rfl rfl) (sM rfl rfl (s_grp 2 (j := 2) (want := true) (t := 20) rfl rfl rfl rfl (fun hg3 kk3 => s_val (wgE rfl rfl rfl hg3) rfl rfl (py_move rfl) (s_val (wgE rfl rfl rfl hg3) rfl rfl (py_eql rfl rfl) (kk3 _ _ (kx rfl (kx rfl k0)) rfl Ext.refl))) (fun w5 e4 => ?_)))))))
   have H5 := H1.to e4
   refine sV rfl (py_band rfl rfl) (s_nil (W_if rfl (fun c5 => ?_) (fun c5 => ?_)))
   ·refine W_sr (sA rfl rfl (s_nil (rT hQ Tryz.results327 rfl ?_)))
    obtain rfl : a = 0 := u8_zero (by simp at c5; omega)
    exact ⟨H5.ext, by rw [inv_zero]; rfl⟩
   ·refine W_skip (W_sr (sA rfl rfl (s_nil (W_seq (W_block (W_loop (γ := Nat × UInt8) (fun (m, o) => [(0, .int .u8 a.toNat), (1, .int .i64 m), (5, .int .u8 o.toNat)]) (fun (m, o) w' => Sep No w [] [] w' ∧ m ≤ 254 ∧ mulG o (pw a m) = invG a) (fun (m, o) => m) (254, 1) ⟨rfl, eqI (by decide), rfl, trivial⟩ ⟨H5, by omega, mul_one_l _⟩ (fun (m, o) w6 H6 => ?_)))))))
    obtain ⟨H6, hm, hI⟩ := H6
    refine W_seq (W_sr (sM rfl rfl (sV rfl (py_gtr rfl rfl) (s_nil (W_ifd rfl (fun c6 => ?_) (fun c6 => ?_))))))
    ·refine W_skip (W_seq (W_block (W_reg (sM rfl rfl (sM rfl rfl (s_call (wn rfl) rfl rfl (pc_call Tryz.func276 rfl Tryz_nm276 rfl) Tryz_spec_MulG (fun v2 w7 r2 => ?_)))))))
     obtain ⟨e5, rfl⟩ := r2
     have H7 := H6.to e5
     refine sA rfl rfl (s_nil (W_reg (sM rfl rfl (sV rfl (py_sub rfl rfl (in64 ⟨by omega, by omega⟩)) (sA rfl rfl (s_nil ?_))))))
     obtain ⟨m, rfl⟩ : ∃ j, m = j + 1 := ⟨m - 1, by omega⟩
     refine ⟨(m, _), ⟨rfl, eqI (by omega), rfl, trivial⟩, ⟨H7, by omega, by rw [← hI, pw_step]⟩, by dsimp only; omega⟩
    ·refine W_exit (W_sr (sM rfl rfl (sA rfl rfl (s_nil (rT hQ Tryz.results327 rfl ?_)))))
     obtain rfl : m = 0 := by omega
     exact ⟨H6.ext, by rw [← hI]; show _ = Value.int .u8 (mulG o 1).toNat; rw [mul_one_r]⟩
theorem Tryz_impl_PowG {w : World} {a : UInt8}  : Ret Tryz.prog 351 #[.int .u8 a.toNat, .int .i64 254] w fun v w' => Ext No w w' ∧ (v = .int .u8 (invG a).toNat) := by
 refine ret_Q (vs := [.int .u8 a.toNat, .int .i64 254]) Tryz.func351 rfl Tryz.ntmps351 rfl (fun Q hQ hN => ?_)
 have H0 := Sep.start (w := w) (F := []) (by simp)
 refine W_sr (sA rfl rfl (s_nil (W_seq (W_sr (sM rfl rfl (sV rfl (py_lss rfl rfl) (s_nil (W_ifd rfl (fun c1 => ?_) (fun c1 => ?_)))))))))
 ·exact absurd c1 (by decide)
 ·refine W_skip (W_sr (sA rfl rfl (s_nil (W_seq (W_block (W_loop (γ := Nat × UInt8 × UInt8) (fun (m, x, o) => [(0, .int .u8 x.toNat), (1, .int .i64 m), (5, .int .u8 o.toNat)]) (fun (m, x, o) w' => Sep No w [] [] w' ∧ m ≤ 254 ∧ mulG o (pw x m) = invG a) (fun (m, x, o) => m) (254, a, 1) ⟨rfl, rfl, rfl, trivial⟩ ⟨H0, by omega, mul_one_l _⟩ (fun (m, x, o) w1 H1 => ?_)))))))
  obtain ⟨H1, hm, hI⟩ := H1
  refine W_seq (W_sr (sM rfl rfl (sV rfl (py_gtr rfl rfl) (s_nil (W_ifd rfl (fun c2 => ?_) (fun c2 => ?_))))))
  ·refine W_skip (W_seq (W_block (W_seq (W_sr (sM rfl rfl (sV rfl (py_andI1 (m := m) (by omega) rfl rfl) (sV rfl (py_eql rfl rfl) (s_nil (W_ifd rfl (fun c3 => ?_) (fun c3 => ?_))))))))))
   ·refine W_reg (sM rfl rfl (sM rfl rfl (s_call (wn rfl) rfl rfl (pc_call Tryz.func333 rfl Tryz_nm333 rfl) Tryz_impl_MulG (fun v1 w2 r1 => ?_))))
    obtain ⟨e1, rfl⟩ := r1
    have H2 := H1.to e1
    refine sA rfl rfl (s_nil (W_reg (sM rfl rfl (sM rfl rfl (s_call (wn rfl) rfl rfl (pc_call Tryz.func333 rfl Tryz_nm333 rfl) Tryz_impl_MulG (fun v2 w3 r2 => ?_))))))
    obtain ⟨e2, rfl⟩ := r2
    have H3 := H2.to e2
    refine sA rfl rfl (s_nil (W_reg (sM rfl rfl (sV rfl (py_shrI1 (m := m) rfl rfl) (sA rfl rfl (s_nil (⟨(m / 2, _, _), ⟨rfl, rfl, rfl, trivial⟩, ⟨H3, by omega, by rw [← hI]; exact (pw_odd o x (m := m) (by omega)).symm⟩, by dsimp only; omega⟩)))))))
   ·refine W_skip (W_reg (sM rfl rfl (sM rfl rfl (s_call (wn rfl) rfl rfl (pc_call Tryz.func333 rfl Tryz_nm333 rfl) Tryz_impl_MulG (fun v3 w4 r3 => ?_)))))
    obtain ⟨e3, rfl⟩ := r3
    have H4 := H1.to e3
    refine sA rfl rfl (s_nil (W_reg (sM rfl rfl (sV rfl (py_shrI1 (m := m) rfl rfl) (sA rfl rfl (s_nil (⟨(m / 2, _, _), ⟨rfl, rfl, rfl, trivial⟩, ⟨H4, by omega, by rw [← hI]; exact (pw_even o x (m := m) (by omega)).symm⟩, by dsimp only; omega⟩)))))))
  ·refine W_exit (W_sr (sM rfl rfl (sA rfl rfl (s_nil (rT hQ Tryz.results351 rfl ?_)))))
   obtain rfl : m = 0 := by omega
   exact ⟨H1.ext, by rw [← hI]; show _ = Value.int .u8 (mulG o 1).toNat; rw [mul_one_r]⟩
theorem Tryz_impl_div {w : World} {a : UInt8} {b : UInt8}  : Ret Tryz.prog 332 #[.int .u8 a.toNat, .int .u8 b.toNat] w fun v w' => Ext No w w' ∧ (v = .int .u8 (mulG a (invG b)).toNat) := by
 refine ret_Q (vs := [.int .u8 a.toNat, .int .u8 b.toNat]) Tryz.func332 rfl Tryz.ntmps332 rfl (fun Q hQ hN => ?_)
 have H0 := Sep.start (w := w) (F := []) (by simp)
 refine W_sr (sA rfl rfl (s_nil (W_sr (sM rfl rfl (sM rfl rfl (s_call (wn rfl) rfl rfl (pc_call Tryz.func351 rfl Tryz_nm351 rfl) Tryz_impl_PowG (fun v1 w1 r1 => ?_)))))))
 obtain ⟨e1, rfl⟩ := r1
 have H1 := H0.to e1
 refine s_call (wn rfl) rfl rfl (pc_call Tryz.func333 rfl Tryz_nm333 rfl) Tryz_impl_MulG (fun v2 w2 r2 => ?_)
 obtain ⟨e2, rfl⟩ := r2
 have H2 := H1.to e2
 refine sA rfl rfl (s_nil (rT hQ Tryz.results332 rfl ?_))
 exact ⟨H2.ext, rfl⟩
theorem Tryz_spec_l1Inv {w : World} {a : UInt8}  : Ret Tryz.prog 275 #[.int .u8 a.toNat] w fun v w' => Ext No w w' ∧ (v = .int .u8 (invG a).toNat) := by
 refine ret_Q (vs := [.int .u8 a.toNat]) Tryz.func275 rfl Tryz.ntmps275 rfl (fun Q hQ hN => ?_)
 have H0 := Sep.start (w := w) (F := []) (by simp)
 refine W_sr (sA rfl rfl (s_nil (W_sr (sM rfl rfl (s_call (wn rfl) rfl rfl (pc_call Tryz.func327 rfl Tryz_nm327 rfl) Tryz_spec_PowG (fun v1 w1 r1 => ?_))))))
 obtain ⟨e1, rfl⟩ := r1
 have H1 := H0.to e1
 refine sA rfl rfl (s_nil (rT hQ Tryz.results275 rfl ?_))
 exact ⟨H1.ext, rfl⟩
theorem Tryz_impl_cauchy {w : World} {j i : Int} (hj : 0 ≤ j ∧ j ≤ 1000) : Ret Tryz.prog 331 #[.int .i64 j, .int .i64 i] w fun v w' => Ext No w w' ∧ (v = .int .u8 (cauchy j i).toNat) := by
 refine ret_Q (vs := [.int .i64 j, .int .i64 i]) Tryz.func331 rfl Tryz.ntmps331 rfl (fun Q hQ hN => ?_)
 have H0 := Sep.start (w := w) (F := []) (by simp)
 refine W_sr (sA rfl rfl (s_nil (W_sr (sM rfl rfl (sV rfl (py_add rfl rfl (in64 ⟨by omega, by omega⟩)) (sV rfl (py_conv8 tu2 tu5 rfl) (sM rfl rfl (sV rfl (py_conv8 tu2 tu5 rfl) (sV rfl (py_xor8 rfl rfl) (s_call (wn rfl) rfl rfl (pc_call Tryz.func332 rfl Tryz_nm332 rfl) (Tryz_impl_div (a := 1)) (fun v1 w1 r1 => ?_)))))))))))
 obtain ⟨e1, rfl⟩ := r1
 have H1 := H0.to e1
 refine sA rfl rfl (s_nil (rT hQ Tryz.results331 rfl ?_))
 exact ⟨H1.ext, by rw [mul_one_l, cauchy]⟩
theorem Tryz_spec_l1Cauchy {w : World} {j i : Int} (hj : 0 ≤ j ∧ j ≤ 1000) : Ret Tryz.prog 195 #[.int .i64 j, .int .i64 i] w fun v w' => Ext No w w' ∧ (v = .int .u8 (cauchy j i).toNat) := by
 refine ret_Q (vs := [.int .i64 j, .int .i64 i]) Tryz.func195 rfl Tryz.ntmps195 rfl (fun Q hQ hN => ?_)
 have H0 := Sep.start (w := w) (F := []) (by simp)
 refine W_sr (sA rfl rfl (s_nil (W_sr (sM rfl rfl (sV rfl (py_add rfl rfl (in64 ⟨by omega, by omega⟩)) (sV rfl (py_conv8 tu2 tu5 rfl) (sM rfl rfl (sV rfl (py_conv8 tu2 tu5 rfl) (sV rfl (py_xor8 rfl rfl) (s_call (wn rfl) rfl rfl (pc_call Tryz.func275 rfl Tryz_nm275 rfl) Tryz_spec_l1Inv (fun v1 w1 r1 => ?_)))))))))))
 obtain ⟨e1, rfl⟩ := r1
 have H1 := H0.to e1
 refine sA rfl rfl (s_nil (rT hQ Tryz.results195 rfl ?_))
 exact ⟨H1.ext, by rw [cauchy]⟩
end Go.Wk
namespace Go.Wk
open Go.Proofs Rp
set_option maxRecDepth 10000
theorem Tryz_spec_l1Scale {w : World} {xs : List UInt8} {xsA : Option Addr} {xsC : Nat} {c : UInt8} (xsS : Sees w [.slice xsA xs.length xsC] xs) (hl : xs.length ≤ 1048576) : Ret Tryz.prog 196 #[.slice xsA xs.length xsC, .int .u8 c.toNat] w fun v w' => Ext No w w' ∧ (Res w w' [v] (scaleG xs c)) := by
 have xsL := sL xsS
 obtain ⟨xsF, xsO⟩ := xsS
 refine ret_Q (vs := [.slice xsA xs.length xsC, .int .u8 c.toNat]) Tryz.func196 rfl Tryz.ntmps196 rfl (fun Q hQ hN => ?_)
 have H0 := Sep.start (w := w) (F := [seen false [.slice xsA xs.length xsC] xs xsF]) (all_cons xsO (by simp))
 refine W_sr (sA rfl rfl (s_nil (W_sr (s_lit0 (α := UInt8) (wn rfl) rfl tu45 Tryz_ty5 H0 (fun b1 w1 e1 g1 H1 => ?_)))))
 refine sA rfl rfl (s_nil (W_seq (W_sr (sA rfl rfl (s_nil (W_block (W_loop (γ := Nat × Value × List Nat) (fun (k, vo, f) => [(0, .slice xsA xs.length xsC), (1, .int .u8 c.toNat), (5, vo), (6, .int .i64 k)]) (fun (k, vo, f) w' => Sep No w [mine [vo] (scaleG (xs.take k) c) f] [seen false [.slice xsA xs.length xsC] xs xsF] w' ∧ k ≤ xs.length) (fun (k, vo, f) => xs.length - k) (0, _, _) ⟨rfl, rfl, rfl, rfl, trivial⟩ ⟨H1, by omega⟩ (fun (k, vo, f) w2 H2 => ?_))))))))
 obtain ⟨H2, hk⟩ := H2
 refine W_seq (W_sr (sM rfl rfl (sM rfl rfl (sV rfl (py_len tu45 rfl) (sV rfl (py_lss rfl rfl) (s_nil (W_ifd rfl (fun c1 => ?_) (fun c1 => ?_))))))))
 ·refine W_skip (W_seq (W_block ?_))
  have sl := scaleG_len (xs.take k) c
  rw [List.length_take] at sl
  obtain ⟨eb1, eo1, ee1, ec1⟩ := elem_u8 (H2.seen 0 rfl) k (by omega)
  refine W_reg (sM rfl rfl (sM rfl rfl (sM rfl rfl (sV rfl (py_elz tu45 ts5 rfl rfl ee1 k (by omega) (by omega)) (sV rfl (py_load tu5 rfl rfl ec1) (sM rfl rfl (s_call (wn rfl) rfl rfl (pc_call Tryz.func276 rfl Tryz_nm276 rfl) Tryz_spec_MulG (fun v1 w3 r1 => ?_))))))))
  obtain ⟨e2, rfl⟩ := r1
  have H3 := H2.to e2
  refine s_lit1 (wn rfl) rfl tu45 Tryz_ty5 rfl rfl rfl rfl H3 (fun b2 w4 e3 g2 H4 => ?_)
  refine s_app1 (wn rfl) rfl tu45 Tryz_ty5 rfl rfl rfl H4 0 1 rfl rfl own_b8 (by unfold maxLen; omega) (by omega) (fun v2 w5 fp1 H5 => ?_)
  refine sA rfl rfl (s_nil (W_reg (sM rfl rfl (sV rfl (py_add rfl rfl (in64 ⟨by omega, by omega⟩)) (sA rfl rfl (s_nil (⟨(k + 1, _, _), ⟨rfl, rfl, rfl, rfl, trivial⟩, ⟨scaleG_step (xs := xs) (c := c) (k := k) (by omega) ▸ (H5.dtake 1), by omega⟩, by dsimp only; omega⟩)))))))
 ·refine W_exit (W_sr (sM rfl rfl (sA rfl rfl (s_nil (rT hQ Tryz.results196 rfl ?_)))))
  obtain rfl : k = xs.length := by omega
  exact ⟨H2.ext, by
   have h := H2.out 0 rfl
   rwa [List.take_length] at h⟩
theorem Tryz_spec_l1Add {w : World} {xs ys : List UInt8} {xsA ysA : Option Addr} {xsC ysC : Nat} (xsS : Sees w [.slice xsA xs.length xsC] xs) (ysS : Sees w [.slice ysA ys.length ysC] ys) (hl : xs.length ≤ 1048576 ∧ xs.length ≤ ys.length) : Ret Tryz.prog 197 #[.slice xsA xs.length xsC, .slice ysA ys.length ysC] w fun v w' => Ext No w w' ∧ (Res w w' [v] (addG xs ys)) := by
 have xsL := sL xsS
 obtain ⟨xsF, xsO⟩ := xsS
 have ysL := sL ysS
 obtain ⟨ysF, ysO⟩ := ysS
 refine ret_Q (vs := [.slice xsA xs.length xsC, .slice ysA ys.length ysC]) Tryz.func197 rfl Tryz.ntmps197 rfl (fun Q hQ hN => ?_)
 have H0 := Sep.start (w := w) (F := [seen false [.slice xsA xs.length xsC] xs xsF, seen false [.slice ysA ys.length ysC] ys ysF]) (all_cons xsO (all_cons ysO (by simp)))
 refine W_sr (sA rfl rfl (s_nil (W_sr (s_lit0 (α := UInt8) (wn rfl) rfl tu45 Tryz_ty5 H0 (fun b1 w1 e1 g1 H1 => ?_)))))
 refine sA rfl rfl (s_nil (W_seq (W_sr (sA rfl rfl (s_nil (W_block (W_loop (γ := Nat × Value × List Nat) (fun (k, vo, f) => [(0, .slice xsA xs.length xsC), (1, .slice ysA ys.length ysC), (5, vo), (6, .int .i64 k)]) (fun (k, vo, f) w' => Sep No w [mine [vo] (addG (xs.take k) (ys.take k)) f] [seen false [.slice xsA xs.length xsC] xs xsF, seen false [.slice ysA ys.length ysC] ys ysF] w' ∧ k ≤ xs.length) (fun (k, vo, f) => xs.length - k) (0, _, _) ⟨rfl, rfl, rfl, rfl, trivial⟩ ⟨H1, by omega⟩ (fun (k, vo, f) w2 H2 => ?_))))))))
 obtain ⟨H2, hk⟩ := H2
 refine W_seq (W_sr (sM rfl rfl (sM rfl rfl (sV rfl (py_len tu45 rfl) (sV rfl (py_lss rfl rfl) (s_nil (W_ifd rfl (fun c1 => ?_) (fun c1 => ?_))))))))
 ·refine W_skip (W_seq (W_block ?_))
  have sl := addG_len (xs := xs.take k) (ys := ys.take k) (by rw [List.length_take, List.length_take]; omega)
  rw [List.length_take] at sl
  obtain ⟨eb1, eo1, ee1, ec1, em1⟩ := elem_u8m (H2.seen 0 rfl) k (by omega)
  obtain ⟨eb2, eo2, ee2, ec2, em2⟩ := elem_u8m (H2.seen 1 rfl) k (by omega)
  refine W_drw (S := Ext (· ∈ f) _) [(0, true), (1, true), (2, true), (3, true), (4, true), (5, true), (6, true), (7, true), (8, true), (9, true), (10, false), (11, false), (12, false)] (by kernel_rfl) (by kernel_rfl) (by kernel_rfl) rfl (fun _ => Ext.refl.drawn _) (fun q1 => ?_)
  have H3 := H2.drawn q1
  refine dM rfl rfl rfl (dM rfl rfl rfl (dM rfl rfl rfl (dV rfl rfl (fun zw hx => py_elz tu45 ts5 rfl rfl ee1 k (by omega) (by omega)) (dV rfl rfl (fun zw hx => py_load tu5 rfl rfl (hx.cellM (H3.off 0 rfl 0 rfl em1) ec1)) (dM rfl rfl rfl (dM rfl rfl rfl (dV rfl rfl (fun zw hx => py_elz tu45 ts5 rfl rfl ee2 k (by omega) (by omega)) (dV rfl rfl (fun zw hx => py_load tu5 rfl rfl (hx.cellM (H3.off 1 rfl 0 rfl em2) ec2)) (dV rfl rfl (fun zw hx => py_xor8 rfl rfl) (d_lit1 rfl (wn rfl) rfl tu45 Tryz_ty5 rfl rfl rfl rfl H3 (fun _ h e => h.trans e.no) (fun b2 w3 e2 g2 H4 => ?_)))))))))))
  refine d_app1 rfl (wn rfl) rfl tu45 Tryz_ty5 rfl rfl rfl H4 0 1 rfl rfl own_b8 (by unfold maxLen; omega) (by omega) (fun _ h e => h.trans e) (fun v1 w4 fp1 H5 => ?_)
  refine d_end rfl (wn rfl) rfl rfl (py_assign rfl) (d_nil (W_reg (sM rfl rfl (sV rfl (py_add rfl rfl (in64 ⟨by omega, by omega⟩)) (sA rfl rfl (s_nil (⟨(k + 1, _, _), ⟨rfl, rfl, rfl, rfl, trivial⟩, ⟨addG_step (xs := xs) (ys := ys) (k := k) (by omega) (by omega) ▸ (H5.dtake 1), by omega⟩, by dsimp only; omega⟩)))))))
 ·refine W_exit (W_sr (sM rfl rfl (sA rfl rfl (s_nil (rT hQ Tryz.results197 rfl ?_)))))
  obtain rfl : k = xs.length := by omega
  exact ⟨H2.ext, by
   have h := H2.out 0 rfl
   rwa [List.take_length, addG_take (by omega)] at h⟩
theorem Tryz_impl_put {w : World} {xs ys : List UInt8} {xsA ysA : Option Addr} {n xsC ysC : Nat} {c : UInt8} {fp g : List Nat} (o : own true w [.slice xsA n xsC] xs fp) (nd : fp.Nodup) (ysO : own false w [.slice ysA ys.length ysC] ys g) (hd : ∀ b ∈ g, b ∉ fp) (hl : xs.length = ys.length) : Ret Tryz.prog 289 #[.slice xsA n xsC, .slice ysA ys.length ysC, .int .u8 c.toNat] w fun v w' => (Mut w w' fp [.slice xsA n xsC] (addG xs (scaleG ys c))) := by
 obtain rfl := own_n o
 have len := oL o
 refine ret_Q (vs := [.slice xsA xs.length xsC, .slice ysA ys.length ysC, .int .u8 c.toNat]) Tryz.func289 rfl Tryz.ntmps289 rfl (fun Q hQ hN => ?_)
 have H0 := (Sep.begin o nd).look (r := seen false [.slice ysA ys.length ysC] ys g) ysO (fun b hb => by simpa [blocks, mine] using hd b hb)
 refine W_sr (sM rfl rfl (sV rfl (py_len tu45 rfl) (sM rfl rfl (s_nil (W_block (W_loop (γ := Nat × List Nat) (fun (k, f) => [(0, .slice xsA xs.length xsC), (2, .int .u8 c.toNat), (8, .slice ysA ys.length ysC), (9, .int .i64 ys.length), (10, .int .i64 k)]) (fun (k, f) w' => Sep (· ∈ fp) w [mine [.slice xsA xs.length xsC] (putG xs ys c k) f] [seen false [.slice ysA ys.length ysC] ys g] w' ∧ k ≤ xs.length) (fun (k, f) => xs.length - k) (0, fp) ⟨rfl, rfl, rfl, rfl, rfl, trivial⟩ ⟨(by rw [putG_zero]; exact H0), by omega⟩ (fun (k, f) w1 H1 => ?_)))))))
 obtain ⟨H1, hk⟩ := H1
 refine W_sr (sV rfl (py_lss rfl rfl) (s_nil (W_seq (W_ifd rfl (fun c1 => ?_) (fun c1 => ?_)))))
 ·refine W_skip (W_seq (W_block (W_seq ?_)))
  obtain ⟨eb1, eo1, ee1, ec1⟩ := elem_u8 (H1.seen 0 rfl) k (by omega)
  refine W_reg (sM rfl rfl (sV rfl (py_elz tu45 ts5 rfl rfl ee1 k (by omega) (by omega)) (sV rfl (py_load tu5 rfl rfl ec1) (sA rfl rfl (sA rfl rfl (s_nil ?_))))))
  have pl := putG_len (xs := xs) (ys := ys) (c := c) (k := k) hl
  have pg := putG_get (xs := xs) (ys := ys) (c := c) (k := k) hl (by omega)
  obtain ⟨eb2, eo2, ee2, ec2⟩ := elem_u8 (H1.mine 0 rfl) k (by rw [putG_len hl]; omega)
  refine W_drw (S := Ext No _) [(0, true), (1, true), (2, true), (3, true), (4, true), (5, true), (6, false), (7, true), (8, true), (9, false)] (by kernel_rfl) (by kernel_rfl) (by kernel_rfl) rfl (fun _ => Ext.refl.drawn _) (fun q1 => ?_)
  have H2 := H1.drawn q1
  refine dM rfl rfl rfl (dM rfl rfl rfl (dV rfl rfl (fun zw hx => py_elz tu45 ts5 rfl rfl ee2 k (by omega) (by omega)) (dV rfl rfl (fun zw hx => py_load tu5 rfl rfl (hx.cell ec2)) (dM rfl rfl rfl (dM rfl rfl rfl (d_call rfl (wn rfl) rfl rfl (pc_call Tryz.func333 rfl Tryz_nm333 rfl) Tryz_impl_MulG (fun hS _ _ r _ => hS.trans r.1.no) (fun v1 w2 r1 => ?_)))))))
  obtain ⟨e1, rfl⟩ := r1
  have H3 := H2.to e1
  refine dV rfl rfl (fun zw hx => py_xor8 rfl rfl) (dV rfl rfl (fun zw hx => py_elz tu45 ts5 rfl rfl ee2 k (by omega) (by omega)) (d_elst rfl (wn rfl) ts5 rfl H3 0 rfl k (by rw [putG_len hl]; omega) rfl ee2 rfl own_b8 (fun _ _ _ hr => absurd rfl hr) (fun w3 fp1 e2 H4 => ?_)))
  refine d_nil (W_reg (sV rfl (py_add rfl rfl (in64 ⟨by omega, by omega⟩)) (sM rfl rfl (s_nil ?_))))
  refine ⟨(k + 1, _), ⟨rfl, rfl, rfl, rfl, rfl, trivial⟩, ⟨by
   have h := H4
   rw [pg, putG_step hl (by omega)] at h
   exact h, by omega⟩, by dsimp only; omega⟩
 ·refine W_exit (hN _ _ (fin0 Tryz.results289 ?_))
  obtain rfl : k = xs.length := by omega
  have h := H1.done
  rw [putG_all rfl hl.symm] at h
  exact h
theorem Tryz_spec_l1Mix {w : World} {xs : List (List UInt8)} {xsA ysA : Option Addr} {xsC ysC : Nat} {ys : List UInt8} (xsS : Sees w [.slice xsA xs.length xsC] xs) (ysS : Sees w [.slice ysA ys.length ysC] ys) {n : Nat} (h0 : 0 < xs.length) (hy : xs.length ≤ ys.length) (hx : ∀ i, i < xs.length → (xs.getD i []).length = n) (hn : n ≤ 1048576) : Ret Tryz.prog 273 #[.slice xsA xs.length xsC, .slice ysA ys.length ysC] w fun v w' => Ext No w w' ∧ (Res w w' [v] (mixTo xs ys n xs.length)) := by
 have xsL := sL xsS
 obtain ⟨xsF, xsO⟩ := xsS
 have ysL := sL ysS
 obtain ⟨ysF, ysO⟩ := ysS
 obtain rfl := hx 0 h0
 refine ret_Q (vs := [.slice xsA xs.length xsC, .slice ysA ys.length ysC]) Tryz.func273 rfl Tryz.ntmps273 rfl (fun Q hQ hN => ?_)
 have H0 := Sep.start (w := w) (F := [seen false [.slice xsA xs.length xsC] xs xsF, seen false [.slice ysA ys.length ysC] ys ysF]) (all_cons xsO (all_cons ysO (by simp)))
 refine W_sr (sA rfl rfl (s_nil (W_seq ?_)))
 obtain ⟨eb1, eo1, ea1, ek1, ef1, ee1, ec1, eO1, eH1⟩ := elem_sl (H0.seen 0 rfl) 0 (by omega)
 have eP1 := H0.look1 0 rfl eO1 eH1
 refine W_reg (sM rfl rfl (sV rfl (py_elz tu112 ts45 rfl rfl ee1 0 (by omega) (by omega)) (sV rfl (py_load tu45 rfl rfl ec1) (sV rfl (py_len tu45 rfl) (s_make (wn rfl) rfl tu45 Tryz_ty5 own_z8 rfl (by omega) (by unfold maxLen; omega) eP1 (fun b1 w1 e1 g1 H1 => ?_))))))
 refine sA rfl rfl (s_nil (W_seq (W_sr (sA rfl rfl (s_nil (W_block (W_loop (γ := Nat × Value × List Nat) (fun (k, vo, f) => [(0, .slice xsA xs.length xsC), (1, .slice ysA ys.length ysC), (5, vo), (6, .int .i64 k)]) (fun (k, vo, f) w' => Sep No w [mine [vo] (mixTo xs ys (xs.getD 0 []).length k) f] [seen false [.slice xsA xs.length xsC] xs xsF, seen false [.slice ysA ys.length ysC] ys ysF] w' ∧ k ≤ xs.length) (fun (k, vo, f) => xs.length - k) (0, _, _) ⟨rfl, rfl, rfl, rfl, trivial⟩ ⟨(H1.ftake 2), by omega⟩ (fun (k, vo, f) w2 H2 => ?_))))))))
 obtain ⟨H2, hk⟩ := H2
 refine W_seq (W_sr (sM rfl rfl (sM rfl rfl (sV rfl (py_len tu112 rfl) (sV rfl (py_lss rfl rfl) (s_nil (W_ifd rfl (fun c1 => ?_) (fun c1 => ?_))))))))
 ·refine W_skip (W_seq (W_block ?_))
  have ml := mixTo_len (cs := ys) hx (k := k) (by omega)
  have sl := scaleG_len (xs.getD k []) (ys.getD k 0)
  have hxk := hx k (by omega)
  obtain ⟨oA, oC, oq⟩ := own_slice (H2.mine 0 rfl)
  cases oq
  obtain ⟨eb2, eo2, ea2, ek2, ef2, ee2, ec2, eO2, eH2⟩ := elem_sl (H2.seen 0 rfl) k (by omega)
  have eP2 := H2.look1 0 rfl eO2 eH2
  obtain ⟨eb3, eo3, ee3, ec3⟩ := elem_u8 (eP2.seen 1 rfl) k (by omega)
  refine W_drw (S := Ext No _) [(0, true), (1, true), (2, true), (3, true), (4, true), (5, true), (6, true), (7, true), (8, true), (9, false), (10, false), (11, false)] (by kernel_rfl) (by kernel_rfl) (by kernel_rfl) rfl (fun _ => Ext.refl.drawn _) (fun q1 => ?_)
  have H3 := eP2.drawn q1
  refine dM rfl rfl rfl (dM rfl rfl rfl (dM rfl rfl rfl (dV rfl rfl (fun zw hx => py_elz tu112 ts45 rfl rfl ee2 k (by omega) (by omega)) (dV rfl rfl (fun zw hx => py_load tu45 rfl rfl (hx.cell ec2)) (dM rfl rfl rfl (dM rfl rfl rfl (dV rfl rfl (fun zw hx => py_elz tu45 ts5 rfl rfl ee3 k (by omega) (by omega)) (dV rfl rfl (fun zw hx => py_load tu5 rfl rfl (hx.cell ec3)) (d_call rfl (wn rfl) rfl rfl (pc_call Tryz.func196 rfl Tryz_nm196 rfl) (Tryz_spec_l1Scale (H3.sees 2 rfl) (by omega)) (fun hS _ _ r _ => hS.trans r.1.no) (fun v1 w3 r1 => ?_))))))))))
  obtain ⟨e2, r1⟩ := r1
  obtain ⟨fp1, H4⟩ := H3.res e2 r1
  obtain ⟨a1, k1, q2⟩ := own_slice (H4.mine 1 rfl)
  cases q2
  refine d_call rfl (wn rfl) rfl rfl (pc_call Tryz.func197 rfl Tryz_nm197 rfl) (Tryz_spec_l1Add (H4.msees 0 rfl) (H4.msees 1 rfl) (by omega)) (fun hS _ _ r _ => hS.trans r.1.no) (fun v2 w4 r2 => ?_)
  obtain ⟨e3, r2⟩ := r2
  obtain ⟨fp2, H5⟩ := H4.res e3 r2
  obtain ⟨a2, k2, q3⟩ := own_slice (H5.mine 2 rfl)
  cases q3
  refine d_end rfl (wn rfl) rfl rfl (py_assign rfl) (d_nil (W_reg (sM rfl rfl (sV rfl (py_add rfl rfl (in64 ⟨by omega, by omega⟩)) (sA rfl rfl (s_nil (⟨(k + 1, _, _), ⟨rfl, rfl, rfl, rfl, trivial⟩, ⟨H5.ftake 2 |>.sub (.cons _ (.cons _ (.cons_cons _ List.Sublist.slnil))), by omega⟩, by dsimp only; omega⟩)))))))
 ·refine W_exit (W_sr (sM rfl rfl (sA rfl rfl (s_nil (rT hQ Tryz.results273 rfl ?_)))))
  obtain rfl : k = xs.length := by omega
  exact ⟨H2.ext, H2.out 0 rfl⟩
theorem Tryz_impl_mixed {w : World} {xs : List (List UInt8)} {xsA ysA : Option Addr} {xsC ysC : Nat} {ys : List UInt8} (xsS : Sees w [.slice xsA xs.length xsC] xs) (ysS : Sees w [.slice ysA ys.length ysC] ys) {n : Nat} (h0 : 0 < xs.length) (hy : xs.length ≤ ys.length) (hx : ∀ i, i < xs.length → (xs.getD i []).length = n) (hn : n ≤ 1048576) : Ret Tryz.prog 263 #[.slice xsA xs.length xsC, .slice ysA ys.length ysC] w fun v w' => Ext No w w' ∧ (Res w w' [v] (mixTo xs ys n xs.length)) := by
 have xsL := sL xsS
 obtain ⟨xsF, xsO⟩ := xsS
 have ysL := sL ysS
 obtain ⟨ysF, ysO⟩ := ysS
 obtain rfl := hx 0 h0
 refine ret_Q (vs := [.slice xsA xs.length xsC, .slice ysA ys.length ysC]) Tryz.func263 rfl Tryz.ntmps263 rfl (fun Q hQ hN => ?_)
 have H0 := Sep.start (w := w) (F := [seen false [.slice xsA xs.length xsC] xs xsF, seen false [.slice ysA ys.length ysC] ys ysF]) (all_cons xsO (all_cons ysO (by simp)))
 refine W_sr (sA rfl rfl (s_nil (W_seq ?_)))
 obtain ⟨eb1, eo1, ea1, ek1, ef1, ee1, ec1, eO1, eH1⟩ := elem_sl (H0.seen 0 rfl) 0 (by omega)
 have eP1 := H0.look1 0 rfl eO1 eH1
 refine W_reg (sM rfl rfl (sV rfl (py_elz tu112 ts45 rfl rfl ee1 0 (by omega) (by omega)) (sV rfl (py_load tu45 rfl rfl ec1) (sV rfl (py_len tu45 rfl) (s_make (wn rfl) rfl tu45 Tryz_ty5 own_z8 rfl (by omega) (by unfold maxLen; omega) eP1 (fun b1 w1 e1 g1 H1 => ?_))))))
 refine sA rfl rfl (s_nil (W_seq (W_sr (sM rfl rfl (sV rfl (py_len tu112 rfl) (sM rfl rfl (s_nil (W_block (W_loop (γ := Nat × List Nat) (fun (k, f) => [(1, .slice ysA ys.length ysC), (5, .slice (some ⟨b1, 0, none⟩) (xs.getD 0 []).length (xs.getD 0 []).length), (13, .slice xsA xs.length xsC), (14, .int .i64 xs.length), (15, .int .i64 k)]) (fun (k, f) w' => Sep No w [mine [.slice (some ⟨b1, 0, none⟩) (xs.getD 0 []).length (xs.getD 0 []).length] (mixTo xs ys (xs.getD 0 []).length k) f] [seen false [.slice xsA xs.length xsC] xs xsF, seen false [.slice ysA ys.length ysC] ys ysF] w' ∧ k ≤ xs.length) (fun (k, f) => xs.length - k) (0, _) ⟨rfl, rfl, rfl, rfl, rfl, trivial⟩ ⟨(H1.ftake 2), by omega⟩ (fun (k, f) w2 H2 => ?_))))))))))
 obtain ⟨H2, hk⟩ := H2
 refine W_sr (sV rfl (py_lss rfl rfl) (s_nil (W_seq (W_ifd rfl (fun c1 => ?_) (fun c1 => ?_)))))
 ·refine W_skip (W_seq (W_block (W_seq ?_)))
  obtain ⟨eb2, eo2, ea2, ek2, ef2, ee2, ec2, eO2, eH2⟩ := elem_sl (H2.seen 0 rfl) k (by omega)
  have eP2 := H2.look1 0 rfl eO2 eH2
  refine W_reg (sM rfl rfl (sV rfl (py_elz tu112 ts45 rfl rfl ee2 k (by omega) (by omega)) (sV rfl (py_load tu45 rfl rfl ec2) (sA rfl rfl (sA rfl rfl (s_nil ?_))))))
  have ml := mixTo_len (cs := ys) hx (k := k) (by omega)
  have sl := scaleG_len (xs.getD k []) (ys.getD k 0)
  have hxk := hx k (by omega)
  obtain ⟨eb3, eo3, ee3, ec3⟩ := elem_u8 (eP2.seen 1 rfl) k (by omega)
  refine W_reg (sM rfl rfl (sM rfl rfl (sM rfl rfl (sM rfl rfl (sV rfl (py_elz tu45 ts5 rfl rfl ee3 k (by omega) (by omega)) (sV rfl (py_load tu5 rfl rfl ec3) (s_call (wn rfl) rfl rfl (pc_call Tryz.func289 rfl Tryz_nm289 rfl) (Tryz_impl_put (eP2.mine 0 rfl) (eP2.nodup1 (i := 0) rfl) (own_weak (eP2.seen 2 rfl)) (fun b hb => eP2.off 2 rfl 0 rfl hb) (by first | assumption | omega)) (fun v1 w3 r1 => ?_))))))))
  obtain ⟨fp1, H3⟩ := eP2.mut 0 rfl r1
  refine s_nil (W_reg (sV rfl (py_add rfl rfl (in64 ⟨by omega, by omega⟩)) (sM rfl rfl (s_nil (⟨(k + 1, _), ⟨rfl, rfl, rfl, rfl, rfl, trivial⟩, ⟨(H3.ftake 2), by omega⟩, by dsimp only; omega⟩)))))
 ·refine W_exit (W_sr (sM rfl rfl (sA rfl rfl (s_nil (rT hQ Tryz.results263 rfl ?_)))))
  obtain rfl : k = xs.length := by omega
  exact ⟨H2.ext, H2.out 0 rfl⟩
theorem Tryz_spec_l2Gen {w : World} {n : Nat} {p base : Int} (hn : n ≤ 100 ∧ 0 ≤ base ∧ base ≤ 100 ∧ 0 ≤ p ∧ p ≤ 500) : Ret Tryz.prog 274 #[.int .i64 n, .int .i64 p, .int .i64 base] w fun v w' => Ext No w w' ∧ (Res w w' [v] (genG n p base)) := by
 refine ret_Q (vs := [.int .i64 n, .int .i64 p, .int .i64 base]) Tryz.func274 rfl Tryz.ntmps274 rfl (fun Q hQ hN => ?_)
 have H0 := Sep.start (w := w) (F := []) (by simp)
 refine W_sr (sA rfl rfl (s_nil (W_sr (sM rfl rfl (s_make (wn rfl) rfl tu45 Tryz_ty5 own_z8 rfl (by omega) (by unfold maxLen; omega) H0 (fun b1 w1 e1 g1 H1 => ?_))))))
 refine sA rfl rfl (s_nil (W_seq (W_sr (sA rfl rfl (s_nil (W_block (W_loop (γ := Nat × List Nat) (fun (k, f) => [(0, .int .i64 n), (1, .int .i64 p), (2, .int .i64 base), (7, .slice (some ⟨b1, 0, none⟩) n n), (8, .int .i64 k)]) (fun (k, f) w' => Sep No w [mine [.slice (some ⟨b1, 0, none⟩) n n] (fillG (genAt n p base) n k) f] [] w' ∧ k ≤ n) (fun (k, f) => n - k) (0, [b1]) ⟨rfl, rfl, rfl, rfl, rfl, trivial⟩ ⟨(by rw [fillG_zero]; exact H1), by omega⟩ (fun (k, f) w2 H2 => ?_))))))))
 obtain ⟨H2, hk⟩ := H2
 refine W_seq (W_sr (sM rfl rfl (sM rfl rfl (sV rfl (py_lss rfl rfl) (s_nil (W_ifd rfl (fun c1 => ?_) (fun c1 => ?_)))))))
 ·refine W_skip (W_seq (W_block (W_sr (sM rfl rfl (sM rfl rfl (sV rfl (py_geq rfl rfl) (s_nil (W_ifd rfl (fun c2 => ?_) (fun c2 => ?_)))))))))
  ·obtain ⟨eb1, eo1, ee1, ec1⟩ := elem_u8 (H2.mine 0 rfl) k (by rw [fillG_len (by omega)]; omega)
   refine W_reg (sM rfl rfl (sM rfl rfl (sM rfl rfl (sM rfl rfl (sV rfl (py_add rfl rfl (in64 ⟨by omega, by omega⟩)) (sM rfl rfl (sV rfl (py_sub rfl rfl (in64 ⟨by omega, by omega⟩)) (sM rfl rfl (s_call (wn rfl) rfl rfl (pc_call Tryz.func195 rfl Tryz_nm195 rfl) (Tryz_spec_l1Cauchy (by omega)) (fun v1 w3 r1 => ?_))))))))))
   obtain ⟨e2, rfl⟩ := r1
   have H3 := H2.to e2
   refine sV rfl (py_elz tu45 ts5 rfl rfl ee1 k (by omega) (by omega)) (s_elst (wn rfl) ts5 rfl H3 0 rfl k (by rw [fillG_len (by omega)]; omega) rfl ee1 rfl own_b8 (fun w4 fp1 e3 H4 => ?_))
   refine s_nil (W_reg (sM rfl rfl (sV rfl (py_add rfl rfl (in64 ⟨by omega, by omega⟩)) (sA rfl rfl (s_nil ?_)))))
   refine ⟨(k + 1, _), ⟨rfl, rfl, rfl, rfl, rfl, trivial⟩, ⟨by
    have h := H4
    rw [fillG_set (by omega) (by rw [genAt, if_pos (by omega)])] at h
    exact h, by omega⟩, by dsimp only; omega⟩
  ·refine W_sr (sM rfl rfl (sM rfl rfl (sV rfl (py_eql rfl rfl) (s_nil (W_ifd rfl (fun c3 => ?_) (fun c3 => ?_))))))
   ·obtain ⟨eb2, eo2, ee2, ec2⟩ := elem_u8 (H2.mine 0 rfl) k (by rw [fillG_len (by omega)]; omega)
    refine W_reg (sM rfl rfl (sM rfl rfl (sV rfl (py_elz tu45 ts5 rfl rfl ee2 k (by omega) (by omega)) (s_elst (wn rfl) ts5 rfl H2 0 rfl k (by rw [fillG_len (by omega)]; omega) rfl ee2 rfl (own_b8 (x := 1)) (fun w5 fp2 e4 H5 => ?_)))))
    refine s_nil (W_reg (sM rfl rfl (sV rfl (py_add rfl rfl (in64 ⟨by omega, by omega⟩)) (sA rfl rfl (s_nil ?_)))))
    refine ⟨(k + 1, _), ⟨rfl, rfl, rfl, rfl, rfl, trivial⟩, ⟨by
     have h := H5
     rw [fillG_set (by omega) (by rw [genAt, if_neg (by omega), if_pos (by omega)])] at h
     exact h, by omega⟩, by dsimp only; omega⟩
   ·refine W_skip (W_reg (sM rfl rfl (sV rfl (py_add rfl rfl (in64 ⟨by omega, by omega⟩)) (sA rfl rfl (s_nil ?_)))))
    refine ⟨(k + 1, _), ⟨rfl, rfl, rfl, rfl, rfl, trivial⟩, ⟨by
     have h := H2
     rw [fillG_skip (by omega) (by rw [genAt, if_neg (by omega), if_neg (by omega)])] at h
     exact h, by omega⟩, by dsimp only; omega⟩
 ·refine W_exit (W_sr (sM rfl rfl (sA rfl rfl (s_nil (rT hQ Tryz.results274 rfl ?_)))))
  obtain rfl : k = n := by omega
  exact ⟨H2.ext, by
   have h := H2.out 0 rfl
   rwa [fillG_all] at h⟩
theorem Tryz_impl_rowCode_weights {w : World} {n : Nat} {s p : Int} (hn : n ≤ 100 ∧ 0 ≤ p ∧ p ≤ 500) : Ret Tryz.prog 286 #[.agg #[.int .i64 n, .int .i64 s], .int .i64 p] w fun v w' => Ext No w w' ∧ (Res w w' [v] (genG n p 0)) := by
 refine ret_Q (vs := [.agg #[.int .i64 n, .int .i64 s], .int .i64 p]) Tryz.func286 rfl Tryz.ntmps286 rfl (fun Q hQ hN => ?_)
 have H0 := Sep.start (w := w) (F := []) (by simp)
 refine W_sr (s_box (wn rfl) rfl rfl H0 (fun b1 w1 e1 g1 H1 => ?_))
 refine sA rfl rfl (s_nil (W_sr (sV rfl (py_field tu167 rfl ts2 rfl rfl) (sV rfl (py_load tu2 rfl rfl (cell_atL (H1.box 0 rfl) rfl)) (s_make (wn rfl) rfl tu45 Tryz_ty5 own_z8 rfl (by omega) (by unfold maxLen; omega) H1 (fun b2 w2 e2 g2 H2 => ?_))))))
 refine sA rfl rfl (s_nil (W_seq (W_sr (sV rfl (py_field tu167 rfl ts2 rfl rfl) (sV rfl (py_load tu2 rfl rfl (cell_atL (H2.box 0 rfl) rfl)) (sM rfl rfl (s_nil (W_block (W_loop (γ := Nat × List Nat) (fun (k, f) => [(1, .int .i64 p), (2, .pointer (some ⟨b1, 0, none⟩)), (5, .slice (some ⟨b2, 0, none⟩) n n), (11, .int .i64 n), (12, .int .i64 k)]) (fun (k, f) w' => Sep No w [box b1 (.cells #[.int .i64 n, .int .i64 s] 167), mine [.slice (some ⟨b2, 0, none⟩) n n] (fillG (genAt n p 0) n k) f] [] w' ∧ k ≤ n) (fun (k, f) => n - k) (0, [b2]) ⟨rfl, rfl, rfl, rfl, rfl, trivial⟩ ⟨(by rw [fillG_zero]; exact H2), by omega⟩ (fun (k, f) w3 H3 => ?_))))))))))
 obtain ⟨H3, hk⟩ := H3
 refine W_sr (sV rfl (py_lss rfl rfl) (s_nil (W_seq (W_ifd rfl (fun c1 => ?_) (fun c1 => ?_)))))
 ·refine W_skip (W_seq (W_block (W_sr (sM rfl rfl (sA rfl rfl (s_nil (W_block (W_sr (sM rfl rfl (sV rfl (py_field tu167 rfl ts2 rfl rfl) (sV rfl (py_load tu2 rfl rfl (cell_atL (H3.box 0 rfl) rfl)) (sV rfl (py_geq rfl rfl) (sA rfl rfl (s_nil (W_ifd rfl (fun c2 => ?_) (fun c2 => ?_))))))))))))))))
  ·obtain ⟨eb1, eo1, ee1, ec1⟩ := elem_u8 (H3.mine 1 rfl) k (by rw [fillG_len (by omega)]; omega)
   refine W_reg (sM rfl rfl (sM rfl rfl (sM rfl rfl (sV rfl (py_field tu167 rfl ts2 rfl rfl) (sV rfl (py_load tu2 rfl rfl (cell_atL (H3.box 0 rfl) rfl)) (sV rfl (py_sub rfl rfl (in64 ⟨by omega, by omega⟩)) (sM rfl rfl (s_call (wn rfl) rfl rfl (pc_call Tryz.func331 rfl Tryz_nm331 rfl) (Tryz_impl_cauchy (by omega)) (fun v1 w4 r1 => ?_)))))))))
   obtain ⟨e3, rfl⟩ := r1
   have H4 := H3.to e3
   refine sV rfl (py_elz tu45 ts5 rfl rfl ee1 k (by omega) (by omega)) (s_elst (wn rfl) ts5 rfl H4 1 rfl k (by rw [fillG_len (by omega)]; omega) rfl ee1 rfl own_b8 (fun w5 fp1 e4 H5 => ?_))
   refine s_nil (W_reg (sV rfl (py_add rfl rfl (in64 ⟨by omega, by omega⟩)) (sM rfl rfl (s_nil ?_))))
   refine ⟨(k + 1, _), ⟨rfl, rfl, rfl, rfl, rfl, trivial⟩, ⟨by
    have h := H5
    rw [fillG_set (by omega) (by rw [genAt, if_pos (by omega)]; congr 1; omega)] at h
    exact h, by omega⟩, by dsimp only; omega⟩
  ·refine W_sr (sM rfl rfl (sM rfl rfl (sV rfl (py_eql rfl rfl) (sA rfl rfl (s_nil (W_ifd rfl (fun c3 => ?_) (fun c3 => ?_)))))))
   ·obtain ⟨eb2, eo2, ee2, ec2⟩ := elem_u8 (H3.mine 1 rfl) k (by rw [fillG_len (by omega)]; omega)
    refine W_reg (sM rfl rfl (sM rfl rfl (sV rfl (py_elz tu45 ts5 rfl rfl ee2 k (by omega) (by omega)) (s_elst (wn rfl) ts5 rfl H3 1 rfl k (by rw [fillG_len (by omega)]; omega) rfl ee2 rfl (own_b8 (x := 1)) (fun w6 fp2 e5 H6 => ?_)))))
    refine s_nil (W_reg (sV rfl (py_add rfl rfl (in64 ⟨by omega, by omega⟩)) (sM rfl rfl (s_nil ?_))))
    refine ⟨(k + 1, _), ⟨rfl, rfl, rfl, rfl, rfl, trivial⟩, ⟨by
     have h := H6
     rw [fillG_set (by omega) (by rw [genAt, if_neg (by omega), if_pos (by omega)])] at h
     exact h, by omega⟩, by dsimp only; omega⟩
   ·refine W_skip (W_reg (sV rfl (py_add rfl rfl (in64 ⟨by omega, by omega⟩)) (sM rfl rfl (s_nil ?_))))
    refine ⟨(k + 1, _), ⟨rfl, rfl, rfl, rfl, rfl, trivial⟩, ⟨by
     have h := H3
     rw [fillG_skip (by omega) (by rw [genAt, if_neg (by omega), if_neg (by omega)])] at h
     exact h, by omega⟩, by dsimp only; omega⟩
 ·refine W_exit (W_sr (sM rfl rfl (sA rfl rfl (s_nil (rT hQ Tryz.results286 rfl ?_)))))
  obtain rfl : k = n := by omega
  exact ⟨H3.ext, by
   have h := H3.out 1 rfl
   rwa [fillG_all] at h⟩
end Go.Wk
namespace Go.Wk
open Go.Proofs Rp
set_option maxRecDepth 10000
theorem Tryz_bytes_Equal {w : World} {xs ys : List UInt8} {xsA ysA : Option Addr} {xsC ysC : Nat} (xsS : Sees w [.slice xsA xs.length xsC] xs) (ysS : Sees w [.slice ysA ys.length ysC] ys) : Ret Tryz.prog 181 #[.slice xsA xs.length xsC, .slice ysA ys.length ysC] w fun v w' => Ext No w w' ∧ (v = .bool (decide (xs = ys))) := by
 have xsL := sL xsS
 obtain ⟨xsF, xsO⟩ := xsS
 have ysL := sL ysS
 obtain ⟨ysF, ysO⟩ := ysS
 refine ret_Q (vs := [.slice xsA xs.length xsC, .slice ysA ys.length ysC]) Tryz.func181 rfl Tryz.ntmps181 rfl (fun Q hQ hN => ?_)
 have H0 := Sep.start (w := w) (F := [seen false [.slice xsA xs.length xsC] xs xsF, seen false [.slice ysA ys.length ysC] ys ysF]) (all_cons xsO (all_cons ysO (by simp)))
 refine W_sr (sA rfl rfl (s_nil (W_sr (sM rfl rfl (sV rfl (py_b2s tu45 tu5 tu9 rfl (H0.seen 0 rfl)) (sM rfl rfl (sV rfl (py_b2s tu45 tu5 tu9 rfl (H0.seen 1 rfl)) (sV rfl (py_seql rfl rfl) (sA rfl rfl (s_nil (rT hQ Tryz.results181 rfl ?_)))))))))))
 exact ⟨H0.ext, by simp [str_beq, strB_inj]⟩
theorem Tryz_slices_EqualFunc_byte_byte_byte_byte {w : World} {xs ys : List (List UInt8)} {xsA ysA : Option Addr} {xsC ysC : Nat} (xsS : Sees w [.slice xsA xs.length xsC] xs) (ysS : Sees w [.slice ysA ys.length ysC] ys) : Ret Tryz.prog 179 #[.slice xsA xs.length xsC, .slice ysA ys.length ysC, .func (.func 181) #[] #[]] w fun v w' => Ext No w w' ∧ (v = .bool (decide (xs = ys))) := by
 have xsL := sL xsS
 obtain ⟨xsF, xsO⟩ := xsS
 have ysL := sL ysS
 obtain ⟨ysF, ysO⟩ := ysS
 refine ret_Q (vs := [.slice xsA xs.length xsC, .slice ysA ys.length ysC, .func (.func 181) #[] #[]]) Tryz.func179 rfl Tryz.ntmps179 rfl (fun Q hQ hN => ?_)
 have H0 := Sep.start (w := w) (F := [seen false [.slice xsA xs.length xsC] xs xsF, seen false [.slice ysA ys.length ysC] ys ysF]) (all_cons xsO (all_cons ysO (by simp)))
 refine W_sr (sA rfl rfl (s_nil (W_seq (W_sr (sM rfl rfl (sV rfl (py_len tu112 rfl) (sM rfl rfl (sV rfl (py_len tu112 rfl) (sV rfl (py_neq rfl rfl) (s_nil (W_ifd rfl (fun c1 => ?_) (fun c1 => ?_))))))))))))
 ·refine W_sr (sA rfl rfl (s_nil (rT hQ Tryz.results179 rfl (⟨H0.ext, ?_⟩))))
  rw [decide_eq_false (fun e => by subst e; exact c1 rfl)]
 ·refine W_skip (W_seq (W_sr (sM rfl rfl (sV rfl (py_len tu112 rfl) (sM rfl rfl (s_nil (W_block (W_loop (γ := Nat) (fun k => [(1, .slice ysA ys.length ysC), (2, .func (.func 181) #[] #[]), (15, .slice xsA xs.length xsC), (16, .int .i64 xs.length), (17, .int .i64 k)]) (fun k w' => Sep No w [] [seen false [.slice xsA xs.length xsC] xs xsF, seen false [.slice ysA ys.length ysC] ys ysF] w' ∧ k ≤ xs.length ∧ (∀ i, i < k → xs.getD i [] = ys.getD i [])) (fun k => xs.length - k) 0 ⟨rfl, rfl, rfl, rfl, rfl, trivial⟩ ⟨H0, by omega, fun i hi => by omega⟩ (fun k w1 H1 => ?_)))))))))
  obtain ⟨H1, hk, he⟩ := H1
  refine W_sr (sV rfl (py_lss rfl rfl) (s_nil (W_seq (W_ifd rfl (fun c2 => ?_) (fun c2 => ?_)))))
  ·refine W_skip (W_seq (W_block (W_seq ?_)))
   obtain ⟨eb1, eo1, ea1, ek1, ef1, ee1, ec1, eO1, eH1⟩ := elem_sl (H1.seen 0 rfl) k (by omega)
   have eP1 := H1.look1 0 rfl eO1 eH1
   refine W_reg (sM rfl rfl (sV rfl (py_elz tu112 ts45 rfl rfl ee1 k (by omega) (by omega)) (sV rfl (py_load tu45 rfl rfl ec1) (sA rfl rfl (sA rfl rfl (s_nil (W_seq ?_)))))))
   obtain ⟨eb2, eo2, ea2, ek2, ef2, ee2, ec2, eO2, eH2⟩ := elem_sl (eP1.seen 1 rfl) k (by omega)
   have eP2 := eP1.look1 1 rfl eO2 eH2
   refine W_reg (sM rfl rfl (sM rfl rfl (sV rfl (py_elz tu112 ts45 rfl rfl ee2 k (by omega) (by omega)) (sV rfl (py_load tu45 rfl rfl ec2) (sA rfl rfl (s_nil (W_sr (sM rfl rfl (sM rfl rfl (sM rfl rfl (s_call (wn rfl) rfl rfl (pc_callv0 rfl Tryz.func181 rfl Tryz_nm181 rfl) (Tryz_bytes_Equal (eP2.sees 2 rfl) (eP2.sees 3 rfl)) (fun v1 w2 r1 => ?_))))))))))))
   obtain ⟨e1, rfl⟩ := r1
   have H2 := eP2.to e1
   refine sV rfl (py_not rfl) (s_nil (W_if rfl (fun c3 => ?_) (fun c3 => ?_)))
   ·refine W_sr (sA rfl rfl (s_nil (rT hQ Tryz.results179 rfl (⟨H2.ext, ?_⟩))))
    rw [decide_eq_false (fun e => by subst e; simp at c3)]
   ·refine W_skip (W_reg (sV rfl (py_add rfl rfl (in64 ⟨by omega, by omega⟩)) (sM rfl rfl (s_nil (⟨k + 1, ⟨rfl, rfl, rfl, rfl, rfl, trivial⟩, ⟨(H2.ftake 2), by omega, fun i hi => ?_⟩, by dsimp only; omega⟩)))))
    by_cases e : i = k
    ·subst e; exact (by simpa using c3)
    ·exact he i (by omega)
  ·refine W_exit (W_sr (sA rfl rfl (s_nil (rT hQ Tryz.results179 rfl (⟨H1.ext, ?_⟩)))))
   rw [decide_eq_true (getD_ext (d := []) (by omega) fun i hi => he i (by omega))]
theorem Tryz_spec_l2Same {w : World} {xs ys : List UInt8} {xsA ysA : Option Addr} {xsC ysC : Nat} (xsS : Sees w [.slice xsA xs.length xsC] xs) (ysS : Sees w [.slice ysA ys.length ysC] ys) : Ret Tryz.prog 259 #[.slice xsA xs.length xsC, .slice ysA ys.length ysC] w fun v w' => Ext No w w' ∧ (v = .bool (decide (xs = ys))) := by
 have xsL := sL xsS
 obtain ⟨xsF, xsO⟩ := xsS
 have ysL := sL ysS
 obtain ⟨ysF, ysO⟩ := ysS
 refine ret_Q (vs := [.slice xsA xs.length xsC, .slice ysA ys.length ysC]) Tryz.func259 rfl Tryz.ntmps259 rfl (fun Q hQ hN => ?_)
 have H0 := Sep.start (w := w) (F := [seen false [.slice xsA xs.length xsC] xs xsF, seen false [.slice ysA ys.length ysC] ys ysF]) (all_cons xsO (all_cons ysO (by simp)))
 refine W_sr (sA rfl rfl (s_nil (W_seq (W_sr (sM rfl rfl (sV rfl (py_len tu45 rfl) (sM rfl rfl (sV rfl (py_len tu45 rfl) (sV rfl (py_neq rfl rfl) (s_nil (W_ifd rfl (fun c1 => ?_) (fun c1 => ?_))))))))))))
 ·refine W_sr (sA rfl rfl (s_nil (rT hQ Tryz.results259 rfl (⟨H0.ext, ?_⟩))))
  rw [decide_eq_false (fun e => by subst e; exact c1 rfl)]
 ·refine W_skip (W_seq (W_sr (sA rfl rfl (s_nil (W_block (W_loop (γ := Nat) (fun k => [(0, .slice xsA xs.length xsC), (1, .slice ysA ys.length ysC), (5, .int .i64 k)]) (fun k w' => Sep No w [] [seen false [.slice xsA xs.length xsC] xs xsF, seen false [.slice ysA ys.length ysC] ys ysF] w' ∧ k ≤ xs.length ∧ (∀ i, i < k → xs.getD i 0 = ys.getD i 0)) (fun k => xs.length - k) 0 ⟨rfl, rfl, rfl, trivial⟩ ⟨H0, by omega, fun i hi => by omega⟩ (fun k w1 H1 => ?_)))))))
  obtain ⟨H1, hk, he⟩ := H1
  refine W_seq (W_sr (sM rfl rfl (sM rfl rfl (sV rfl (py_len tu45 rfl) (sV rfl (py_lss rfl rfl) (s_nil (W_ifd rfl (fun c2 => ?_) (fun c2 => ?_))))))))
  ·refine W_skip (W_seq (W_block (W_seq ?_)))
   obtain ⟨eb1, eo1, ee1, ec1⟩ := elem_u8 (H1.seen 0 rfl) k (by omega)
   obtain ⟨eb2, eo2, ee2, ec2⟩ := elem_u8 (H1.seen 1 rfl) k (by omega)
   refine W_drw (S := Ext No _) [(0, true), (1, true), (2, true), (3, true), (4, true), (5, true), (6, true), (7, true), (8, false)] (by kernel_rfl) (by kernel_rfl) (by kernel_rfl) rfl (fun _ => Ext.refl.drawn _) (fun q1 => ?_)
   have H2 := H1.drawn q1
   refine dM rfl rfl rfl (dM rfl rfl rfl (dV rfl rfl (fun zw hx => py_elz tu45 ts5 rfl rfl ee1 k (by omega) (by omega)) (dV rfl rfl (fun zw hx => py_load tu5 rfl rfl (hx.cell ec1)) (dM rfl rfl rfl (dM rfl rfl rfl (dV rfl rfl (fun zw hx => py_elz tu45 ts5 rfl rfl ee2 k (by omega) (by omega)) (dV rfl rfl (fun zw hx => py_load tu5 rfl rfl (hx.cell ec2)) (d_end rfl (wn rfl) rfl rfl (py_neq rfl rfl) (d_nil (W_ifd rfl (fun c3 => ?_) (fun c3 => ?_)))))))))))
   ·refine W_sr (sA rfl rfl (s_nil (rT hQ Tryz.results259 rfl (⟨H2.ext, ?_⟩))))
    rw [decide_eq_false (fun e => by subst e; exact c3 rfl)]
   ·refine W_skip (W_reg (sM rfl rfl (sV rfl (py_add rfl rfl (in64 ⟨by omega, by omega⟩)) (sA rfl rfl (s_nil ?_)))))
    have c4 : xs.getD k 0 = ys.getD k 0 := by apply u8_inj.1; omega
    refine ⟨k + 1, ⟨rfl, rfl, rfl, trivial⟩, ⟨H2, by omega, fun i hi => ?_⟩, by dsimp only; omega⟩
    by_cases e : i = k
    ·subst e; exact c4
    ·exact he i (by omega)
  ·refine W_exit (W_sr (sA rfl rfl (s_nil (rT hQ Tryz.results259 rfl (⟨H1.ext, ?_⟩)))))
   rw [decide_eq_true (getD_ext (d := 0) (by omega) fun i hi => he i (by omega))]
end Go.Wk
namespace Go.Wk
open Go.Proofs Rp
set_option maxRecDepth 10000
theorem Tryz_slices_Clone_byte_byte {w : World} {xs : List UInt8} {xsA : Option Addr} {xsC : Nat} (xsS : Sees w [.slice xsA xs.length xsC] xs) (hl : xs.length ≤ 100000000) : Ret Tryz.prog 151 #[.slice xsA xs.length xsC] w fun v w' => Ext No w w' ∧ (Res w w' [v] xs) := by
 have xsL := sL xsS
 obtain ⟨xsF, xsO⟩ := xsS
 refine ret_Q (vs := [.slice xsA xs.length xsC]) Tryz.func151 rfl Tryz.ntmps151 rfl (fun Q hQ hN => ?_)
 have H0 := Sep.start (w := w) (F := [seen false [.slice xsA xs.length xsC] xs xsF]) (all_cons xsO (by simp))
 refine W_sr (sA rfl rfl (s_nil (W_seq (W_sr (sM rfl rfl (sV rfl (py_slnil tu45 rfl rfl) (s_nil (W_if rfl (fun c1 => ?_) (fun c1 => ?_)))))))))
 ·refine W_sr (sA rfl rfl (s_nil (rT hQ Tryz.results151 rfl ?_)))
  have e : xs = [] := own_none xsO c1
  exact ⟨H0.ext, e ▸ ⟨[], .inr (.inl ⟨rfl, rfl, rfl⟩), .nil, by simp⟩⟩
 ·refine W_skip (W_sr (s_lit0 (α := UInt8) (wn rfl) rfl tu45 Tryz_ty5 H0 (fun b1 w1 e1 g1 H1 => ?_)))
  refine sM rfl rfl (s_appF (wn rfl) rfl tu45 Tryz_ty5 rfl rfl rfl H1 0 rfl (H1.seen 0 rfl) (by (try simp only [List.length_nil]); unfold maxLen; omega) (by (try simp only [List.length_nil]); omega) (fun v1 w2 fp1 H2 => ?_))
  refine sA rfl rfl (s_nil (rT hQ Tryz.results151 rfl ?_))
  exact ⟨H2.ext, by
   have h := H2.out 0 rfl
   rwa [List.nil_append] at h⟩
theorem Tryz_impl_sum {w : World} {xs ys : List UInt8} {xsA ysA : Option Addr} {xsC ysC : Nat} {c : UInt8} (xsS : Sees w [.slice xsA xs.length xsC] xs) (ysS : Sees w [.slice ysA ys.length ysC] ys) (hl : xs.length = ys.length ∧ xs.length ≤ 100000) : Ret Tryz.prog 210 #[.slice xsA xs.length xsC, .slice ysA ys.length ysC, .int .u8 c.toNat] w fun v w' => Ext No w w' ∧ (Res w w' [v] (addG xs (scaleG ys c))) := by
 have xsL := sL xsS
 obtain ⟨xsF, xsO⟩ := xsS
 have ysL := sL ysS
 obtain ⟨ysF, ysO⟩ := ysS
 refine ret_Q (vs := [.slice xsA xs.length xsC, .slice ysA ys.length ysC, .int .u8 c.toNat]) Tryz.func210 rfl Tryz.ntmps210 rfl (fun Q hQ hN => ?_)
 have H0 := Sep.start (w := w) (F := [seen false [.slice xsA xs.length xsC] xs xsF, seen false [.slice ysA ys.length ysC] ys ysF]) (all_cons xsO (all_cons ysO (by simp)))
 refine W_sr (sA rfl rfl (s_nil (W_sr (sM rfl rfl (s_call (wn rfl) rfl rfl (pc_call Tryz.func151 rfl Tryz_nm151 rfl) (Tryz_slices_Clone_byte_byte (H0.sees 0 rfl) (by omega)) (fun v1 w1 r1 => ?_))))))
 obtain ⟨e1, r1⟩ := r1
 obtain ⟨fp1, H1⟩ := H0.res e1 r1
 obtain ⟨a1, k1, q1⟩ := own_slice (H1.mine 0 rfl)
 cases q1
 refine sA rfl rfl (s_nil (W_sr (sM rfl rfl (sM rfl rfl (sM rfl rfl (s_call (wn rfl) rfl rfl (pc_call Tryz.func289 rfl Tryz_nm289 rfl) (Tryz_impl_put (H1.mine 0 rfl) (H1.nodup1 (i := 0) rfl) (own_weak (H1.seen 1 rfl)) (fun b hb => H1.off 1 rfl 0 rfl hb) (by first | assumption | omega)) (fun v2 w2 r2 => ?_)))))))
 obtain ⟨fp2, H2⟩ := H1.mut 0 rfl r2
 refine s_nil (W_sr (sM rfl rfl (sA rfl rfl (s_nil (rT hQ Tryz.results210 rfl ?_)))))
 exact ⟨H2.ext, H2.out 0 rfl⟩
end Go.Wk
