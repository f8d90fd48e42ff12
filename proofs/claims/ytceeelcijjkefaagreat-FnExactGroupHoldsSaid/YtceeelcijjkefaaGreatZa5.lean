/-
  Laws on walking, and the functions walked, each once: what this claim comes to.
-/
import Derived.Test.YtceeelcijjkefaaGreatZa4
set_option linter.unusedVariables false
set_option linter.unusedSimpArgs false
namespace Go.Wk
open Rp (sz own)
set_option maxRecDepth 100000 in
theorem tab_all : ([1, 2, 3].all fun n => (candH n).all (tabOk n)) = true := by decide +kernel
theorem cand_of {n s : Nat} {hs : List Int} (hn : 1 ≤ n ∧ n ≤ 3) (h2 : s ≤ 2) (hr : rises hs ((n : Int) + s - 1) = true) (hl : hs.length = n) : hs ∈ candH n := by
  rw [rises, List.all_eq_true] at hr
  have hr : ∀ i, i < hs.length → riseAt hs ((n : Int) + s - 1) i = true := fun i hi => hr i (by simpa using hi)
  simp only [riseAt, Bool.and_eq_true, Bool.or_eq_true, decide_eq_true_eq] at hr
  have hc : n = 1 ∨ n = 2 ∨ n = 3 := by omega
  rcases hc with rfl | rfl | rfl
  · match hs, hl with
    | [a], _ =>
      have h0 := hr 0 (by simp)
      simp only [List.getD_cons_zero] at h0
      have : a = 0 ∨ a = 1 ∨ a = 2 := by omega
      rcases this with rfl | rfl | rfl <;> simp [candH]
  · match hs, hl with
    | [a, b], _ =>
      have h0 := hr 0 (by simp)
      have h1 := hr 1 (by simp)
      simp only [List.getD_cons_zero, List.getD_cons_succ, Nat.sub_self, Nat.one_ne_zero, false_or] at h0 h1
      have ha : a = 0 ∨ a = 1 ∨ a = 2 := by omega
      have hb : b = 1 ∨ b = 2 ∨ b = 3 := by omega
      rcases ha with rfl | rfl | rfl <;> rcases hb with rfl | rfl | rfl <;> first | (exfalso; omega) | simp [candH]
  · match hs, hl with
    | [a, b, c], _ =>
      have h0 := hr 0 (by simp)
      have h1 := hr 1 (by simp)
      have h2 := hr 2 (by simp)
      simp only [List.getD_cons_zero, List.getD_cons_succ, Nat.sub_self, Nat.one_ne_zero, false_or, Nat.succ_ne_zero, show (2 : Nat) - 1 = 1 from rfl, (by decide : ¬ (2 : Nat) = 0)] at h0 h1 h2
      have ha : a = 0 ∨ a = 1 ∨ a = 2 := by omega
      have hb : b = 1 ∨ b = 2 ∨ b = 3 := by omega
      have hc : c = 2 ∨ c = 3 ∨ c = 4 := by omega
      rcases ha with rfl | rfl | rfl <;> rcases hb with rfl | rfl | rfl <;> rcases hc with rfl | rfl | rfl <;> first | (exfalso; omega) | simp [candH]
theorem tab_of {n : Nat} {hs : List Int} (hn : 1 ≤ n ∧ n ≤ 3) (h : hs ∈ candH n) : tabOk n hs = true := by
  have h1 := List.all_eq_true.1 tab_all n (by have hc : n = 1 ∨ n = 2 ∨ n = 3 := by omega
                                              rcases hc with rfl | rfl | rfl <;> simp)
  exact List.all_eq_true.1 h1 hs h
theorem way_at {n : Nat} {hs : List Int} (h : tabOk n hs = true) {x : Nat} (hx : x < n + 2) : betw n hs x 0 = wayW n hs x ∧ genG n x 0 = wayG n x := by
  have h1 := List.all_eq_true.1 h x (by simpa using hx)
  simp only [Bool.and_eq_true, decide_eq_true_eq] at h1
  have h2 := h1.1.1.1
  have key : ∀ e ∈ ways, e.ok ivL = true := List.all_eq_true.1 ways_ok
  cases he : ways.find? (fun e => decide (e.n = n) && decide (e.hs = hs) && decide (e.x = (x : Int))) with
  | none => exact absurd he h2
  | some e =>
    have e1 := List.find?_some he
    simp only [Bool.and_eq_true, decide_eq_true_eq] at e1
    obtain ⟨⟨e2, e3⟩, e4⟩ := e1
    have hm := List.mem_of_find?_eq_some he
    refine ⟨?_, ?_⟩
    · have := Way.fact (key e hm)
      rw [e2, e3, e4] at this
      rw [this, wayW, he]
    · cases hf : ways.find? (fun e => decide (e.n = n) && decide (e.x = (x : Int))) with
      | none =>
        have := List.find?_eq_none.1 hf e hm
        simp [e2, e4] at this
      | some f =>
        have f1 := List.find?_some hf
        simp only [Bool.and_eq_true, decide_eq_true_eq] at f1
        have hg := key f (List.mem_of_find?_eq_some hf)
        rw [ivL_eq] at hg
        unfold Way.ok at hg
        simp only [Bool.and_eq_true, decide_eq_true_eq] at hg
        have h9 := hg.1.1.1.1.1.1
        rw [f1.1, f1.2] at h9
        rw [wayG, hf]
        exact h9
section
variable {n s : Nat} {hs : List Int} {x : Int}
theorem way_len (hn : 1 ≤ n ∧ n ≤ 3) (h2 : s ≤ 2) (hr : rises hs ((n : Int) + s - 1) = true) (hl : hs.length = n) (hx : 0 ≤ x ∧ x < n + 2) : (betw n hs x 0).length = n := by
  obtain ⟨x, rfl⟩ : ∃ k : Nat, x = k := ⟨x.toNat, by omega⟩
  have ht := tab_of hn (cand_of hn h2 hr hl)
  have hx' : x < n + 2 := by omega
  have h1 := List.all_eq_true.1 ht x (by simpa using hx')
  simp only [Bool.and_eq_true, decide_eq_true_eq] at h1
  rw [(way_at ht hx').1]
  exact h1.1.1.2
end
section
variable {n s : Nat} {xs : List (List UInt8)}
theorem rises_have (hl : xs.length = n + s) : rises (haveTo xs n xs.length) ((n : Int) + s - 1) = true := by
  have := have_rises (xs := xs) (n := n) (k := xs.length)
  rwa [show ((xs.length : Nat) : Int) - 1 = (n : Int) + s - 1 by omega] at this
end
end Go.Wk
namespace Go.Wk
theorem dec_lt {n xs} (h : decOk n xs = false) : (haveTo xs n xs.length).length < n := by
  simpa [decOk] using h
theorem dec_ge {n xs} (h : decOk n xs = true) : ¬ (haveTo xs n xs.length).length < n := by
  simp only [decOk, decide_eq_true_eq] at h; omega
theorem blk_at {n xs p} (h : decOk n xs = true) : blkL n xs p = decAt n xs p := (dec_yes (dec_ge h)).2.2 p
theorem dec_at {n xs} (h : decOk n xs = true) : decL n xs = decTo n xs n := (dec_yes (dec_ge h)).2.1
theorem have_end {xs : List (List UInt8)} {n k : Nat} (hk : k ≤ xs.length) (h : ¬ ((k : Int) < xs.length) ∨ ¬ (((haveTo xs n k).length : Int) < n)) :
    haveTo xs n xs.length = haveTo xs n k ∧ thereTo xs n xs.length = thereTo xs n k := by
  rcases h with h | h
  · rw [show k = xs.length by omega]; exact ⟨rfl, rfl⟩
  · have := have_le (xs := xs) (n := n) (k := k)
    exact have_full (by omega) _ hk
end Go.Wk
namespace Go.Wk
open Go.Proofs Rp
set_option maxRecDepth 10000
theorem Tryz_impl_rowCode_decode {w : World} {n s : Nat} {xs : List (List UInt8)} {xsA : Option Addr} {xsC : Nat} (hn : 1 ≤ n ∧ n ≤ 3 ∧ s ≤ 2) (hl : xs.length = n + s) (h4 : Part xs) (xsS : Sees w [.slice xsA xs.length xsC] xs) : Ret Tryz.prog 193 #[.agg #[.int .i64 n, .int .i64 s], .slice xsA xs.length xsC] w fun v w' => Ext No w w' ∧ (∃ A C, v = .tuple #[.slice A (decL n xs).length C, .bool (decOk n xs)] ∧ Res w w' [.slice A (decL n xs).length C] (decL n xs)) := by
 have xsL := sees_len xsS
 unfold maxLen at xsL
 obtain ⟨xsF, xsO⟩ := xsS
 refine ret_Q (vs := [.agg #[.int .i64 n, .int .i64 s], .slice xsA xs.length xsC]) Tryz.func193 rfl Tryz.ntmps193 rfl (fun Q hQ hN => ?_)
 have H0 := Sep.start (w := w) (F := [seen false [.slice xsA xs.length xsC] xs xsF]) (all_cons xsO (by simp))
 refine W_sr (s_box (wn rfl) rfl rfl H0 (fun b1 w1 e1 g1 H1 => ?_))
 refine sV rfl (py_assign rfl) (sV rfl (py_assign rfl) (s_nil (W_sr (s_lit0 (α := Int) (wn rfl) rfl Tryz.underlying25 Tryz_ty2 H1 (fun b2 w2 e2 g2 H2 => ?_)))))
 refine s_lit0 (α := View) (wn rfl) rfl Tryz.underlying163 Tryz_ty61 H2 (fun b3 w3 e3 g3 H3 => ?_)
 refine sV rfl (py_assign rfl) (sV rfl (py_assign rfl) (s_nil (W_seq (W_seq ?_))))
 have HR := H3.noRows (β := UInt8)
 try dsimp only [List.nil_append, List.cons_append, List.set_cons_zero, List.set_cons_succ] at HR
 refine W_reg (sV rfl (py_move rfl) (sV rfl (py_len Tryz.underlying163 rfl) (sV rfl (py_move rfl) (s_nil (W_block (W_loop (γ := Nat × Value × List Nat × Value × List View × List Nat × List Nat) (fun (k, vo, f, vp, vs, f2, g) => [(2, .pointer (some ⟨b1, 0, none⟩)), (6, vo), (7, vp), (14, .slice xsA xs.length xsC), (15, .int .i64 xs.length), (16, .int .i64 k)]) (fun (k, vo, f, vp, vs, f2, g) w' => Sep No w [box b1 (.cells #[.int .i64 n, .int .i64 s] 166), mine [vo] (haveTo xs n k) f, mine [vp] vs f2] [seen false [.slice xsA xs.length xsC] xs xsF, rows vs (thereTo xs n k) g] w' ∧ k ≤ xs.length ∧ vs.length = (thereTo xs n k).length) (fun (k, vo, f, vp, vs, f2, g) => xs.length - k) (0, _, _, _, _, _, _) ⟨rfl, rfl, rfl, rfl, rfl, rfl, trivial⟩ ⟨HR, by omega, rfl⟩ (fun (k, vo, f, vp, vs, f2, g) w4 H4 => ?_)))))))
 obtain ⟨H4, hk, vl⟩ := H4
 refine W_sr (sV rfl (py_lss rfl rfl) (s_nil (W_seq (W_ifd rfl (fun c1 => ?_) (fun c1 => ?_)))))
 ·refine W_skip (W_seq (W_block (W_seq ?_)))
  obtain ⟨eb1, eo1, ea1, ek1, ef1, ee1, ec1, eO1, eH1⟩ := elem_sl (H4.seen 0 rfl) k (by omega)
  have eP1 := H4.look1 0 rfl eO1 eH1
  refine W_reg (sV rfl (py_move rfl) (sV rfl (py_elz Tryz.underlying163 Tryz.sizeOf61 rfl rfl ee1 k (by omega) (by omega)) (sV rfl (py_load Tryz.underlying61 rfl rfl ec1) (sV rfl (py_assign rfl) (sV rfl (py_assign rfl) (s_nil (W_seq (W_drw (S := Ext No _) [(0, true), (1, true), (2, true), (3, true), (4, true), (6, true), (7, true), (5, false), (8, true), (9, false)] (by kernel_rfl) (by kernel_rfl) (by kernel_rfl) rfl (fun _ => Ext.refl.drawn _) (fun q1 => ?_)))))))))
  have H5 := eP1.drawn q1
  refine dV rfl rfl (fun zw hx => py_move rfl) (dV rfl rfl (fun zw hx => py_len Tryz.underlying61 rfl) (dV rfl rfl (fun zw hx => py_gtr rfl rfl) (dV rfl rfl (fun zw hx => py_move rfl) (d_case (t := 24) rfl (fun hg1 => ?_) (fun hg1 => ?_)))))
  ·try simp only [decide_eq_true_eq, decide_eq_false_iff_not] at hg1
   refine d_val rfl (wg rfl rfl rfl) rfl rfl (fun zw hx => py_move rfl) (d_val rfl (wg rfl rfl rfl) rfl rfl (fun zw hx => py_field Tryz.underlying166 rfl Tryz.sizeOf2 rfl rfl) (d_val rfl (wg rfl rfl rfl) rfl rfl (fun zw hx => py_load Tryz.underlying2 rfl rfl (cell_atL (hx.heap (H5.box 0 rfl)) rfl)) ?_))
   obtain ⟨a1, k1, q2⟩ := own_slice (H5.mine 1 rfl)
   cases q2
   refine d_call rfl (wg rfl rfl rfl) rfl rfl (pc_call Tryz.func155 rfl Tryz_nm155 rfl) (Tryz_impl_size_int64 (H5.msees 1 rfl)) (fun hS _ _ r _ => hS.trans r.1.no) (fun v1 w5 r1 => ?_)
   obtain ⟨e4, rfl⟩ := r1
   have H6 := H5.to e4
   refine d_val rfl (wg rfl rfl rfl) rfl rfl (fun zw hx => py_lss rfl rfl) (d_end rfl (wn rfl) rfl rfl (py_pickT rfl rfl) (d_nil (W_ifd rfl (fun c2 => ?_) (fun c2 => ?_))))
   ·have tl := there_len (xs := xs) (n := n) (k := k)
    have hl9 := have_le (xs := xs) (n := n) (k := k)
    refine W_reg (sV rfl (py_move rfl) (sV rfl (py_move rfl) (s_lit1 (wn rfl) rfl Tryz.underlying25 Tryz_ty2 rfl rfl rfl rfl H6 (fun b4 w6 e5 g4 H7 => ?_))))
    refine s_app1 (wn rfl) rfl Tryz.underlying25 Tryz_ty2 rfl rfl rfl H7 1 3 rfl rfl (own_bi (by first | assumption | (unfold I64ok; omega))) (by unfold maxLen; omega) (by omega) (fun v2 w7 fp1 H8 => ?_)
    refine sV rfl (py_move rfl) (sV rfl (py_move rfl) (s_lit1 (wn rfl) rfl Tryz.underlying163 Tryz_ty61 rfl rfl rfl rfl H8 (fun b5 w8 e6 g5 H9 => ?_)))
    refine s_app1 (α := View) (u := ⟨_, _, _⟩) (wn rfl) rfl Tryz.underlying163 Tryz_ty61 rfl rfl rfl H9 2 4 rfl rfl ⟨rfl, rfl⟩ (by unfold maxLen; omega) (by omega) (fun v3 w9 fp2 H10 => ?_)
    try dsimp only [List.nil_append, List.cons_append, List.set_cons_zero, List.set_cons_succ] at H10
    obtain ⟨rg1, H11, rh1⟩ := H10.rowApp 1 2 rfl rfl (by first | assumption | omega)
    try dsimp only [List.nil_append, List.cons_append, List.set_cons_zero, List.set_cons_succ] at H11
    refine sV rfl (py_assign rfl) (sV rfl (py_assign rfl) (s_nil (W_reg (sV rfl (py_add rfl rfl (in64 ⟨by omega, by omega⟩)) (sV rfl (py_move rfl) (s_nil ?_))))))
    have hy := have_yes (xs := xs) (n := n) (k := k) ⟨by omega, by omega⟩
    have hz := ((H11.ftake 2).dtake 3)
    rw [← hy.1, ← hy.2] at hz
    refine ⟨(k + 1, _, _, _, _, _, _), ⟨rfl, rfl, rfl, rfl, rfl, rfl, trivial⟩, ⟨hz, by omega, (by rw [hy.2, List.length_append, List.length_append]; simp only [List.length_cons, List.length_nil]; omega)⟩, by dsimp only; omega⟩
   ·refine W_skip (W_reg (sV rfl (py_add rfl rfl (in64 ⟨by omega, by omega⟩)) (sV rfl (py_move rfl) (s_nil ?_))))
    have hy := have_no (xs := xs) (n := n) (k := k) (by omega)
    have hz := (H6.ftake 2)
    refine ⟨(k + 1, _, _, _, _, _, _), ⟨rfl, rfl, rfl, rfl, rfl, rfl, trivial⟩, ⟨(by rw [hy.1, hy.2]; exact hz), by omega, (by rw [hy.2]; exact vl)⟩, by dsimp only; omega⟩
  ·try simp only [decide_eq_true_eq, decide_eq_false_iff_not] at hg1
   refine d_skip rfl (wog (b := false) rfl rfl rfl) rfl rfl (d_skip rfl (wog (b := false) rfl rfl rfl) rfl rfl (d_skip rfl (wog (b := false) rfl rfl rfl) rfl rfl (d_skipA rfl (wog (b := false) rfl rfl rfl) rfl rfl (d_skip rfl (wog (b := false) rfl rfl rfl) rfl rfl (d_end rfl (wn rfl) rfl rfl (py_pickF rfl rfl) (d_nil (W_iff rfl (W_skip (W_reg (sV rfl (py_add rfl rfl (in64 ⟨by omega, by omega⟩)) (sV rfl (py_move rfl) (s_nil ?_))))))))))))
   have hy := have_no (xs := xs) (n := n) (k := k) (by omega)
   have hz := (H5.ftake 2)
   refine ⟨(k + 1, _, _, _, _, _, _), ⟨rfl, rfl, rfl, rfl, rfl, rfl, trivial⟩, ⟨(by rw [hy.1, hy.2]; exact hz), by omega, (by rw [hy.2]; exact vl)⟩, by dsimp only; omega⟩
 ·refine W_exit (W_seq (W_seq ?_))
  obtain rfl : k = xs.length := by omega
  have hl8 := have_le (xs := xs) (n := n) (k := xs.length)
  refine W_drw (S := Ext No _) [(0, true), (2, true), (3, true), (1, false), (4, false)] (by kernel_rfl) (by kernel_rfl) (by kernel_rfl) rfl (fun _ => Ext.refl.drawn _) (fun q3 => ?_)
  have H12 := H4.drawn q3
  refine dV rfl rfl (fun zw hx => py_move rfl) (dV rfl rfl (fun zw hx => py_field Tryz.underlying166 rfl Tryz.sizeOf2 rfl rfl) (dV rfl rfl (fun zw hx => py_load Tryz.underlying2 rfl rfl (cell_atL (hx.heap (H12.box 0 rfl)) rfl)) ?_))
  obtain ⟨a2, k2, q4⟩ := own_slice (H12.mine 1 rfl)
  cases q4
  refine d_call rfl (wn rfl) rfl rfl (pc_call Tryz.func155 rfl Tryz_nm155 rfl) (Tryz_impl_size_int64 (H12.msees 1 rfl)) (fun hS _ _ r _ => hS.trans r.1.no) (fun v4 w10 r2 => ?_)
  obtain ⟨e7, rfl⟩ := r2
  have H13 := H12.to e7
  refine d_end rfl (wn rfl) rfl rfl (py_lss rfl rfl) (d_nil (W_ifd rfl (fun c3 => ?_) (fun c3 => ?_)))
  ·refine W_sr (sV rfl (py_assign rfl) (sV rfl (py_assign rfl) (s_nil (W_ret (hQ _ _ (fin2 Tryz.results193 rfl rfl ?_))))))
   obtain ⟨e1, e2, _⟩ := dec_no (xs := xs) (n := n) (by omega)
   exact ⟨H13.ext, none, 0, (by rw [e1, e2]; rfl), (by rw [e2]; exact ⟨[], .inr (.inl ⟨rfl, rfl, rfl⟩), .nil, by simp⟩)⟩
  ·refine W_skip (W_seq ?_)
   have tl := there_len (xs := xs) (n := n) (k := xs.length)
   have hl9 := have_le (xs := xs) (n := n) (k := xs.length)
   obtain ⟨pA, pC, pq⟩ := own_slice (H13.mine 2 rfl)
   rw [vl] at pq
   cases pq
   obtain ⟨tf, HV, _⟩ := H13.viewsIn 2 1 rfl rfl vl
   try dsimp only [List.nil_append, List.cons_append, List.set_cons_zero, List.set_cons_succ] at HV
   have hh : (haveTo xs n xs.length).length = n := by omega
   have hth : (thereTo xs n xs.length).length = n := by omega
   have ht4 := there4 (n := n) h4
   have hra : ∀ i, i < n → 0 ≤ (haveTo xs n xs.length).getD i 0 ∧ (haveTo xs n xs.length).getD i 0 ≤ 500 := fun i hi => by have := have_at (xs := xs) (n := n) (k := xs.length) i (by omega); omega
   have hrz : rises (haveTo xs n xs.length) ((n : Int) + s - 1) = true := by have := have_rises (xs := xs) (n := n) (k := xs.length); rwa [show ((xs.length : Nat) : Int) - 1 = (n : Int) + s - 1 by omega] at this
   refine W_reg (s_lit0 (α := UInt8) (wn rfl) rfl Tryz.underlying61 Tryz_ty5 HV (fun b6 w11 e8 g6 H14 => ?_))
   refine sV rfl (py_assign rfl) (s_nil (W_seq (W_sr (sV rfl (py_field Tryz.underlying166 rfl Tryz.sizeOf2 rfl rfl) (sV rfl (py_load Tryz.underlying2 rfl rfl (cell_atL (H14.box 0 rfl) rfl)) (sV rfl (py_move rfl) (s_nil (W_block (W_loop (γ := Nat × Value × List Nat) (fun (i, vo, f3) => [(2, .pointer (some ⟨b1, 0, none⟩)), (6, .slice a2 (haveTo xs n xs.length).length k2), (7, .slice pA (thereTo xs n xs.length).length pC), (10, vo), (47, .int .i64 n), (48, .int .i64 i)]) (fun (i, vo, f3) w' => Sep No w [box b1 (.cells #[.int .i64 n, .int .i64 s] 166), mine [.slice a2 (haveTo xs n xs.length).length k2] (haveTo xs n xs.length) f, gone, mine [vo] (decTo n xs i) f3] _ w' ∧ i ≤ n) (fun (i, vo, f3) => n - i) (0, _, _) ⟨rfl, rfl, rfl, rfl, rfl, rfl, trivial⟩ ⟨H14, by omega⟩ (fun (i, vo, f3) w12 H15 => ?_))))))))))
   obtain ⟨H15, hi⟩ := H15
   refine W_sr (sV rfl (py_lss rfl rfl) (s_nil (W_seq (W_ifd rfl (fun c4 => ?_) (fun c4 => ?_)))))
   ·refine W_skip (W_seq (W_block (W_sr (sV rfl (py_move rfl) (sV rfl (py_assign rfl) (s_nil ?_))))))
    have bl := way_len (n := n) (s := s) (hs := (haveTo xs n xs.length)) (x := (i : Int)) (by omega) (by omega) hrz (by omega) (by omega)
    have ml := mixTo_len (cs := betw n (haveTo xs n xs.length) i 0) ht4 (k := (thereTo xs n xs.length).length) (Nat.le_refl _)
    have dl := decTo_len (n := n) h4 i
    refine W_reg (sV rfl (py_move rfl) (sV rfl (py_move rfl) (sV rfl (py_loadS Tryz.underlying166 rfl Tryz.sizeOf166 rfl rfl (At.whole (H15.box 0 rfl))) (sV rfl (py_move rfl) (sV rfl (py_move rfl) (s_call (wn rfl) rfl rfl (pc_call Tryz.func251 rfl Tryz_nm251 rfl) (Tryz_impl_rowCode_between (H15.msees 1 rfl) (by omega) (by first | assumption | omega) (by assumption) (by first | assumption | omega)) (fun v5 w13 r3 => ?_)))))))
    obtain ⟨e9, r3⟩ := r3
    obtain ⟨fp3, H16⟩ := H15.res e9 r3
    obtain ⟨a3, k3, q5⟩ := own_slice (H16.mine 4 rfl)
    cases q5
    refine s_call (wn rfl) rfl rfl (pc_call Tryz.func230 rfl Tryz_nm230 rfl) (Tryz_impl_mixed (H16.sees 2 rfl) (H16.msees 4 rfl) (by omega) (by omega) (by assumption) (by omega)) (fun v6 w14 r4 => ?_)
    obtain ⟨e10, r4⟩ := r4
    obtain ⟨fp4, H17⟩ := H16.res e10 r4
    obtain ⟨a4, k4, q6⟩ := own_slice (H17.mine 5 rfl)
    cases q6
    refine s_appF (wn rfl) rfl Tryz.underlying61 Tryz_ty5 rfl rfl rfl H17 3 rfl (H17.mine 5 rfl) (by (try simp only [List.length_nil]); unfold maxLen; omega) (by (try simp only [List.length_nil]); omega) (fun v7 w15 fp5 H18 => ?_)
    refine sV rfl (py_assign rfl) (s_nil (W_reg (sV rfl (py_add rfl rfl (in64 ⟨by omega, by omega⟩)) (sV rfl (py_move rfl) (s_nil ?_)))))
    have hz := (H18.dtake 4)
    rw [decTo_step] at hz
    refine ⟨(i + 1, _, _), ⟨rfl, rfl, rfl, rfl, rfl, rfl, trivial⟩, ⟨hz, by omega⟩, by dsimp only; omega⟩
   ·refine W_exit (W_sr (sV rfl (py_move rfl) (sV rfl (py_assign rfl) (sV rfl (py_assign rfl) (s_nil (W_ret (hQ _ _ (fin2 Tryz.results193 rfl rfl ?_))))))))
    obtain rfl : n = i := by omega
    obtain ⟨e1, e2, _⟩ := dec_yes (xs := xs) (n := n) (by omega)
    obtain ⟨qa, qc, qq⟩ := own_slice (H15.mine 3 rfl)
    cases qq
    exact ⟨H15.ext, qa, qc, (by rw [e1, e2]), (by rw [e2]; exact H15.out 3 rfl)⟩
theorem Tryz_spec_l2Block {w : World} {n s : Nat} {p : Int} {xs : List (List UInt8)} {xsA : Option Addr} {xsC : Nat} (hn : 1 ≤ n ∧ n ≤ 3 ∧ s ≤ 2) (hl : xs.length = n + s) (h4 : Part xs) (hp : 0 ≤ p ∧ p ≤ (n : Int) + s - 1) (xsS : Sees w [.slice xsA xs.length xsC] xs) : Ret Tryz.prog 250 #[.int .i64 n, .slice xsA xs.length xsC, .int .i64 p] w fun v w' => Ext No w w' ∧ (∃ A C, v = .tuple #[.slice A (blkL n xs p).length C, .bool (decOk n xs)] ∧ Res w w' [.slice A (blkL n xs p).length C] (blkL n xs p)) := by
 have xsL := sees_len xsS
 unfold maxLen at xsL
 obtain ⟨xsF, xsO⟩ := xsS
 refine ret_Q (vs := [.int .i64 n, .slice xsA xs.length xsC, .int .i64 p]) Tryz.func250 rfl Tryz.ntmps250 rfl (fun Q hQ hN => ?_)
 have H0 := Sep.start (w := w) (F := [seen false [.slice xsA xs.length xsC] xs xsF]) (all_cons xsO (by simp))
 refine W_sr (sV rfl (py_assign rfl) (sV rfl (py_assign rfl) (s_nil (W_sr (s_lit0 (α := Int) (wn rfl) rfl Tryz.underlying25 Tryz_ty2 H0 (fun b1 w1 e1 g1 H1 => ?_))))))
 refine sV rfl (py_assign rfl) (s_nil (W_sr (s_lit0 (α := View) (wn rfl) rfl Tryz.underlying163 Tryz_ty61 H1 (fun b2 w2 e2 g2 H2 => ?_))))
 refine sV rfl (py_assign rfl) (s_nil (W_seq (W_seq ?_)))
 have HR := H2.noRows (β := UInt8)
 try dsimp only [List.nil_append, List.cons_append, List.set_cons_zero, List.set_cons_succ] at HR
 refine W_reg (sV rfl (py_assign rfl) (s_nil (W_block (W_loop (γ := Nat × Value × List Nat × Value × List View × List Nat × List Nat) (fun (k, vo, f, vp, vs, f2, g) => [(0, .int .i64 n), (1, .slice xsA xs.length xsC), (2, .int .i64 p), (8, vo), (9, vp), (10, .int .i64 k)]) (fun (k, vo, f, vp, vs, f2, g) w' => Sep No w [mine [vo] (haveTo xs n k) f, mine [vp] vs f2] [seen false [.slice xsA xs.length xsC] xs xsF, rows vs (thereTo xs n k) g] w' ∧ k ≤ xs.length ∧ vs.length = (thereTo xs n k).length) (fun (k, vo, f, vp, vs, f2, g) => xs.length - k) (0, _, _, _, _, _, _) ⟨rfl, rfl, rfl, rfl, rfl, rfl, trivial⟩ ⟨HR, by omega, rfl⟩ (fun (k, vo, f, vp, vs, f2, g) w3 H3 => ?_)))))
 obtain ⟨H3, hk, vl⟩ := H3
 refine W_seq (W_seq ?_)
 obtain ⟨a1, k1, q1⟩ := own_slice (H3.mine 0 rfl)
 cases q1
 refine W_reg (sV rfl (py_move rfl) (sV rfl (py_move rfl) (sV rfl (py_len Tryz.underlying163 rfl) (sV rfl (py_lss rfl rfl) (sV rfl (py_move rfl) (s_grp 4 (j := 4) (want := true) (t := 21) rfl rfl rfl rfl (fun hg1 kk1 => s_val (wgE rfl rfl rfl hg1) rfl rfl (py_move rfl) (s_val (wgE rfl rfl rfl hg1) rfl rfl (py_len Tryz.underlying25 rfl) (s_val (wgE rfl rfl rfl hg1) rfl rfl (py_move rfl) (s_val (wgE rfl rfl rfl hg1) rfl rfl (py_lss rfl rfl) (kk1 _ _ (kx rfl (kx rfl (kx rfl (kx rfl k0)))) rfl Ext.refl))))) (fun w4 e3 => ?_)))))))
 have H4 := H3.to e3
 refine sV rfl (py_band rfl rfl) (s_nil (W_if rfl (fun c1 => ?_) (fun c1 => ?_)))
 ·simp only [Bool.and_eq_true, decide_eq_true_eq] at c1
  refine W_skip (W_seq (W_block (W_seq ?_)))
  obtain ⟨eb1, eo1, ea1, ek1, ef1, ee1, ec1, eO1, eH1⟩ := elem_sl (H4.seen 0 rfl) k (by omega)
  have eP1 := H4.look1 0 rfl eO1 eH1
  refine W_reg (sV rfl (py_move rfl) (sV rfl (py_move rfl) (sV rfl (py_elz Tryz.underlying163 Tryz.sizeOf61 rfl rfl ee1 k (by omega) (by omega)) (sV rfl (py_load Tryz.underlying61 rfl rfl ec1) (sV rfl (py_len Tryz.underlying61 rfl) (sV rfl (py_gtr rfl rfl) (s_nil (W_ifd rfl (fun c2 => ?_) (fun c2 => ?_)))))))))
  ·refine W_seq ?_
   have tl := there_len (xs := xs) (n := n) (k := k)
   have hl9 := have_le (xs := xs) (n := n) (k := k)
   refine W_reg (sV rfl (py_move rfl) (sV rfl (py_move rfl) (s_lit1 (wn rfl) rfl Tryz.underlying25 Tryz_ty2 rfl rfl rfl rfl eP1 (fun b3 w5 e4 g3 H5 => ?_))))
   refine s_app1 (wn rfl) rfl Tryz.underlying25 Tryz_ty2 rfl rfl rfl H5 0 2 rfl rfl (own_bi (by first | assumption | (unfold I64ok; omega))) (by unfold maxLen; omega) (by omega) (fun v1 w6 fp1 H6 => ?_)
   refine sV rfl (py_assign rfl) (s_nil ?_)
   obtain ⟨eb2, eo2, ea2, ek2, ef2, ee2, ec2, eO2, eH2⟩ := elem_sl (H6.seen 0 rfl) k (by omega)
   have eP2 := H6.look1 0 rfl eO2 eH2
   refine W_reg (sV rfl (py_move rfl) (sV rfl (py_move rfl) (sV rfl (py_move rfl) (sV rfl (py_elz Tryz.underlying163 Tryz.sizeOf61 rfl rfl ee2 k (by omega) (by omega)) (sV rfl (py_load Tryz.underlying61 rfl rfl ec2) (s_lit1 (wn rfl) rfl Tryz.underlying163 Tryz_ty61 rfl rfl rfl rfl eP2 (fun b4 w7 e5 g4 H7 => ?_)))))))
   refine s_app1 (α := View) (u := ⟨_, _, _⟩) (wn rfl) rfl Tryz.underlying163 Tryz_ty61 rfl rfl rfl H7 1 3 rfl rfl ⟨rfl, rfl⟩ (by unfold maxLen; omega) (by omega) (fun v2 w8 fp2 H8 => ?_)
   try dsimp only [List.nil_append, List.cons_append, List.set_cons_zero, List.set_cons_succ] at H8
   obtain ⟨rg1, H9, rh1⟩ := H8.rowApp 1 3 rfl rfl (by first | assumption | omega)
   try dsimp only [List.nil_append, List.cons_append, List.set_cons_zero, List.set_cons_succ] at H9
   refine sV rfl (py_assign rfl) (s_nil (W_reg (sV rfl (py_move rfl) (sV rfl (py_add rfl rfl (in64 ⟨by omega, by omega⟩)) (sV rfl (py_assign rfl) (s_nil ?_))))))
   have hy := have_yes (xs := xs) (n := n) (k := k) ⟨by omega, by omega⟩
   have hz := ((H9.ftake 2).dtake 2)
   rw [← hy.1, ← hy.2] at hz
   refine ⟨(k + 1, _, _, _, _, _, _), ⟨rfl, rfl, rfl, rfl, rfl, rfl, trivial⟩, ⟨hz, by omega, (by rw [hy.2, List.length_append, List.length_append]; simp only [List.length_cons, List.length_nil]; omega)⟩, by dsimp only; omega⟩
  ·refine W_skip (W_reg (sV rfl (py_move rfl) (sV rfl (py_add rfl rfl (in64 ⟨by omega, by omega⟩)) (sV rfl (py_assign rfl) (s_nil ?_)))))
   have hy := have_no (xs := xs) (n := n) (k := k) (by omega)
   have hz := (eP1.ftake 2)
   refine ⟨(k + 1, _, _, _, _, _, _), ⟨rfl, rfl, rfl, rfl, rfl, rfl, trivial⟩, ⟨(by rw [hy.1, hy.2]; exact hz), by omega, (by rw [hy.2]; exact vl)⟩, by dsimp only; omega⟩
 ·simp only [Bool.and_eq_false_iff, decide_eq_false_iff_not] at c1
  have hend := have_end hk c1
  refine W_exit (W_seq (W_sr (sV rfl (py_move rfl) (sV rfl (py_len Tryz.underlying25 rfl) (sV rfl (py_move rfl) (sV rfl (py_lss rfl rfl) (s_nil (W_ifd rfl (fun c3 => ?_) (fun c3 => ?_)))))))))
  ·refine W_sr (sV rfl (py_assign rfl) (sV rfl (py_assign rfl) (s_nil (W_ret (hQ _ _ (fin2 Tryz.results250 rfl rfl ?_))))))
   obtain ⟨e1, _, e2⟩ := dec_no (xs := xs) (n := n) (by rw [hend.1]; omega)
   exact ⟨H4.ext, none, 0, (by rw [e1, e2]; rfl), (by rw [e2]; exact ⟨[], .inr (.inl ⟨rfl, rfl, rfl⟩), .nil, by simp⟩)⟩
  ·refine W_skip (W_seq ?_)
   have hl9 := have_le (xs := xs) (n := n) (k := k)
   have tl := there_len (xs := xs) (n := n) (k := k)
   obtain ⟨pA, pC, pq⟩ := own_slice (H4.mine 1 rfl)
   rw [vl] at pq
   cases pq
   obtain ⟨tf, HV, _⟩ := H4.viewsIn 1 1 rfl rfl vl
   try dsimp only [List.nil_append, List.cons_append, List.set_cons_zero, List.set_cons_succ] at HV
   have hh : (haveTo xs n k).length = n := by omega
   have hth : (thereTo xs n k).length = n := by omega
   have ht4 := there4 (n := n) h4
   rw [hend.2] at ht4
   have hrz := rises_have (xs := xs) (n := n) (s := s) hl
   rw [hend.1] at hrz
   have hra : ∀ i, i < n → 0 ≤ (haveTo xs n k).getD i 0 ∧ (haveTo xs n k).getD i 0 ≤ 500 := fun i hi => by have := have_at (xs := xs) (n := n) (k := k) i (by omega); omega
   have bl := way_len (n := n) (s := s) (hs := (haveTo xs n k)) (x := p) (by omega) (by omega) hrz (by omega) (by omega)
   refine W_reg (sV rfl (py_move rfl) (sV rfl (py_move rfl) (sV rfl (py_move rfl) (sV rfl (py_move rfl) (s_call (wn rfl) rfl rfl (pc_call Tryz.func247 rfl Tryz_nm247 rfl) (Tryz_spec_l2Weights (HV.msees 0 rfl) (by omega) (by first | assumption | omega) (by assumption) (by first | assumption | omega)) (fun v3 w9 r1 => ?_))))))
   obtain ⟨e6, r1⟩ := r1
   obtain ⟨fp3, H10⟩ := HV.res e6 r1
   obtain ⟨a2, k2, q2⟩ := own_slice (H10.mine 2 rfl)
   cases q2
   refine s_call (wn rfl) rfl rfl (pc_call Tryz.func225 rfl Tryz_nm225 rfl) (Tryz_spec_l1Mix (H10.sees 2 rfl) (H10.msees 2 rfl) (by omega) (by omega) (by assumption) (by omega)) (fun v4 w10 r2 => ?_)
   obtain ⟨e7, r2⟩ := r2
   obtain ⟨fp4, H11⟩ := H10.res e7 r2
   obtain ⟨a3, k3, q3⟩ := own_slice (H11.mine 3 rfl)
   cases q3
   refine sV rfl (py_assign rfl) (sV rfl (py_assign rfl) (s_nil (W_ret (hQ _ _ (fin2 Tryz.results250 rfl rfl ?_)))))
   obtain ⟨e1, _, e2⟩ := dec_yes (xs := xs) (n := n) (by rw [hend.1]; omega)
   have e3 := e2 p
   rw [decAt, hend.1, hend.2] at e3
   obtain ⟨qa, qc, qq⟩ := own_slice (H11.mine 3 rfl)
   exact ⟨H11.ext, _, _, (by rw [e1, e3]), (by rw [e3]; exact H11.out 3 rfl)⟩
theorem Tryz_spec_l2Decode {w : World} {n s : Nat} {xs : List (List UInt8)} {xsA : Option Addr} {xsC : Nat} (hn : 1 ≤ n ∧ n ≤ 3 ∧ s ≤ 2) (hl : xs.length = n + s) (h4 : Part xs) (xsS : Sees w [.slice xsA xs.length xsC] xs) : Ret Tryz.prog 192 #[.int .i64 n, .slice xsA xs.length xsC] w fun v w' => Ext No w w' ∧ (∃ A C, v = .tuple #[.slice A (decL n xs).length C, .bool (decOk n xs)] ∧ Res w w' [.slice A (decL n xs).length C] (decL n xs)) := by
 have xsL := sees_len xsS
 unfold maxLen at xsL
 obtain ⟨xsF, xsO⟩ := xsS
 refine ret_Q (vs := [.int .i64 n, .slice xsA xs.length xsC]) Tryz.func192 rfl Tryz.ntmps192 rfl (fun Q hQ hN => ?_)
 have H0 := Sep.start (w := w) (F := [seen false [.slice xsA xs.length xsC] xs xsF]) (all_cons xsO (by simp))
 refine W_sr (sV rfl (py_assign rfl) (sV rfl (py_assign rfl) (s_nil (W_sr (s_lit0 (α := UInt8) (wn rfl) rfl Tryz.underlying61 Tryz_ty5 H0 (fun b1 w1 e1 g1 H1 => ?_))))))
 refine sV rfl (py_assign rfl) (s_nil (W_seq (W_sr (sV rfl (py_assign rfl) (s_nil (W_block (W_loop (γ := Nat × Value × List Nat) (fun (i, vo, f) => [(0, .int .i64 n), (1, .slice xsA xs.length xsC), (6, vo), (7, .int .i64 i)]) (fun (i, vo, f) w' => Sep No w [mine [vo] (decTo n xs i) f] [seen false [.slice xsA xs.length xsC] xs xsF] w' ∧ i ≤ n ∧ (0 < i → decOk n xs = true)) (fun (i, vo, f) => n - i) (0, _, _) ⟨rfl, rfl, rfl, rfl, trivial⟩ ⟨H1, by omega, fun h => absurd h (by omega)⟩ (fun (i, vo, f) w2 H2 => ?_))))))))
 obtain ⟨H2, hi, hok⟩ := H2
 refine W_seq (W_sr (sV rfl (py_move rfl) (sV rfl (py_move rfl) (sV rfl (py_lss rfl rfl) (s_nil (W_ifd rfl (fun c1 => ?_) (fun c1 => ?_)))))))
 ·refine W_skip (W_seq (W_block (W_sr (sV rfl (py_move rfl) (sV rfl (py_move rfl) (sV rfl (py_move rfl) (s_call (wn rfl) rfl rfl (pc_call Tryz.func250 rfl Tryz_nm250 rfl) (Tryz_spec_l2Block (s := s) (by omega) (by omega) h4 (by omega) (H2.sees 0 rfl)) (fun v1 w3 r1 => ?_))))))))
  obtain ⟨e2, sa1, sk1, rfl, r1⟩ := r1
  obtain ⟨fp1, H3⟩ := H2.res e2 r1
  refine sV rfl (py_move rfl) (sV rfl (py_extr rfl rfl) (sV rfl (py_extr rfl rfl) (sV rfl (py_assign rfl) (sV rfl (py_assign rfl) (s_nil (W_seq (W_sr (sV rfl (py_move rfl) (sV rfl (py_not rfl) (s_nil (W_if rfl (fun c2 => ?_) (fun c2 => ?_))))))))))))
  ·refine W_sr (sV rfl (py_assign rfl) (sV rfl (py_assign rfl) (s_nil (W_ret (hQ _ _ (fin2 Tryz.results192 rfl rfl ?_))))))
   obtain ⟨e1, e2, _⟩ := dec_no (xs := xs) (n := n) (dec_lt (not_true c2))
   exact ⟨H3.ext, none, 0, (by rw [e1, e2]; rfl), (by rw [e2]; exact ⟨[], .inr (.inl ⟨rfl, rfl, rfl⟩), .nil, by simp⟩)⟩
  ·refine W_skip ?_
   have hok2 := not_false c2
   have dl := decTo_len (n := n) h4 i
   have bl : (blkL n xs i).length = 4 := by rw [blk_at hok2]; exact decAt_len h4
   refine W_reg (sV rfl (py_move rfl) (sV rfl (py_move rfl) (s_appF (wn rfl) rfl Tryz.underlying61 Tryz_ty5 rfl rfl rfl H3 0 rfl (H3.mine 1 rfl) (by (try simp only [List.length_nil]); unfold maxLen; omega) (by (try simp only [List.length_nil]); omega) (fun v2 w4 fp2 H4 => ?_))))
   refine sV rfl (py_assign rfl) (s_nil (W_reg (sV rfl (py_move rfl) (sV rfl (py_add rfl rfl (in64 ⟨by omega, by omega⟩)) (sV rfl (py_assign rfl) (s_nil ?_))))))
   have hz := (H4.dtake 1)
   rw [blk_at hok2, decAt, decTo_step] at hz
   refine ⟨(i + 1, _, _), ⟨rfl, rfl, rfl, rfl, trivial⟩, ⟨hz, by omega, fun _ => hok2⟩, by dsimp only; omega⟩
 ·refine W_exit (W_sr (sV rfl (py_move rfl) (sV rfl (py_assign rfl) (sV rfl (py_assign rfl) (s_nil (W_ret (hQ _ _ (fin2 Tryz.results192 rfl rfl ?_))))))))
  obtain rfl : n = i := by omega
  have e1 := hok (by omega)
  have e2 := dec_at e1
  obtain ⟨qa, qc, qq⟩ := own_slice (H2.mine 0 rfl)
  cases qq
  exact ⟨H2.ext, qa, qc, (by rw [e1, e2]), (by rw [e2]; exact H2.out 0 rfl)⟩
end Go.Wk
namespace Go.Wk
open Rp (sz own)
theorem Sep.nilF {M : Nat → Prop} {w0 w : World} {Δ F : List Rsc} {β : Type} [Rp β] (h : Sep M w0 Δ F w) : Sep M w0 Δ (F ++ [Wk.seen false [.slice none 0 0] ([] : List β) []]) w :=
  h.look (r := Wk.seen false [.slice none 0 0] ([] : List β) []) (.inr (.inl ⟨rfl, rfl, rfl⟩)) (by simp [Wk.seen])
end Go.Wk

namespace Go.Wk
open Rp (sz own)
section
variable {M : Nat → Prop} {w0 w w' : World} {Δ F : List Rsc}
theorem Sep.lookS {α β : Type} [Rp α] [Rp β] (h : Sep M w0 Δ F w) (e : Ext No w w') (j : Nat) {s cs fp0} {y : β} (hj : F[j]? = some (Wk.seen s cs y fp0)) {v : List Value} {x : α} {fp} (o : own false w' v x fp) (hfp : ∀ b ∈ fp, b ∈ fp0 ∨ w.heap.size ≤ b) :
    Sep M w0 Δ (F ++ [Wk.seen false v x fp]) w' :=
  (h.to e).look (r := Wk.seen false v x fp) o fun b hb hm => (hfp b hb).elim (fun hb => h.ap _ (List.mem_of_getElem? hj) b hb hm) fun hb => by have := h.lt b hm; omega
end
section
variable {P : Program} {n : Nat} {c : Code} {Q : Post} {L : Env} {w w0 : World} {M : Nat → Prop} {Δ F : List Rsc}
theorem W_loopV {β : Type} [Rp β] {γ : Type} {v0 : Value} {fp0 : List Nat} (f : γ → List (List β)) (g0 : γ) (H : Sep M w0 Δ F w) (i : Nat) (hi : Δ[i]? = some (mine [v0] ([] : List View) fp0)) (j : Nat) (hj : F[j]? = some (rows ([] : List View) ([] : List (List β)) [])) (hf : f g0 = []) (t : Nat) (ht : look L t = some v0)
  (G : List Nat → Prop) (hG : G []) (E2 : Env) (h2 : sub L E2) (E : γ → Env) (I : γ → Prop) (μ : γ → Nat) (hs : sub L (E g0)) (h0 : I g0)
  (round : ∀ g v fp vs gg w, Sep M w0 (Δ.set i (mine [v] vs fp)) (F.set j (rows vs (f g) gg)) w → vs.length = (f g).length → G gg → I g →
   W P n c (again (fun x : γ × Value × List Nat × List View × List Nat => (t, x.2.1) :: (E x.1 ++ E2)) (fun x w' => Sep M w0 (Δ.set i (mine [x.2.1] x.2.2.2.1 x.2.2.1)) (F.set j (rows x.2.2.2.1 (f x.1) x.2.2.2.2)) w' ∧ x.2.2.2.1.length = (f x.1).length ∧ G x.2.2.2.2 ∧ I x.1) (fun x => μ x.1) (g, v, fp, vs, gg) Q) ((t, v) :: (E g ++ E2)) w) : W P n (.loop c) Q L w :=
 W_loop (fun x : γ × Value × List Nat × List View × List Nat => (t, x.2.1) :: (E x.1 ++ E2)) (fun x w' => Sep M w0 (Δ.set i (mine [x.2.1] x.2.2.2.1 x.2.2.1)) (F.set j (rows x.2.2.2.1 (f x.1) x.2.2.2.2)) w' ∧ x.2.2.2.1.length = (f x.1).length ∧ G x.2.2.2.2 ∧ I x.1) (fun x => μ x.1) (g0, v0, fp0, [], [])
  ⟨ht, sub_append hs h2⟩ ⟨by rw [set_getD hi, hf, set_getD hj]; exact H, by simp [hf], hG, h0⟩ fun x w h => round x.1 x.2.1 x.2.2.1 x.2.2.2.1 x.2.2.2.2 w h.1 h.2.1 h.2.2.1 h.2.2.2
end
def blkAt (G : List Drive) (row i : Nat) : List UInt8 := if (G.getD i default).Wiped = true then [] else ((G.getD i default).Blocks.getD row default).Bytes
def blkTo (G : List Drive) (row k : Nat) : List (List UInt8) := (List.range k).map (blkAt G row)
def blkOf (z : Wld) (g row : Int) : List (List UInt8) := blkTo (z.Groups.getD g.toNat []) row.toNat (z.Groups.getD g.toNat []).length
section
variable {G : List Drive} {row k : Nat}
theorem blk_len : (blkTo G row k).length = k := by simp [blkTo]
theorem blk_wiped (h : (G.getD k default).Wiped = true) : blkTo G row (k + 1) = blkTo G row k ++ [[]] := by simp only [blkTo, List.range_succ, List.map_append, List.map_cons, List.map_nil]; rw [blkAt, if_pos h]
theorem blk_live (h : (G.getD k default).Wiped = false) : blkTo G row (k + 1) = blkTo G row k ++ [((G.getD k default).Blocks.getD row default).Bytes] := by
  simp only [blkTo, List.range_succ, List.map_append, List.map_cons, List.map_nil]; rw [blkAt, if_neg (by rw [h]; simp)]
theorem blk_get {i : Nat} (h : i < k) : (blkTo G row k).getD i [] = blkAt G row i := by simp [blkTo, List.getD, h]
def cntTo (xs : List (List UInt8)) : Nat → Nat
  | 0 => 0
  | k + 1 => if 0 < (xs.getD k []).length then cntTo xs k + 1 else cntTo xs k
theorem have_cnt {xs : List (List UInt8)} {n : Nat} : ∀ k, (haveTo xs n k).length = min n (cntTo xs k)
  | 0 => by simp [haveTo, cntTo]
  | k + 1 => by
    have ih := have_cnt (xs := xs) (n := n) k
    rw [cntTo]
    by_cases h : 0 < (xs.getD k []).length
    · rw [if_pos h]
      by_cases h2 : (haveTo xs n k).length < n
      · rw [(have_yes ⟨h, h2⟩).1, List.length_append]; simp; omega
      · rw [(have_no (by omega)).1]; omega
    · rw [if_neg h, (have_no (by omega)).1]; exact ih
theorem cnt_wiped {m : Nat} (h : ∀ i, i < m → (G.getD i default).Wiped = false → 0 < ((G.getD i default).Blocks.getD row default).Bytes.length) : ∀ k, k ≤ m → cntTo (blkTo G row m) k + (wipedTo G k).length = k
  | 0, _ => rfl
  | k + 1, hk => by
    have ih := cnt_wiped h k (by omega)
    rw [cntTo, blk_get (by omega)]
    by_cases hw : (G.getD k default).Wiped = true
    · rw [wiped_yes hw, blkAt, if_pos hw, if_neg (by simp), List.length_append]; simp; omega
    · have hw' : (G.getD k default).Wiped = false := by simpa using hw
      rw [wiped_no hw', blkAt, if_neg hw, if_pos (h k (by omega) hw')]; omega
end
section
variable {z : Wld} {g row : Int}
theorem blk_part (hs : z.Shape.ok = true) (hG : groupsOK z = true) (hg : ins g 0 (z.Shape.Groups + z.Shape.Column - 1) = true) (hr : ins row 0 (z.Shape.Rows - 1) = true) :
    (blkOf z g row).length = z.Shape.Data.toNat + z.Shape.Spare.toNat ∧ Part (blkOf z g row) ∧ decOk z.Shape.Data.toNat (blkOf z g row) = !deadF z g := by
  have hsd := shape_bd hs
  have hgg := groups_get hG
  have hgi := ins_iff.1 hg
  have hri := ins_iff.1 hr
  obtain ⟨hl, hd⟩ := hgg.2 g.toNat (by omega)
  have hb : ∀ i, i < (z.Groups.getD g.toNat []).length → (((z.Groups.getD g.toNat []).getD i default).Blocks.getD row.toNat default).Bytes.length = 4 := fun i hi => by
    obtain ⟨h1, h2⟩ := hd i hi
    exact (blockOK_get (h2 row.toNat (by omega))).2.2
  have hlen : (blkOf z g row).length = (z.Groups.getD g.toNat []).length := blk_len
  refine ⟨by omega, fun i hi => ?_, ?_⟩
  · rw [hlen] at hi
    unfold blkOf
    rw [blk_get hi, blkAt]
    split
    · exact .inr rfl
    · exact .inl (hb i hi)
  · have hc := cnt_wiped (G := z.Groups.getD g.toNat []) (row := row.toNat) (m := (z.Groups.getD g.toNat []).length) (fun i hi _ => by rw [hb i hi]; omega) (z.Groups.getD g.toNat []).length (Nat.le_refl _)
    have hh := have_cnt (xs := blkOf z g row) (n := z.Shape.Data.toNat) (blkOf z g row).length
    rw [hlen] at hh
    unfold decOk deadF wipedL
    rw [hlen, hh]
    change cntTo (blkOf z g row) _ + _ = _ at hc
    rw [← decide_not]
    exact decide_eq_decide.2 (by omega)
def rowB (z : Wld) (g row : Int) : List UInt8 := decL z.Shape.Data.toNat (blkOf z g row)
end
end Go.Wk
namespace Go.Wk
open Go.Proofs Rp
set_option maxRecDepth 10000
theorem Tryz_impl_Shape_row {w : World} {s : Shape} (hs : s.ok = true) : Ret Tryz.prog 160 #[s.v] w fun v w' => Ext No w w' ∧ (v = .agg #[.int .i64 (s.Data.toNat : Nat), .int .i64 (s.Spare.toNat : Nat)]) := by
 have sbd := shape_bd hs
 refine ret_Q (vs := [s.v]) Tryz.func160 rfl Tryz.ntmps160 rfl (fun Q hQ hN => ?_)
 have H0 := Sep.start (w := w) (F := []) (by simp)
 refine W_sr (s_box (wn rfl) rfl rfl H0 (fun b1 w1 e1 g1 H1 => ?_))
 refine s_var (wn rfl) rfl Tryz.zeroValue166 H1 (fun b2 w2 e2 g2 H2 => ?_)
 refine s_nil (W_sr (sV rfl (py_field Tryz.underlying33 rfl Tryz.sizeOf2 rfl rfl) (sV rfl (py_load Tryz.underlying2 rfl rfl (cell_atL (H2.box 0 rfl) rfl)) (sV rfl (py_field Tryz.underlying33 rfl Tryz.sizeOf2 rfl rfl) (sV rfl (py_load Tryz.underlying2 rfl rfl (cell_atL (H2.box 0 rfl) rfl)) (sV rfl (py_buildS Tryz_pl166 rfl rfl) (s_stoS (wn rfl) Tryz.sizeOf166 rfl rfl rfl rfl H2 1 rfl rfl (fun w3 e3 H3 => ?_))))))))
 dsimp only [List.nil_append, List.cons_append, List.set_cons_zero, List.set_cons_succ, layL] at H3
 refine s_nil (W_ret (hQ _ _ (finC Tryz.results160 rfl (run_loadVarS Tryz.underlying166 rfl Tryz.sizeOf166 rfl (At.whole (H3.box 1 rfl))) (⟨H3.ext, ?_⟩))))
 rw [Int.toNat_of_nonneg (by omega), Int.toNat_of_nonneg (by omega)]
 rfl
theorem Tryz_impl_World_blocks {w : World} {zb : Nat} {z : Wld} {zA9 : Option Addr} {zC9 : Nat} {zA10 : Option Addr} {zC10 : Nat} {zA11 : Option Addr} {zC11 : Nat} {zF9 : List Nat} {zF10 : List Nat} {zF11 : List Nat} {g : Int} {row : Int} (zB : w.heap[zb]? = some (.cells [.int .i64 z.Shape.Groups, .int .i64 z.Shape.Column, .int .i64 z.Shape.Data, .int .i64 z.Shape.Spare, .int .i64 z.Shape.Rows, .int .i64 z.Shape.Cap, .int .i64 z.Shape.Batch, .int .i64 z.Shape.Queue, .int .i64 z.Shape.Stage, .slice zA9 z.Groups.length zC9, .slice zA10 z.On.length zC10, .slice zA11 z.Tapes.length zC11, .int .i64 z.Writes, .int .i64 z.Stop, .bool z.Down].toArray 37)) (zK : z.Ok) (zO9 : own false w [.slice zA9 z.Groups.length zC9] z.Groups zF9) (zO10 : own false w [.slice zA10 z.On.length zC10] z.On zF10) (zO11 : own false w [.slice zA11 z.Tapes.length zC11] z.Tapes zF11) (hs : z.Shape.ok = true) (hG : groupsOK z = true) (hg : ins g 0 (z.Shape.Groups + z.Shape.Column - 1) = true) (hr : ins row 0 (z.Shape.Rows - 1) = true) : Ret Tryz.prog 162 #[.pointer (some ⟨zb, 0, none⟩), .int .i64 g, .int .i64 row] w fun v w' => Ext No w w' ∧ (∃ fp, own false w' [v] (blkOf z g row) fp ∧ ∀ b ∈ fp, b ∈ zF9 ∨ w.heap.size ≤ b) := by
 have zK2 := zK
 unfold Wld.Ok Shape.Ok at zK2
 try unfold I64ok at zK2
 try unfold maxLen at zK2
 have zL9 := own_len_le zO9
 unfold maxLen at zL9
 have zL10 := own_len_le zO10
 unfold maxLen at zL10
 have zL11 := own_len_le zO11
 unfold maxLen at zL11
 have sbd := shape_bd hs
 have hgg := groups_get hG
 have hgl := hgg.1
 have hgi := ins_iff.1 hg
 obtain ⟨hdl, hdd⟩ := hgg.2 g.toNat (by omega)
 have hri := ins_iff.1 hr
 refine ret_Q (vs := [.pointer (some ⟨zb, 0, none⟩), .int .i64 g, .int .i64 row]) Tryz.func162 rfl Tryz.ntmps162 rfl (fun Q hQ hN => ?_)
 have H0 := Sep.start (w := w) (F := [box zb (.cells [.int .i64 z.Shape.Groups, .int .i64 z.Shape.Column, .int .i64 z.Shape.Data, .int .i64 z.Shape.Spare, .int .i64 z.Shape.Rows, .int .i64 z.Shape.Cap, .int .i64 z.Shape.Batch, .int .i64 z.Shape.Queue, .int .i64 z.Shape.Stage, .slice zA9 z.Groups.length zC9, .slice zA10 z.On.length zC10, .slice zA11 z.Tapes.length zC11, .int .i64 z.Writes, .int .i64 z.Stop, .bool z.Down].toArray 37), seen false [.slice zA9 z.Groups.length zC9] z.Groups zF9, seen false [.slice zA10 z.On.length zC10] z.On zF10, seen false [.slice zA11 z.Tapes.length zC11] z.Tapes zF11]) (all_cons (by exact zB) (all_cons zO9 (all_cons zO10 (all_cons zO11 (by simp)))))
 refine W_sr (sV rfl (py_assign rfl) (s_nil (W_sr (s_lit0 (α := View) (wn rfl) rfl Tryz.underlying163 Tryz_ty61 H0 (fun b1 w1 e1 g1 H1 => ?_)))))
 refine sV rfl (py_assign rfl) (s_nil (W_seq (W_seq ?_)))
 obtain ⟨eb1, eo1, ea1, ek1, ef1, ee1, ec1, eO1, eH1⟩ := elem_sl (H1.seen 1 rfl) g.toNat (by omega)
 have eP1 := H1.look1 1 rfl eO1 eH1
 refine W_reg (sV rfl (py_move rfl) (sV rfl (py_nil rfl) (sV rfl (py_field Tryz.underlying37 rfl Tryz.sizeOf34 rfl rfl) (sV rfl (py_load Tryz.underlying34 rfl rfl (cell_atL (eP1.fbox 0 rfl) rfl)) (sV rfl (py_move rfl) (sV rfl (py_elz Tryz.underlying34 Tryz.sizeOf147 rfl rfl ee1 g.toNat (by omega) (by omega)) (sV rfl (py_load Tryz.underlying147 rfl rfl ec1) (sV rfl (py_len Tryz.underlying147 rfl) (sV rfl (py_move rfl) (s_nil (W_block ?_)))))))))))
 have H3 := eP1.noRows (β := UInt8)
 try dsimp only [List.nil_append, List.cons_append, List.set_cons_zero, List.set_cons_succ] at H3
 refine W_loopV (β := UInt8) (γ := Nat) (fun k => blkTo (z.Groups.getD g.toNat []) row.toNat k) 0 H3 0 rfl 5 rfl rfl 7 rfl (fun gg => ∀ b ∈ gg, b ∈ zF9) (by simp) [(2, _), (6, _), (17, _), (18, _)] ⟨rfl, rfl, rfl, rfl, trivial⟩ (fun k => [(19, .int .i64 k)]) (fun k => k ≤ (z.Groups.getD g.toNat []).length ∧ True) (fun k => (z.Groups.getD g.toNat []).length - k) ⟨rfl, trivial⟩ ⟨by omega, trivial⟩ (fun k vA1 fA1 vs1 gA1 w2 H2 vl vg ⟨hk, _⟩ => ?_)
 dsimp only [List.cons_append, List.nil_append, List.set_cons_zero, List.set_cons_succ] at H2 ⊢
 refine W_sr (sV rfl (py_lss rfl rfl) (s_nil (W_seq (W_ifd rfl (fun c1 => ?_) (fun c1 => ?_)))))
 ·refine W_skip (W_seq (W_block (W_seq ?_)))
  obtain ⟨eb2, eo2, es1, ef2, ee2, ec2, eO2, eH2, em1⟩ := elem_st (H2.seen 4 rfl) k (by omega)
  obtain ⟨ea2, ek2, eg1, rfl, eq1, eK1, eo3⟩ := own_Drive eO2
  have eP2 := H2.look1 4 rfl eo3 (fun b hb => eH2 b (by rw [eq1]; simp [hb]))
  have eL1 := own_len_le eo3
  unfold maxLen at eL1
  refine W_reg (sV rfl (py_elz Tryz.underlying147 Tryz.sizeOf150 rfl rfl ee2 k (by omega) (by omega)) (sV rfl (py_loadS Tryz.underlying150 rfl Tryz.sizeOf150 rfl rfl ec2) (s_var (wn rfl) rfl Tryz.zeroValue150 eP2 (fun b2 w3 e2 g2 H4 => ?_))))
  refine s_stoS (wn rfl) Tryz.sizeOf150 rfl rfl rfl rfl H4 1 rfl rfl (fun w4 e3 H5 => ?_)
  dsimp only [List.nil_append, List.cons_append, List.set_cons_zero, List.set_cons_succ, layL] at H5
  refine s_nil (W_sr (sV rfl (py_field Tryz.underlying150 rfl Tryz.sizeOf4 rfl rfl) (sV rfl (py_load Tryz.underlying4 rfl rfl (cell_atL (H5.box 1 rfl) rfl)) (s_nil (W_if rfl (fun c2 => ?_) (fun c2 => ?_))))))
  ·have bl := blk_len (G := (z.Groups.getD g.toNat [])) (row := row.toNat) (k := k)
   refine W_reg (sV rfl (py_move rfl) (s_lit1 (wn rfl) rfl Tryz.underlying163 Tryz_ty61 rfl rfl rfl rfl H5 (fun b3 w5 e4 g3 H6 => ?_)))
   have H8 := H6.nilF (β := UInt8)
   try dsimp only [List.nil_append, List.cons_append, List.set_cons_zero, List.set_cons_succ] at H8
   refine s_app1 (α := View) (u := ⟨_, _, _⟩) (wn rfl) rfl Tryz.underlying163 Tryz_ty61 rfl rfl rfl H8 0 2 rfl rfl ⟨rfl, rfl⟩ (by unfold maxLen; omega) (by omega) (fun v1 w6 fp1 H7 => ?_)
   try dsimp only [List.nil_append, List.cons_append, List.set_cons_zero, List.set_cons_succ] at H7
   obtain ⟨rg1, H9, rh1⟩ := H7.rowApp (y := ([] : List UInt8)) 5 7 rfl rfl (by first | assumption | omega)
   try dsimp only [List.nil_append, List.cons_append, List.set_cons_zero, List.set_cons_succ] at H9
   refine sV rfl (py_assign rfl) (s_nil (W_reg (sV rfl (py_add rfl rfl (in64 ⟨by omega, by omega⟩)) (sV rfl (py_move rfl) (s_nil ?_)))))
   have bq := blk_wiped (row := row.toNat) c2
   rw [← bq] at H9
   exact ⟨(k + 1, _, _, _, _), ⟨rfl, rfl, rfl, rfl, rfl, rfl, trivial⟩, ⟨((H9.ftake 6).dtake 1), by rw [bq, List.length_append, List.length_append, vl]; rfl, (fun b hb => (rh1 b hb).elim (vg b) (fun h => absurd h (by simp))), by omega, trivial⟩, by dsimp only; omega⟩
  ·have bl := blk_len (G := (z.Groups.getD g.toNat [])) (row := row.toNat) (k := k)
   have hbl := hdd k (by omega)
   obtain ⟨eb3, eo4, es2, ef3, ee3, ec3, eO3, eH3, em2⟩ := elem_st (H5.seen 6 rfl) row.toNat (by omega)
   obtain ⟨ea3, ek3, eg2, rfl, eq2, eK2, eo5⟩ := own_Block eO3
   have eK2U := eK2
   unfold Block.Ok at eK2U
   try unfold I64ok at eK2U
   try unfold maxLen at eK2U
   have eP3 := H5.look1 6 rfl eo5 (fun b hb => eH3 b (by rw [eq2]; simp [hb]))
   have eL2 := own_len_le eo5
   unfold maxLen at eL2
   refine W_reg (sV rfl (py_move rfl) (sV rfl (py_field Tryz.underlying150 rfl Tryz.sizeOf148 rfl rfl) (sV rfl (py_load Tryz.underlying148 rfl rfl (cell_atL (eP3.box 1 rfl) rfl)) (sV rfl (py_move rfl) (sV rfl (py_elz Tryz.underlying148 Tryz.sizeOf152 rfl rfl ee3 row.toNat (by omega) (by omega)) (sV rfl (py_field Tryz.underlying152 rfl Tryz.sizeOf61 rfl rfl) (sV rfl (py_load Tryz.underlying61 rfl rfl (at_cell ec3 1 rfl)) (s_lit1 (wn rfl) rfl Tryz.underlying163 Tryz_ty61 rfl rfl rfl rfl eP3 (fun b4 w7 e5 g4 H10 => ?_)))))))))
   refine s_app1 (α := View) (u := ⟨_, _, _⟩) (wn rfl) rfl Tryz.underlying163 Tryz_ty61 rfl rfl rfl H10 0 2 rfl rfl ⟨rfl, rfl⟩ (by unfold maxLen; omega) (by omega) (fun v2 w8 fp2 H11 => ?_)
   try dsimp only [List.nil_append, List.cons_append, List.set_cons_zero, List.set_cons_succ] at H11
   obtain ⟨rg2, H12, rh2⟩ := H11.rowApp 5 7 rfl rfl (by first | assumption | omega)
   try dsimp only [List.nil_append, List.cons_append, List.set_cons_zero, List.set_cons_succ] at H12
   refine sV rfl (py_assign rfl) (s_nil (W_reg (sV rfl (py_add rfl rfl (in64 ⟨by omega, by omega⟩)) (sV rfl (py_move rfl) (s_nil ?_)))))
   have bq := blk_live (row := row.toNat) c2
   rw [← bq] at H12
   exact ⟨(k + 1, _, _, _, _), ⟨rfl, rfl, rfl, rfl, rfl, rfl, trivial⟩, ⟨((H12.ftake 6).dtake 1), by rw [bq, List.length_append, List.length_append, vl]; rfl, (fun b hb => (rh2 b hb).elim (vg b) (fun h => eH1 _ (eH2 _ (by rw [eq1]; exact eH3 _ (by rw [eq2]; exact h))))), by omega, trivial⟩, by dsimp only; omega⟩
 ·refine W_exit (W_sr (sV rfl (py_move rfl) (sV rfl (py_assign rfl) (s_nil (W_ret (hQ _ _ (fin1 Tryz.results162 rfl ?_)))))))
  obtain rfl : k = (z.Groups.getD g.toNat []).length := by omega
  obtain ⟨fpV, HV, hfV⟩ := H2.viewsIn 0 5 rfl rfl vl
  exact ⟨H2.ext, fpV, (HV.seen 6 rfl), fun b hb => (hfV b hb).elim (fun h => .inr (H2.freshD 0 rfl b h)) (fun h => .inl (vg b h))⟩
theorem Tryz_impl_World_rowBytes {w : World} {zb : Nat} {z : Wld} {zA9 : Option Addr} {zC9 : Nat} {zA10 : Option Addr} {zC10 : Nat} {zA11 : Option Addr} {zC11 : Nat} {zF9 : List Nat} {zF10 : List Nat} {zF11 : List Nat} {g : Int} {row : Int} (zB : w.heap[zb]? = some (.cells [.int .i64 z.Shape.Groups, .int .i64 z.Shape.Column, .int .i64 z.Shape.Data, .int .i64 z.Shape.Spare, .int .i64 z.Shape.Rows, .int .i64 z.Shape.Cap, .int .i64 z.Shape.Batch, .int .i64 z.Shape.Queue, .int .i64 z.Shape.Stage, .slice zA9 z.Groups.length zC9, .slice zA10 z.On.length zC10, .slice zA11 z.Tapes.length zC11, .int .i64 z.Writes, .int .i64 z.Stop, .bool z.Down].toArray 37)) (zK : z.Ok) (zO9 : own false w [.slice zA9 z.Groups.length zC9] z.Groups zF9) (zO10 : own false w [.slice zA10 z.On.length zC10] z.On zF10) (zO11 : own false w [.slice zA11 z.Tapes.length zC11] z.Tapes zF11) (hs : z.Shape.ok = true) (hG : groupsOK z = true) (hg : ins g 0 (z.Shape.Groups + z.Shape.Column - 1) = true) (hr : ins row 0 (z.Shape.Rows - 1) = true) : Ret Tryz.prog 117 #[.pointer (some ⟨zb, 0, none⟩), .int .i64 g, .int .i64 row] w fun v w' => Ext No w w' ∧ (Res w w' [v] (rowB z g row)) := by
 have zK2 := zK
 unfold Wld.Ok Shape.Ok at zK2
 try unfold I64ok at zK2
 try unfold maxLen at zK2
 have zL9 := own_len_le zO9
 unfold maxLen at zL9
 have zL10 := own_len_le zO10
 unfold maxLen at zL10
 have zL11 := own_len_le zO11
 unfold maxLen at zL11
 have sbd := shape_bd hs
 have hgg := groups_get hG
 have hgl := hgg.1
 have hgi := ins_iff.1 hg
 obtain ⟨hdl, hdd⟩ := hgg.2 g.toNat (by omega)
 have hri := ins_iff.1 hr
 obtain ⟨pl, pp, pd⟩ := blk_part (row := row) hs hG hg hr
 refine ret_Q (vs := [.pointer (some ⟨zb, 0, none⟩), .int .i64 g, .int .i64 row]) Tryz.func117 rfl Tryz.ntmps117 rfl (fun Q hQ hN => ?_)
 have H0 := Sep.start (w := w) (F := [box zb (.cells [.int .i64 z.Shape.Groups, .int .i64 z.Shape.Column, .int .i64 z.Shape.Data, .int .i64 z.Shape.Spare, .int .i64 z.Shape.Rows, .int .i64 z.Shape.Cap, .int .i64 z.Shape.Batch, .int .i64 z.Shape.Queue, .int .i64 z.Shape.Stage, .slice zA9 z.Groups.length zC9, .slice zA10 z.On.length zC10, .slice zA11 z.Tapes.length zC11, .int .i64 z.Writes, .int .i64 z.Stop, .bool z.Down].toArray 37), seen false [.slice zA9 z.Groups.length zC9] z.Groups zF9, seen false [.slice zA10 z.On.length zC10] z.On zF10, seen false [.slice zA11 z.Tapes.length zC11] z.Tapes zF11]) (all_cons (by exact zB) (all_cons zO9 (all_cons zO10 (all_cons zO11 (by simp)))))
 refine W_sr (sV rfl (py_assign rfl) (s_nil (W_sr (sV rfl (py_move rfl) (sV rfl (py_nil rfl) (sV rfl (py_field Tryz.underlying37 rfl Tryz.sizeOf33 rfl rfl) (sV rfl (py_loadS Tryz.underlying33 rfl Tryz.sizeOf33 rfl rfl (At.sub (H0.fbox 0 rfl) 9)) (s_call (wn rfl) rfl rfl (pc_call Tryz.func160 rfl Tryz_nm160 rfl) (Tryz_impl_Shape_row (by assumption)) (fun v1 w1 r1 => ?_)))))))))
 obtain ⟨e1, rfl⟩ := r1
 have H1 := H0.to e1
 refine sV rfl (py_move rfl) (sV rfl (py_move rfl) (sV rfl (py_move rfl) (s_call (wn rfl) rfl rfl (pc_call Tryz.func162 rfl Tryz_nm162 rfl) (Tryz_impl_World_blocks (H1.fbox 0 rfl) (by assumption) (own_weak (H1.seen 1 rfl)) (own_weak (H1.seen 2 rfl)) (own_weak (H1.seen 3 rfl)) (by assumption) (by assumption) (by assumption) (by assumption)) (fun v2 w2 r2 => ?_))))
 obtain ⟨e2, fpS1, oS1, hS1⟩ := r2
 have H2 := H1.lookS e2 1 rfl oS1 hS1
 obtain ⟨a1, k1, q1⟩ := own_slice (H2.seen 4 rfl)
 cases q1
 refine s_call (wn rfl) rfl rfl (pc_call Tryz.func193 rfl Tryz_nm193 rfl) (Tryz_impl_rowCode_decode (n := z.Shape.Data.toNat) (s := z.Shape.Spare.toNat) (by omega) pl pp (H2.sees 4 rfl)) (fun v3 w3 r3 => ?_)
 obtain ⟨e3, sa1, sk1, rfl, r3⟩ := r3
 obtain ⟨fp1, H3⟩ := H2.res e3 r3
 refine sV rfl (py_move rfl) (sV rfl (py_extr rfl rfl) (sV rfl (py_extr rfl rfl) (sV rfl (py_assign rfl) (sV rfl (py_assign rfl) (s_nil (W_sr (sV rfl (py_move rfl) (sV rfl (py_assign rfl) (s_nil (W_ret (hQ _ _ (fin1 Tryz.results117 rfl ?_))))))))))))
 exact ⟨H3.ext, H3.out 0 rfl⟩
theorem Tryz_spec_l7Bytes {w : World} {zb : Nat} {z : Wld} {zA9 : Option Addr} {zC9 : Nat} {zA10 : Option Addr} {zC10 : Nat} {zA11 : Option Addr} {zC11 : Nat} {g : Int} {row : Int} (zB : w.heap[zb]? = some (.cells [.int .i64 z.Shape.Groups, .int .i64 z.Shape.Column, .int .i64 z.Shape.Data, .int .i64 z.Shape.Spare, .int .i64 z.Shape.Rows, .int .i64 z.Shape.Cap, .int .i64 z.Shape.Batch, .int .i64 z.Shape.Queue, .int .i64 z.Shape.Stage, .slice zA9 z.Groups.length zC9, .slice zA10 z.On.length zC10, .slice zA11 z.Tapes.length zC11, .int .i64 z.Writes, .int .i64 z.Stop, .bool z.Down].toArray 37)) (zK : z.Ok) (zS9 : Sees w [.slice zA9 z.Groups.length zC9] z.Groups) (zS10 : Sees w [.slice zA10 z.On.length zC10] z.On) (zS11 : Sees w [.slice zA11 z.Tapes.length zC11] z.Tapes) (hs : z.Shape.ok = true) (hG : groupsOK z = true) (hg : ins g 0 (z.Shape.Groups + z.Shape.Column - 1) = true) (hr : ins row 0 (z.Shape.Rows - 1) = true) : Ret Tryz.prog 116 #[.pointer (some ⟨zb, 0, none⟩), .int .i64 g, .int .i64 row] w fun v w' => Ext No w w' ∧ (∃ A C, v = .tuple #[.slice A (rowB z g row).length C, .bool (!deadF z g)] ∧ Res w w' [.slice A (rowB z g row).length C] (rowB z g row)) := by
 have zK2 := zK
 unfold Wld.Ok Shape.Ok at zK2
 try unfold I64ok at zK2
 try unfold maxLen at zK2
 have zL9 := sees_len zS9
 unfold maxLen at zL9
 obtain ⟨zF9, zO9⟩ := zS9
 have zL10 := sees_len zS10
 unfold maxLen at zL10
 obtain ⟨zF10, zO10⟩ := zS10
 have zL11 := sees_len zS11
 unfold maxLen at zL11
 obtain ⟨zF11, zO11⟩ := zS11
 have sbd := shape_bd hs
 have hgg := groups_get hG
 have hgl := hgg.1
 have hgi := ins_iff.1 hg
 obtain ⟨hdl, hdd⟩ := hgg.2 g.toNat (by omega)
 have hri := ins_iff.1 hr
 obtain ⟨pl, pp, pd⟩ := blk_part (row := row) hs hG hg hr
 refine ret_Q (vs := [.pointer (some ⟨zb, 0, none⟩), .int .i64 g, .int .i64 row]) Tryz.func116 rfl Tryz.ntmps116 rfl (fun Q hQ hN => ?_)
 have H0 := Sep.start (w := w) (F := [box zb (.cells [.int .i64 z.Shape.Groups, .int .i64 z.Shape.Column, .int .i64 z.Shape.Data, .int .i64 z.Shape.Spare, .int .i64 z.Shape.Rows, .int .i64 z.Shape.Cap, .int .i64 z.Shape.Batch, .int .i64 z.Shape.Queue, .int .i64 z.Shape.Stage, .slice zA9 z.Groups.length zC9, .slice zA10 z.On.length zC10, .slice zA11 z.Tapes.length zC11, .int .i64 z.Writes, .int .i64 z.Stop, .bool z.Down].toArray 37), seen false [.slice zA9 z.Groups.length zC9] z.Groups zF9, seen false [.slice zA10 z.On.length zC10] z.On zF10, seen false [.slice zA11 z.Tapes.length zC11] z.Tapes zF11]) (all_cons (by exact zB) (all_cons zO9 (all_cons zO10 (all_cons zO11 (by simp)))))
 refine W_sr (sV rfl (py_assign rfl) (sV rfl (py_assign rfl) (s_nil (W_sr (s_lit0 (α := View) (wn rfl) rfl Tryz.underlying163 Tryz_ty61 H0 (fun b1 w1 e1 g1 H1 => ?_))))))
 refine sV rfl (py_assign rfl) (s_nil (W_seq (W_sr (sV rfl (py_assign rfl) (s_nil (W_block ?_))))))
 have H3 := H1.noRows (β := UInt8)
 try dsimp only [List.nil_append, List.cons_append, List.set_cons_zero, List.set_cons_succ] at H3
 refine W_loopV (β := UInt8) (γ := Nat) (fun k => blkTo (z.Groups.getD g.toNat []) row.toNat k) 0 H3 0 rfl 4 rfl rfl 8 rfl (fun _ => True) trivial [(0, _), (1, _), (2, _), (6, _), (7, _)] ⟨rfl, rfl, rfl, rfl, rfl, trivial⟩ (fun k => [(9, .int .i64 k)]) (fun k => k ≤ (z.Groups.getD g.toNat []).length ∧ True) (fun k => (z.Groups.getD g.toNat []).length - k) ⟨rfl, trivial⟩ ⟨by omega, trivial⟩ (fun k vA1 fA1 vs1 gA1 w2 H2 vl vg ⟨hk, _⟩ => ?_)
 dsimp only [List.cons_append, List.nil_append, List.set_cons_zero, List.set_cons_succ] at H2 ⊢
 refine W_seq (W_seq ?_)
 obtain ⟨eb1, eo1, ea1, ek1, ef1, ee1, ec1, eO1, eH1⟩ := elem_sl (H2.seen 1 rfl) g.toNat (by omega)
 have eP1 := H2.look1 1 rfl eO1 eH1
 refine W_reg (sV rfl (py_move rfl) (sV rfl (py_move rfl) (sV rfl (py_nil rfl) (sV rfl (py_field Tryz.underlying37 rfl Tryz.sizeOf34 rfl rfl) (sV rfl (py_load Tryz.underlying34 rfl rfl (cell_atL (eP1.fbox 0 rfl) rfl)) (sV rfl (py_move rfl) (sV rfl (py_elz Tryz.underlying34 Tryz.sizeOf147 rfl rfl ee1 g.toNat (by omega) (by omega)) (sV rfl (py_load Tryz.underlying147 rfl rfl ec1) (sV rfl (py_len Tryz.underlying147 rfl) (sV rfl (py_lss rfl rfl) (s_nil (W_ifd rfl (fun c1 => ?_) (fun c1 => ?_)))))))))))))
 ·refine W_skip (W_seq (W_block (W_seq ?_)))
  obtain ⟨eb2, eo2, ea2, ek2, ef2, ee2, ec2, eO2, eH2⟩ := elem_sl (eP1.seen 1 rfl) g.toNat (by omega)
  have eP2 := eP1.look1 1 rfl eO2 eH2
  obtain ⟨eb3, eo3, es1, ef3, ee3, ec3, eO3, eH3, em1⟩ := elem_st (eP2.seen 6 rfl) k (by omega)
  obtain ⟨ea3, ek3, eg1, rfl, eq1, eK1, eo4⟩ := own_Drive eO3
  have eP3 := eP2.look1 6 rfl eo4 (fun b hb => eH3 b (by rw [eq1]; simp [hb]))
  have eL1 := own_len_le eo4
  unfold maxLen at eL1
  refine W_reg (sV rfl (py_move rfl) (sV rfl (py_nil rfl) (sV rfl (py_field Tryz.underlying37 rfl Tryz.sizeOf34 rfl rfl) (sV rfl (py_load Tryz.underlying34 rfl rfl (cell_atL (eP3.fbox 0 rfl) rfl)) (sV rfl (py_move rfl) (sV rfl (py_elz Tryz.underlying34 Tryz.sizeOf147 rfl rfl ee2 g.toNat (by omega) (by omega)) (sV rfl (py_load Tryz.underlying147 rfl rfl ec2) (sV rfl (py_move rfl) (sV rfl (py_elz Tryz.underlying147 Tryz.sizeOf150 rfl rfl ee3 k (by omega) (by omega)) (sV rfl (py_field Tryz.underlying150 rfl Tryz.sizeOf4 rfl rfl) (sV rfl (py_load Tryz.underlying4 rfl rfl (at_cell ec3 0 rfl)) (s_nil (W_if rfl (fun c2 => ?_) (fun c2 => ?_))))))))))))))
  ·have bl := blk_len (G := (z.Groups.getD g.toNat [])) (row := row.toNat) (k := k)
   refine W_reg (sV rfl (py_move rfl) (s_lit1 (wn rfl) rfl Tryz.underlying163 Tryz_ty61 rfl rfl rfl rfl eP3 (fun b2 w3 e2 g2 H4 => ?_)))
   have H6 := H4.nilF (β := UInt8)
   try dsimp only [List.nil_append, List.cons_append, List.set_cons_zero, List.set_cons_succ] at H6
   refine s_app1 (α := View) (u := ⟨_, _, _⟩) (wn rfl) rfl Tryz.underlying163 Tryz_ty61 rfl rfl rfl H6 0 1 rfl rfl ⟨rfl, rfl⟩ (by unfold maxLen; omega) (by omega) (fun v1 w4 fp1 H5 => ?_)
   try dsimp only [List.nil_append, List.cons_append, List.set_cons_zero, List.set_cons_succ] at H5
   obtain ⟨rg1, H7, rh1⟩ := H5.rowApp (y := ([] : List UInt8)) 4 8 rfl rfl (by first | assumption | omega)
   try dsimp only [List.nil_append, List.cons_append, List.set_cons_zero, List.set_cons_succ] at H7
   refine sV rfl (py_assign rfl) (s_nil (W_reg (sV rfl (py_move rfl) (sV rfl (py_add rfl rfl (in64 ⟨by omega, by omega⟩)) (sV rfl (py_assign rfl) (s_nil ?_))))))
   have bq := blk_wiped (row := row.toNat) c2
   rw [← bq] at H7
   exact ⟨(k + 1, _, _, _, _), ⟨rfl, rfl, rfl, rfl, rfl, rfl, rfl, trivial⟩, ⟨((H7.ftake 5).dtake 1), by rw [bq, List.length_append, List.length_append, vl]; rfl, trivial, by omega, trivial⟩, by dsimp only; omega⟩
  ·have bl := blk_len (G := (z.Groups.getD g.toNat [])) (row := row.toNat) (k := k)
   have hbl := hdd k (by omega)
   obtain ⟨eb4, eo5, ea4, ek4, ef4, ee4, ec4, eO4, eH4⟩ := elem_sl (eP3.seen 1 rfl) g.toNat (by omega)
   have eP4 := eP3.look1 1 rfl eO4 eH4
   obtain ⟨eb5, eo6, es2, ef5, ee5, ec5, eO5, eH5, em2⟩ := elem_st (eP4.seen 8 rfl) k (by omega)
   obtain ⟨ea5, ek5, eg2, rfl, eq2, eK2, eo7⟩ := own_Drive eO5
   have eP5 := eP4.look1 8 rfl eo7 (fun b hb => eH5 b (by rw [eq2]; simp [hb]))
   have eL2 := own_len_le eo7
   unfold maxLen at eL2
   obtain ⟨eb6, eo8, es3, ef6, ee6, ec6, eO6, eH6, em3⟩ := elem_st (eP5.seen 9 rfl) row.toNat (by omega)
   obtain ⟨ea6, ek6, eg3, rfl, eq3, eK3, eo9⟩ := own_Block eO6
   have eK3U := eK3
   unfold Block.Ok at eK3U
   try unfold I64ok at eK3U
   try unfold maxLen at eK3U
   have eP6 := eP5.look1 9 rfl eo9 (fun b hb => eH6 b (by rw [eq3]; simp [hb]))
   have eL3 := own_len_le eo9
   unfold maxLen at eL3
   refine W_reg (sV rfl (py_move rfl) (sV rfl (py_move rfl) (sV rfl (py_nil rfl) (sV rfl (py_field Tryz.underlying37 rfl Tryz.sizeOf34 rfl rfl) (sV rfl (py_load Tryz.underlying34 rfl rfl (cell_atL (eP6.fbox 0 rfl) rfl)) (sV rfl (py_move rfl) (sV rfl (py_elz Tryz.underlying34 Tryz.sizeOf147 rfl rfl ee4 g.toNat (by omega) (by omega)) (sV rfl (py_load Tryz.underlying147 rfl rfl ec4) (sV rfl (py_move rfl) (sV rfl (py_elz Tryz.underlying147 Tryz.sizeOf150 rfl rfl ee5 k (by omega) (by omega)) (sV rfl (py_field Tryz.underlying150 rfl Tryz.sizeOf148 rfl rfl) (sV rfl (py_load Tryz.underlying148 rfl rfl (at_cell ec5 1 rfl)) (sV rfl (py_move rfl) (sV rfl (py_elz Tryz.underlying148 Tryz.sizeOf152 rfl rfl ee6 row.toNat (by omega) (by omega)) (sV rfl (py_field Tryz.underlying152 rfl Tryz.sizeOf61 rfl rfl) (sV rfl (py_load Tryz.underlying61 rfl rfl (at_cell ec6 1 rfl)) (s_lit1 (wn rfl) rfl Tryz.underlying163 Tryz_ty61 rfl rfl rfl rfl eP6 (fun b3 w5 e3 g3 H8 => ?_))))))))))))))))))
   refine s_app1 (α := View) (u := ⟨_, _, _⟩) (wn rfl) rfl Tryz.underlying163 Tryz_ty61 rfl rfl rfl H8 0 1 rfl rfl ⟨rfl, rfl⟩ (by unfold maxLen; omega) (by omega) (fun v2 w6 fp2 H9 => ?_)
   try dsimp only [List.nil_append, List.cons_append, List.set_cons_zero, List.set_cons_succ] at H9
   obtain ⟨rg2, H10, rh2⟩ := H9.rowApp 4 10 rfl rfl (by first | assumption | omega)
   try dsimp only [List.nil_append, List.cons_append, List.set_cons_zero, List.set_cons_succ] at H10
   refine sV rfl (py_assign rfl) (s_nil (W_reg (sV rfl (py_move rfl) (sV rfl (py_add rfl rfl (in64 ⟨by omega, by omega⟩)) (sV rfl (py_assign rfl) (s_nil ?_))))))
   have bq := blk_live (row := row.toNat) c2
   rw [← bq] at H10
   exact ⟨(k + 1, _, _, _, _), ⟨rfl, rfl, rfl, rfl, rfl, rfl, rfl, trivial⟩, ⟨((H10.ftake 5).dtake 1), by rw [bq, List.length_append, List.length_append, vl]; rfl, trivial, by omega, trivial⟩, by dsimp only; omega⟩
 ·refine W_exit (W_seq ?_)
  obtain rfl : k = (z.Groups.getD g.toNat []).length := by omega
  obtain ⟨pA, pC, pq⟩ := own_slice (eP1.mine 0 rfl)
  rw [vl, show (blkTo (z.Groups.getD g.toNat []) row.toNat (z.Groups.getD g.toNat []).length).length = (blkOf z g row).length from by rw [blkOf]] at pq
  cases pq
  obtain ⟨tf, HV, _⟩ := eP1.viewsIn 0 4 rfl rfl vl
  try dsimp only [List.nil_append, List.cons_append, List.set_cons_zero, List.set_cons_succ] at HV
  refine W_reg (sV rfl (py_move rfl) (sV rfl (py_nil rfl) (sV rfl (py_field Tryz.underlying37 rfl Tryz.sizeOf33 rfl rfl) (sV rfl (py_field Tryz.underlying33 rfl Tryz.sizeOf2 rfl rfl) (sV rfl (py_load Tryz.underlying2 rfl rfl (cell_atL (HV.fbox 0 rfl) rfl)) (sV rfl (py_move rfl) (s_call (wn rfl) rfl rfl (pc_call Tryz.func192 rfl Tryz_nm192 rfl) (by have hS : Sees _ [.slice pA (blkOf z g row).length pC] (blkOf z g row) := HV.sees 6 rfl; have lc := Tryz_spec_l2Decode (n := z.Shape.Data.toNat) (s := z.Shape.Spare.toNat) (xs := blkOf z g row) (by omega) pl pp hS; rw [Int.toNat_of_nonneg (show 0 ≤ z.Shape.Data by omega)] at lc; exact lc) (fun v3 w7 r1 => ?_))))))))
  obtain ⟨e4, sa1, sk1, rfl, r1⟩ := r1
  obtain ⟨fp3, H11⟩ := HV.res e4 r1
  refine sV rfl (py_extr rfl rfl) (sV rfl (py_extr rfl rfl) (sV rfl (py_assign rfl) (sV rfl (py_assign rfl) (s_nil (W_ret (hQ _ _ (fin2 Tryz.results116 rfl rfl ?_)))))))
  exact ⟨H11.ext, _, _, (by rw [← pd]; rfl), H11.out 1 rfl⟩
end Go.Wk
namespace Go.Wk
section
variable {z : Wld} {g row most : Int} {xs : List UInt8}
theorem rowB_len (hs : z.Shape.ok = true) (hG : groupsOK z = true) (hg : ins g 0 (z.Shape.Groups + z.Shape.Column - 1) = true) (hr : ins row 0 (z.Shape.Rows - 1) = true) (hd : deadF z g = false) : ((rowB z g row).length : Int) = z.Shape.Data * 4 := by
  have sbd := shape_bd hs
  obtain ⟨_, hp, hd2⟩ := blk_part hs hG hg hr
  have hk : decOk z.Shape.Data.toNat (blkOf z g row) = true := by rw [hd2, hd]; rfl
  unfold rowB decL
  rw [if_pos hk, decTo_len hp]
  omega
end
end Go.Wk
namespace Go.Wk
section
variable {z : Wld} {g : Int} {i d : Nat}
def wantL (z : Wld) (g : Int) (i : Nat) : List (List UInt8) := encG z.Shape.Data.toNat (z.Shape.Data.toNat + z.Shape.Spare.toNat) (rowB z g i)
def atOK (z : Wld) (g : Int) (i d : Nat) : Bool :=
  ((z.Groups.getD g.toNat []).getD d default).Wiped || decide ((((z.Groups.getD g.toNat []).getD d default).Blocks.getD i default).Bytes = (wantL z g i).getD d [])
def gHolds (z : Wld) (g : Int) : Bool := !deadF z g && decide (∀ i, i < z.Shape.Rows.toNat → ∀ d, d < (z.Groups.getD g.toNat []).length → atOK z g i d = true)
theorem gHolds_dead (h : deadF z g = true) : gHolds z g = false := by rw [gHolds, h]; rfl
theorem gHolds_no (hi : i < z.Shape.Rows.toNat) (hd : d < (z.Groups.getD g.toNat []).length) (h : atOK z g i d = false) : gHolds z g = false := by
  rw [gHolds, decide_eq_false (fun a => by have := a i hi d hd; rw [h] at this; cases this)]
  simp
theorem gHolds_yes (h0 : deadF z g = false) (h : ∀ i, i < z.Shape.Rows.toNat → ∀ d, d < (z.Groups.getD g.toNat []).length → atOK z g i d = true) : gHolds z g = true := by
  rw [gHolds, h0, decide_eq_true h]; rfl
theorem atOK_blk (hd : d < (z.Groups.getD g.toNat []).length) (h4 : ((z.Groups.getD g.toNat []).getD d default).Wiped = false → (((z.Groups.getD g.toNat []).getD d default).Blocks.getD i default).Bytes.length = 4) :
    atOK z g i d = !(decide (0 < ((blkOf z g i).getD d []).length) && !decide ((blkOf z g i).getD d [] = (wantL z g i).getD d [])) := by
  unfold atOK blkOf
  rw [blk_get hd, blkAt, Int.toNat_natCast]
  cases hw : ((z.Groups.getD g.toNat []).getD d default).Wiped
  · have h0 := h4 hw
    generalize (((z.Groups.getD g.toNat []).getD d default).Blocks.getD i default).Bytes = B at h0 ⊢
    have h1 : B ≠ [] := by intro e; rw [e] at h0; cases h0
    simp [h1]
  · simp
def holdsG (z : Wld) (g : Int) : Bool := decide (worldF z = 0) && ins g 0 (z.Shape.Groups + z.Shape.Column - 1) && gHolds z g
end
end Go.Wk
namespace Go.Wk
open Go.Proofs Rp
set_option maxRecDepth 10000
theorem Tryz_impl_World_holds {w : World} {zb : Nat} {z : Wld} {zA9 : Option Addr} {zC9 : Nat} {zA10 : Option Addr} {zC10 : Nat} {zA11 : Option Addr} {zC11 : Nat} {zF9 : List Nat} {zF10 : List Nat} {zF11 : List Nat} {g : Int} (zB : w.heap[zb]? = some (.cells [.int .i64 z.Shape.Groups, .int .i64 z.Shape.Column, .int .i64 z.Shape.Data, .int .i64 z.Shape.Spare, .int .i64 z.Shape.Rows, .int .i64 z.Shape.Cap, .int .i64 z.Shape.Batch, .int .i64 z.Shape.Queue, .int .i64 z.Shape.Stage, .slice zA9 z.Groups.length zC9, .slice zA10 z.On.length zC10, .slice zA11 z.Tapes.length zC11, .int .i64 z.Writes, .int .i64 z.Stop, .bool z.Down].toArray 37)) (zK : z.Ok) (zO9 : own false w [.slice zA9 z.Groups.length zC9] z.Groups zF9) (zO10 : own false w [.slice zA10 z.On.length zC10] z.On zF10) (zO11 : own false w [.slice zA11 z.Tapes.length zC11] z.Tapes zF11) (hs : z.Shape.ok = true) (hG : groupsOK z = true) (hg : ins g 0 (z.Shape.Groups + z.Shape.Column - 1) = true) : Ret Tryz.prog 98 #[.pointer (some ⟨zb, 0, none⟩), .int .i64 g] w fun v w' => Ext No w w' ∧ (v = .bool (gHolds z g)) := by
 have zK2 := zK
 unfold Wld.Ok Shape.Ok at zK2
 try unfold I64ok at zK2
 try unfold maxLen at zK2
 have zL9 := own_len_le zO9
 unfold maxLen at zL9
 have zL10 := own_len_le zO10
 unfold maxLen at zL10
 have zL11 := own_len_le zO11
 unfold maxLen at zL11
 have sbd := shape_bd hs
 have hgg := groups_get hG
 have hgl := hgg.1
 have hgi := ins_iff.1 hg
 obtain ⟨hdl, hdd⟩ := hgg.2 g.toNat (by omega)
 have gln : (z.Groups.getD g.toNat []).length = z.Shape.Data.toNat + z.Shape.Spare.toNat := by omega
 refine ret_Q (vs := [.pointer (some ⟨zb, 0, none⟩), .int .i64 g]) Tryz.func98 rfl Tryz.ntmps98 rfl (fun Q hQ hN => ?_)
 have H0 := Sep.start (w := w) (F := [box zb (.cells [.int .i64 z.Shape.Groups, .int .i64 z.Shape.Column, .int .i64 z.Shape.Data, .int .i64 z.Shape.Spare, .int .i64 z.Shape.Rows, .int .i64 z.Shape.Cap, .int .i64 z.Shape.Batch, .int .i64 z.Shape.Queue, .int .i64 z.Shape.Stage, .slice zA9 z.Groups.length zC9, .slice zA10 z.On.length zC10, .slice zA11 z.Tapes.length zC11, .int .i64 z.Writes, .int .i64 z.Stop, .bool z.Down].toArray 37), seen false [.slice zA9 z.Groups.length zC9] z.Groups zF9, seen false [.slice zA10 z.On.length zC10] z.On zF10, seen false [.slice zA11 z.Tapes.length zC11] z.Tapes zF11]) (all_cons (by exact zB) (all_cons zO9 (all_cons zO10 (all_cons zO11 (by simp)))))
 refine W_sr (sV rfl (py_assign rfl) (s_nil (W_seq (W_sr (sV rfl (py_move rfl) (sV rfl (py_move rfl) (s_call (wn rfl) rfl rfl (pc_call Tryz.func87 rfl Tryz_nm87 rfl) (Tryz_impl_World_dead (H0.fbox 0 rfl) (by assumption) (H0.sees 1 rfl) (H0.sees 2 rfl) (H0.sees 3 rfl) (by first | assumption | exact hgz (by simp_all)) (by first | assumption | exact hgz (by simp_all)) (by first | assumption | exact hgz (by simp_all))) (fun v1 w1 r1 => ?_))))))))
 obtain ⟨e1, rfl⟩ := r1
 have H1 := H0.to e1
 refine s_nil (W_if rfl (fun c1 => ?_) (fun c1 => ?_))
 ·refine W_sr (sV rfl (py_assign rfl) (s_nil (W_ret (hQ _ _ (fin1 Tryz.results98 rfl ?_)))))
  exact ⟨H1.ext, congrArg Value.bool (gHolds_dead (by simp_all)).symm⟩
 ·refine W_skip (W_seq (W_sr (sV rfl (py_move rfl) (sV rfl (py_nil rfl) (sV rfl (py_field Tryz.underlying37 rfl Tryz.sizeOf33 rfl rfl) (sV rfl (py_field Tryz.underlying33 rfl Tryz.sizeOf2 rfl rfl) (sV rfl (py_load Tryz.underlying2 rfl rfl (cell_atL (H1.fbox 0 rfl) rfl)) (sV rfl (py_move rfl) (s_nil (W_block (W_loopS (γ := Nat) H1 [(0, _), (1, _), (16, _)] ⟨rfl, rfl, rfl, trivial⟩ (fun k => [(17, .int .i64 k)]) (fun k => k ≤ z.Shape.Rows.toNat ∧ (∀ i, i < k → ∀ d, d < (z.Groups.getD g.toNat []).length → atOK z g i d = true)) (fun k => z.Shape.Rows.toNat - k) 0 ⟨rfl, trivial⟩ ⟨by omega, fun i hi => by omega⟩ (fun k w2 H2 ⟨hk, he⟩ => ?_))))))))))))
  dsimp only [List.cons_append, List.nil_append]
  refine W_sr (sV rfl (py_lss rfl rfl) (s_nil (W_seq (W_ifd rfl (fun c2 => ?_) (fun c2 => ?_)))))
  ·refine W_skip (W_seq (W_block (W_sr (sV rfl (py_move rfl) (sV rfl (py_assign rfl) (s_nil (W_seq ?_)))))))
   have hrk : ins (k : Int) 0 (z.Shape.Rows - 1) = true := ins_iff.2 (by omega)
   have rl := rowB_len hs hG hg hrk (by simp_all)
   refine W_reg (sV rfl (py_move rfl) (sV rfl (py_nil rfl) (sV rfl (py_field Tryz.underlying37 rfl Tryz.sizeOf33 rfl rfl) (sV rfl (py_loadS Tryz.underlying33 rfl Tryz.sizeOf33 rfl rfl (At.sub (H2.fbox 0 rfl) 9)) (s_call (wn rfl) rfl rfl (pc_call Tryz.func160 rfl Tryz_nm160 rfl) (Tryz_impl_Shape_row (by assumption)) (fun v2 w3 r2 => ?_))))))
   obtain ⟨e2, rfl⟩ := r2
   have H3 := H2.to e2
   refine sV rfl (py_move rfl) (sV rfl (py_move rfl) (sV rfl (py_move rfl) (s_call (wn rfl) rfl rfl (pc_call Tryz.func117 rfl Tryz_nm117 rfl) (Tryz_impl_World_rowBytes (H3.fbox 0 rfl) (by assumption) (own_weak (H3.seen 1 rfl)) (own_weak (H3.seen 2 rfl)) (own_weak (H3.seen 3 rfl)) (by assumption) (by assumption) (by assumption) (by assumption)) (fun v3 w4 r3 => ?_))))
   obtain ⟨e3, r3⟩ := r3
   obtain ⟨fp1, H4⟩ := H3.res e3 r3
   obtain ⟨a1, k1, q1⟩ := own_slice (H4.mine 0 rfl)
   cases q1
   refine s_call (wn rfl) rfl rfl (pc_call Tryz.func161 rfl Tryz_nm161 rfl) (Tryz_impl_rowCode_encode (n := z.Shape.Data.toNat) (s := z.Shape.Spare.toNat) (by omega) (by omega) (by omega) (by omega) ⟨_, own_weak (H4.mine 0 rfl)⟩) (fun v4 w5 r4 => ?_)
   obtain ⟨e4, r4⟩ := r4
   obtain ⟨fp2, H5⟩ := H4.res e4 r4
   obtain ⟨a2, k2, q2⟩ := own_slice (H5.mine 1 rfl)
   cases q2
   refine sV rfl (py_assign rfl) (s_nil (W_seq ?_))
   obtain ⟨wa, wc, wq⟩ := own_slice (H5.mine 1 rfl)
   cases wq
   have H6 := H5.share 1 rfl
   try dsimp only [List.nil_append, List.cons_append, List.set_cons_zero, List.set_cons_succ] at H6
   have wl : (encG z.Shape.Data.toNat (z.Shape.Data.toNat + z.Shape.Spare.toNat) (rowB z g k)).length = z.Shape.Data.toNat + z.Shape.Spare.toNat := encG_len
   refine W_reg (sV rfl (py_move rfl) (sV rfl (py_move rfl) (sV rfl (py_move rfl) (s_call (wn rfl) rfl rfl (pc_call Tryz.func162 rfl Tryz_nm162 rfl) (Tryz_impl_World_blocks (H6.fbox 0 rfl) (by assumption) (own_weak (H6.seen 1 rfl)) (own_weak (H6.seen 2 rfl)) (own_weak (H6.seen 3 rfl)) (by assumption) (by assumption) (by assumption) (by assumption)) (fun v5 w6 r5 => ?_)))))
   obtain ⟨e5, fpS1, oS1, hS1⟩ := r5
   have H7 := H6.lookS e5 1 rfl oS1 hS1
   obtain ⟨a3, k3, q3⟩ := own_slice (H7.seen 5 rfl)
   cases q3
   refine sV rfl (py_len Tryz.underlying163 rfl) (sV rfl (py_move rfl) (s_nil (W_block (W_loopS (γ := Nat) H7 [(0, _), (1, _), (6, _), (16, _), (17, _), (33, _), (34, _)] ⟨rfl, rfl, rfl, rfl, rfl, rfl, rfl, trivial⟩ (fun k2 => [(35, .int .i64 k2)]) (fun k2 => k2 ≤ (z.Groups.getD g.toNat []).length ∧ (∀ i, i < k2 → atOK z g k i = true)) (fun k2 => (z.Groups.getD g.toNat []).length - k2) 0 ⟨rfl, trivial⟩ ⟨by omega, fun i hi => by omega⟩ (fun k2 w7 H8 ⟨hk2, hek2⟩ => ?_)))))
   dsimp only [List.cons_append, List.nil_append]
   refine W_seq ?_
   have bl : (blkOf z g k).length = (z.Groups.getD g.toNat []).length := blk_len
   refine W_reg (sV rfl (py_lss rfl rfl) (s_nil (W_seq (W_ifd rfl (fun c3 => ?_) (fun c3 => ?_)))))
   ·refine W_skip (W_seq (W_block (W_seq ?_)))
    obtain ⟨eb1, eo1, ea1, ek1, ef1, ee1, ec1, eO1, eH1⟩ := elem_sl (H8.seen 5 rfl) k2 (by omega)
    have eP1 := H8.look1 5 rfl eO1 eH1
    refine W_reg (sV rfl (py_move rfl) (sV rfl (py_elz Tryz.underlying163 Tryz.sizeOf61 rfl rfl ee1 k2 (by omega) (by omega)) (sV rfl (py_load Tryz.underlying61 rfl rfl ec1) (sV rfl (py_assign rfl) (sV rfl (py_assign rfl) (s_nil (W_seq ?_)))))))
    obtain ⟨_, hb2⟩ := hdd k2 (by omega)
    have aq := atOK_blk (z := z) (g := g) (i := k) (d := k2) (by omega) (fun _ => (blockOK_get (hb2 k (by omega))).2.2)
    unfold wantL at aq
    obtain ⟨eb2, eo2, ea2, ek2, ef2, ee2, ec2, eO2, eH2⟩ := elem_sl (eP1.seen 4 rfl) k2 (by omega)
    have eP2 := eP1.look1 4 rfl eO2 eH2
    refine W_reg (sV rfl (py_move rfl) (sV rfl (py_len Tryz.underlying61 rfl) (sV rfl (py_gtr rfl rfl) (sV rfl (py_move rfl) (s_grp 7 (j := 3) (want := true) (t := 50) rfl rfl rfl rfl (fun hg1 kk1 => s_val (wgE rfl rfl rfl hg1) rfl rfl (py_move rfl) (s_val (wgE rfl rfl rfl hg1) rfl rfl (py_move rfl) (s_val (wgE rfl rfl rfl hg1) rfl rfl (py_move rfl) (s_val (wgE rfl rfl rfl hg1) rfl rfl (py_elz Tryz.underlying163 Tryz.sizeOf61 rfl rfl ee2 k2 (by first | omega | (simp only [Bool.or_eq_false_iff, Bool.and_eq_true, Bool.and_eq_false_iff, Bool.or_eq_true, Bool.not_eq_true', Bool.not_eq_false', decide_eq_true_eq, decide_eq_false_iff_not] at hg1; omega)) (by omega)) (s_val (wgE rfl rfl rfl hg1) rfl rfl (py_load Tryz.underlying61 rfl rfl ec2) (s_callv (wgE rfl rfl rfl hg1) rfl rfl (pc_call Tryz.func163 rfl Tryz_nm163 rfl) (Tryz_bytesEq (eP2.sees 6 rfl) (eP2.sees 7 rfl)) (fun w9 e7 => s_val (wgE rfl rfl rfl hg1) rfl rfl (py_not rfl) (kk1 _ _ (kx rfl (kx rfl (kx rfl (kx rfl (kx rfl (kx rfl (kx rfl k0))))))) rfl (Ext.refl.trans e7))))))))) (fun w8 e6 => ?_))))))
    have H9 := eP2.to e6
    refine sV rfl (py_band rfl rfl) (s_nil (W_if rfl (fun c4 => ?_) (fun c4 => ?_)))
    ·refine W_sr (sV rfl (py_assign rfl) (s_nil (W_ret (hQ _ _ (fin1 Tryz.results98 rfl ?_)))))
     exact ⟨H9.ext, congrArg Value.bool (gHolds_no (i := k) (d := k2) (by omega) (by omega) (by rw [aq]; clear aq; simp_all)).symm⟩
    ·refine W_skip (W_reg (sV rfl (py_add rfl rfl (in64 ⟨by omega, by omega⟩)) (sV rfl (py_move rfl) (s_nil (⟨k2 + 1, ⟨rfl, rfl, rfl, rfl, rfl, rfl, rfl, rfl, trivial⟩, ⟨(H9.ftake 6), by omega, fun i hi => ?_⟩, by dsimp only; omega⟩)))))
     by_cases e : i = k2
     ·subst e
      (rw [aq]; clear aq; simp_all; exact (Nat.eq_zero_or_pos _).imp List.eq_nil_of_length_eq_zero c4)
     ·exact hek2 i (by omega)
   ·refine W_exit (W_reg (sV rfl (py_add rfl rfl (in64 ⟨by omega, by omega⟩)) (sV rfl (py_move rfl) (s_nil (⟨k + 1, ⟨rfl, rfl, rfl, rfl, trivial⟩, ⟨((H8.ftake 4).dtake 0), by omega, fun i hi => ?_⟩, by dsimp only; omega⟩)))))
    by_cases e : i = k
    ·subst e
     intro d hd
     exact hek2 d (by omega)
    ·exact he i (by omega)
  ·refine W_exit (W_sr (sV rfl (py_assign rfl) (s_nil (W_ret (hQ _ _ (fin1 Tryz.results98 rfl ?_))))))
   exact ⟨H2.ext, congrArg Value.bool (gHolds_yes (by simp_all) (fun i hi => he i (by omega))).symm⟩
theorem Tryz_spec_l10Group {w : World} {zb : Nat} {z : Wld} {zA9 : Option Addr} {zC9 : Nat} {zA10 : Option Addr} {zC10 : Nat} {zA11 : Option Addr} {zC11 : Nat} {g : Int} (zB : w.heap[zb]? = some (.cells [.int .i64 z.Shape.Groups, .int .i64 z.Shape.Column, .int .i64 z.Shape.Data, .int .i64 z.Shape.Spare, .int .i64 z.Shape.Rows, .int .i64 z.Shape.Cap, .int .i64 z.Shape.Batch, .int .i64 z.Shape.Queue, .int .i64 z.Shape.Stage, .slice zA9 z.Groups.length zC9, .slice zA10 z.On.length zC10, .slice zA11 z.Tapes.length zC11, .int .i64 z.Writes, .int .i64 z.Stop, .bool z.Down].toArray 37)) (zK : z.Ok) (zS9 : Sees w [.slice zA9 z.Groups.length zC9] z.Groups) (zS10 : Sees w [.slice zA10 z.On.length zC10] z.On) (zS11 : Sees w [.slice zA11 z.Tapes.length zC11] z.Tapes) (hs : z.Shape.ok = true) (hG : groupsOK z = true) (hg : ins g 0 (z.Shape.Groups + z.Shape.Column - 1) = true) : Ret Tryz.prog 97 #[.pointer (some ⟨zb, 0, none⟩), .int .i64 g] w fun v w' => Ext No w w' ∧ (v = .bool (gHolds z g)) := by
 have zK2 := zK
 unfold Wld.Ok Shape.Ok at zK2
 try unfold I64ok at zK2
 try unfold maxLen at zK2
 have zL9 := sees_len zS9
 unfold maxLen at zL9
 obtain ⟨zF9, zO9⟩ := zS9
 have zL10 := sees_len zS10
 unfold maxLen at zL10
 obtain ⟨zF10, zO10⟩ := zS10
 have zL11 := sees_len zS11
 unfold maxLen at zL11
 obtain ⟨zF11, zO11⟩ := zS11
 have sbd := shape_bd hs
 have hgg := groups_get hG
 have hgl := hgg.1
 have hgi := ins_iff.1 hg
 obtain ⟨hdl, hdd⟩ := hgg.2 g.toNat (by omega)
 have gln : (z.Groups.getD g.toNat []).length = z.Shape.Data.toNat + z.Shape.Spare.toNat := by omega
 refine ret_Q (vs := [.pointer (some ⟨zb, 0, none⟩), .int .i64 g]) Tryz.func97 rfl Tryz.ntmps97 rfl (fun Q hQ hN => ?_)
 have H0 := Sep.start (w := w) (F := [box zb (.cells [.int .i64 z.Shape.Groups, .int .i64 z.Shape.Column, .int .i64 z.Shape.Data, .int .i64 z.Shape.Spare, .int .i64 z.Shape.Rows, .int .i64 z.Shape.Cap, .int .i64 z.Shape.Batch, .int .i64 z.Shape.Queue, .int .i64 z.Shape.Stage, .slice zA9 z.Groups.length zC9, .slice zA10 z.On.length zC10, .slice zA11 z.Tapes.length zC11, .int .i64 z.Writes, .int .i64 z.Stop, .bool z.Down].toArray 37), seen false [.slice zA9 z.Groups.length zC9] z.Groups zF9, seen false [.slice zA10 z.On.length zC10] z.On zF10, seen false [.slice zA11 z.Tapes.length zC11] z.Tapes zF11]) (all_cons (by exact zB) (all_cons zO9 (all_cons zO10 (all_cons zO11 (by simp)))))
 refine W_sr (sV rfl (py_assign rfl) (s_nil (W_seq (W_sr (sV rfl (py_move rfl) (sV rfl (py_move rfl) (s_call (wn rfl) rfl rfl (pc_call Tryz.func84 rfl Tryz_nm84 rfl) (Tryz_spec_l7Dead (H0.fbox 0 rfl) (by assumption) (H0.sees 1 rfl) (H0.sees 2 rfl) (H0.sees 3 rfl) (by assumption) (by assumption) (by assumption)) (fun v1 w1 r1 => ?_))))))))
 obtain ⟨e1, rfl⟩ := r1
 have H1 := H0.to e1
 refine s_nil (W_if rfl (fun c1 => ?_) (fun c1 => ?_))
 ·refine W_sr (sV rfl (py_assign rfl) (s_nil (W_ret (hQ _ _ (fin1 Tryz.results97 rfl ?_)))))
  exact ⟨H1.ext, congrArg Value.bool (gHolds_dead (by simp_all)).symm⟩
 ·refine W_skip (W_seq (W_sr (sV rfl (py_assign rfl) (s_nil (W_block (W_loopS (γ := Nat) H1 [(0, _), (1, _)] ⟨rfl, rfl, trivial⟩ (fun k => [(5, .int .i64 k)]) (fun k => k ≤ z.Shape.Rows.toNat ∧ (∀ i, i < k → ∀ d, d < (z.Groups.getD g.toNat []).length → atOK z g i d = true)) (fun k => z.Shape.Rows.toNat - k) 0 ⟨rfl, trivial⟩ ⟨by omega, fun i hi => by omega⟩ (fun k w2 H2 ⟨hk, he⟩ => ?_)))))))
  dsimp only [List.cons_append, List.nil_append]
  refine W_seq (W_sr (sV rfl (py_move rfl) (sV rfl (py_move rfl) (sV rfl (py_nil rfl) (sV rfl (py_field Tryz.underlying37 rfl Tryz.sizeOf33 rfl rfl) (sV rfl (py_field Tryz.underlying33 rfl Tryz.sizeOf2 rfl rfl) (sV rfl (py_load Tryz.underlying2 rfl rfl (cell_atL (H2.fbox 0 rfl) rfl)) (sV rfl (py_lss rfl rfl) (s_nil (W_ifd rfl (fun c2 => ?_) (fun c2 => ?_)))))))))))
  ·refine W_skip (W_seq (W_block (W_seq ?_)))
   have hrk : ins (k : Int) 0 (z.Shape.Rows - 1) = true := ins_iff.2 (by omega)
   have rl := rowB_len hs hG hg hrk (by simp_all)
   refine W_reg (sV rfl (py_move rfl) (sV rfl (py_move rfl) (sV rfl (py_move rfl) (s_call (wn rfl) rfl rfl (pc_call Tryz.func116 rfl Tryz_nm116 rfl) (Tryz_spec_l7Bytes (H2.fbox 0 rfl) (by assumption) (H2.sees 1 rfl) (H2.sees 2 rfl) (H2.sees 3 rfl) (by assumption) (by assumption) (by assumption) (by assumption)) (fun v2 w3 r2 => ?_)))))
   obtain ⟨e2, sa1, sk1, rfl, r2⟩ := r2
   obtain ⟨fp1, H3⟩ := H2.res e2 r2
   refine sV rfl (py_move rfl) (sV rfl (py_extr rfl rfl) (sV rfl (py_extr rfl rfl) (sV rfl (py_assign rfl) (sV rfl (py_assign rfl) (s_nil (W_seq (W_drw (S := Ext No _) [(0, true), (1, true), (2, true), (3, true), (4, true), (5, true), (6, true), (7, true), (8, true), (9, true), (10, true), (11, false), (12, false)] (by kernel_rfl) (by kernel_rfl) (by kernel_rfl) rfl (fun _ => Ext.refl.drawn _) (fun q1 => ?_))))))))
   have H4 := H3.drawn q1
   refine dV rfl rfl (fun zw hx => py_move rfl) (dV rfl rfl (fun zw hx => py_nil rfl) (dV rfl rfl (fun zw hx => py_field Tryz.underlying37 rfl Tryz.sizeOf33 rfl rfl) (dV rfl rfl (fun zw hx => py_field Tryz.underlying33 rfl Tryz.sizeOf2 rfl rfl) (dV rfl rfl (fun zw hx => py_load Tryz.underlying2 rfl rfl (cell_atL (hx.heap (H4.fbox 0 rfl)) rfl)) (dV rfl rfl (fun zw hx => py_move rfl) (dV rfl rfl (fun zw hx => py_nil rfl) (dV rfl rfl (fun zw hx => py_field Tryz.underlying37 rfl Tryz.sizeOf33 rfl rfl) (dV rfl rfl (fun zw hx => py_field Tryz.underlying33 rfl Tryz.sizeOf2 rfl rfl) (dV rfl rfl (fun zw hx => py_load Tryz.underlying2 rfl rfl (cell_atL (hx.heap (H4.fbox 0 rfl)) rfl)) (dV rfl rfl (fun zw hx => py_move rfl) (d_call rfl (wn rfl) rfl rfl (pc_call Tryz.func158 rfl Tryz_nm158 rfl) (Tryz_spec_l2Encode (n := z.Shape.Data.toNat) (s := z.Shape.Spare.toNat) (by omega) (by omega) (by omega) (by omega) ⟨_, own_weak (H4.mine 0 rfl)⟩) (fun hS _ _ r _ => hS.trans r.1.no) (fun v3 w4 r3 => ?_))))))))))))
   obtain ⟨e3, r3⟩ := r3
   obtain ⟨fp2, H5, fr1⟩ := H4.resS e3 r3
   obtain ⟨a1, k1, q2⟩ := own_slice (H5.seen 4 rfl)
   cases q2
   refine d_end rfl (wn rfl) rfl rfl (py_assign rfl) (d_nil (W_seq ?_))
   have wl : (encG z.Shape.Data.toNat (z.Shape.Data.toNat + z.Shape.Spare.toNat) (rowB z g k)).length = z.Shape.Data.toNat + z.Shape.Spare.toNat := encG_len
   refine W_reg (sV rfl (py_assign rfl) (s_nil (W_block (W_loopS (γ := Nat) H5 [(0, _), (1, _), (5, _), (8, _)] ⟨rfl, rfl, rfl, rfl, trivial⟩ (fun k2 => [(9, .int .i64 k2)]) (fun k2 => k2 ≤ (z.Groups.getD g.toNat []).length ∧ (∀ i, i < k2 → atOK z g k i = true)) (fun k2 => (z.Groups.getD g.toNat []).length - k2) 0 ⟨rfl, trivial⟩ ⟨by omega, fun i hi => by omega⟩ (fun k2 w5 H6 ⟨hk2, hek2⟩ => ?_)))))
   dsimp only [List.cons_append, List.nil_append]
   refine W_seq (W_sr (sV rfl (py_move rfl) (sV rfl (py_move rfl) (sV rfl (py_len Tryz.underlying163 rfl) (sV rfl (py_lss rfl rfl) (s_nil (W_ifd rfl (fun c3 => ?_) (fun c3 => ?_))))))))
   ·refine W_skip (W_seq (W_block (W_seq ?_)))
    obtain ⟨eb1, eo1, ea1, ek1, ef1, ee1, ec1, eO1, eH1⟩ := elem_sl (H6.seen 1 rfl) g.toNat (by omega)
    have eP1 := H6.look1 1 rfl eO1 eH1
    obtain ⟨eb2, eo2, es1, ef2, ee2, ec2, eO2, eH2, em1⟩ := elem_st (eP1.seen 5 rfl) k2 (by omega)
    obtain ⟨ea2, ek2, eg1, rfl, eq1, eK1, eo3⟩ := own_Drive eO2
    have eP2 := eP1.look1 5 rfl eo3 (fun b hb => eH2 b (by rw [eq1]; simp [hb]))
    have eL1 := own_len_le eo3
    unfold maxLen at eL1
    refine W_reg (sV rfl (py_move rfl) (sV rfl (py_nil rfl) (sV rfl (py_field Tryz.underlying37 rfl Tryz.sizeOf34 rfl rfl) (sV rfl (py_load Tryz.underlying34 rfl rfl (cell_atL (eP2.fbox 0 rfl) rfl)) (sV rfl (py_move rfl) (sV rfl (py_elz Tryz.underlying34 Tryz.sizeOf147 rfl rfl ee1 g.toNat (by omega) (by omega)) (sV rfl (py_load Tryz.underlying147 rfl rfl ec1) (sV rfl (py_move rfl) (sV rfl (py_elz Tryz.underlying147 Tryz.sizeOf150 rfl rfl ee2 k2 (by omega) (by omega)) (sV rfl (py_loadS Tryz.underlying150 rfl Tryz.sizeOf150 rfl rfl ec2) (s_var (wn rfl) rfl Tryz.zeroValue150 eP2 (fun b1 w6 e4 g1 H7 => ?_))))))))))))
    refine s_stoS (wn rfl) Tryz.sizeOf150 rfl rfl rfl rfl H7 1 rfl rfl (fun w7 e5 H8 => ?_)
    dsimp only [List.nil_append, List.cons_append, List.set_cons_zero, List.set_cons_succ, layL] at H8
    refine s_nil (W_seq ?_)
    obtain ⟨hb1, hb2⟩ := hdd k2 (by omega)
    refine W_drw (S := Ext No _) [(0, true), (1, true), (2, true), (3, true), (4, true), (5, true), (6, true), (7, true), (8, true), (9, true), (10, true), (11, true), (12, true), (13, true), (14, false), (15, true), (16, false)] (by kernel_rfl) (by kernel_rfl) (by kernel_rfl) rfl (fun _ => Ext.refl.drawn _) (fun q3 => ?_)
    have H9 := H8.drawn q3
    refine dV rfl rfl (fun zw hx => py_field Tryz.underlying150 rfl Tryz.sizeOf4 rfl rfl) (dV rfl rfl (fun zw hx => py_load Tryz.underlying4 rfl rfl (cell_atL (hx.heap (H9.box 1 rfl)) rfl)) (dV rfl rfl (fun zw hx => py_not rfl) (dV rfl rfl (fun zw hx => py_move rfl) (d_case (t := 61) rfl (fun hg1 => ?_) (fun hg1 => ?_)))))
    ·try simp only [decide_eq_true_eq, decide_eq_false_iff_not] at hg1
     refine d_val rfl (wg rfl rfl rfl) rfl rfl (fun zw hx => py_field Tryz.underlying150 rfl Tryz.sizeOf148 rfl rfl) (d_val rfl (wg rfl rfl rfl) rfl rfl (fun zw hx => py_load Tryz.underlying148 rfl rfl (cell_atL (hx.heap (H9.box 1 rfl)) rfl)) (d_val rfl (wg rfl rfl rfl) rfl rfl (fun zw hx => py_move rfl) ?_))
     obtain ⟨eb3, eo4, es2, ef3, ee3, ec3, eO3, eH3, em2⟩ := elem_st (H9.seen 6 rfl) k (by omega)
     obtain ⟨ea3, ek3, eg2, rfl, eq2, eK2, eo5⟩ := own_Block eO3
     have eK2U := eK2
     unfold Block.Ok at eK2U
     try unfold I64ok at eK2U
     try unfold maxLen at eK2U
     have eP3 := H9.look1 6 rfl eo5 (fun b hb => eH3 b (by rw [eq2]; simp [hb]))
     have eL2 := own_len_le eo5
     unfold maxLen at eL2
     refine d_val rfl (wg rfl rfl rfl) rfl rfl (fun zw hx => py_elz Tryz.underlying148 Tryz.sizeOf152 rfl rfl ee3 k (by omega) (by omega)) (d_val rfl (wg rfl rfl rfl) rfl rfl (fun zw hx => py_field Tryz.underlying152 rfl Tryz.sizeOf61 rfl rfl) (d_val rfl (wg rfl rfl rfl) rfl rfl (fun zw hx => py_load Tryz.underlying61 rfl rfl (at_cell (hx.at ec3) 1 rfl)) (d_val rfl (wg rfl rfl rfl) rfl rfl (fun zw hx => py_move rfl) (d_val rfl (wg rfl rfl rfl) rfl rfl (fun zw hx => py_move rfl) ?_))))
     obtain ⟨eb4, eo6, ea4, ek4, ef4, ee4, ec4, eO4, eH4⟩ := elem_sl (H9.seen 4 rfl) k2 (by omega)
     have eP4 := eP3.look1 4 rfl eO4 eH4
     refine d_val rfl (wg rfl rfl rfl) rfl rfl (fun zw hx => py_elz Tryz.underlying163 Tryz.sizeOf61 rfl rfl ee4 k2 (by omega) (by omega)) (d_val rfl (wg rfl rfl rfl) rfl rfl (fun zw hx => py_load Tryz.underlying61 rfl rfl (hx.cell ec4)) (d_call rfl (wg rfl rfl rfl) rfl rfl (pc_call Tryz.func159 rfl Tryz_nm159 rfl) (Tryz_spec_l2Same (eP4.sees 7 rfl) (eP4.sees 8 rfl)) (fun hS _ _ r _ => hS.trans r.1.no) (fun v4 w8 r4 => ?_)))
     obtain ⟨e6, rfl⟩ := r4
     have H10 := eP4.to e6
     refine d_val rfl (wg rfl rfl rfl) rfl rfl (fun zw hx => py_not rfl) (d_end rfl (wn rfl) rfl rfl (py_pickT rfl rfl) (d_nil (W_if rfl (fun c4 => ?_) (fun c4 => ?_))))
     ·refine W_sr (sV rfl (py_assign rfl) (s_nil (W_ret (hQ _ _ (fin1 Tryz.results97 rfl ?_)))))
      exact ⟨H10.ext, congrArg Value.bool (gHolds_no (i := k) (d := k2) (by omega) (by omega) (by unfold atOK wantL; simp_all)).symm⟩
     ·refine W_skip (W_reg (sV rfl (py_move rfl) (sV rfl (py_add rfl rfl (in64 ⟨by omega, by omega⟩)) (sV rfl (py_assign rfl) (s_nil (⟨k2 + 1, ⟨rfl, rfl, rfl, rfl, rfl, trivial⟩, ⟨((H10.ftake 5).dtake 1), by omega, fun i hi => ?_⟩, by dsimp only; omega⟩))))))
      by_cases e : i = k2
      ·subst e
       (unfold atOK wantL; simp_all)
      ·exact hek2 i (by omega)
    ·try simp only [decide_eq_true_eq, decide_eq_false_iff_not] at hg1
     refine d_skip rfl (wog (b := false) rfl rfl rfl) rfl rfl (d_skip rfl (wog (b := false) rfl rfl rfl) rfl rfl (d_skip rfl (wog (b := false) rfl rfl rfl) rfl rfl (d_skip rfl (wog (b := false) rfl rfl rfl) rfl rfl (d_skip rfl (wog (b := false) rfl rfl rfl) rfl rfl (d_skip rfl (wog (b := false) rfl rfl rfl) rfl rfl (d_skip rfl (wog (b := false) rfl rfl rfl) rfl rfl (d_skip rfl (wog (b := false) rfl rfl rfl) rfl rfl (d_skip rfl (wog (b := false) rfl rfl rfl) rfl rfl (d_skip rfl (wog (b := false) rfl rfl rfl) rfl rfl (d_skipA rfl (wog (b := false) rfl rfl rfl) rfl rfl (d_skip rfl (wog (b := false) rfl rfl rfl) rfl rfl (d_end rfl (wn rfl) rfl rfl (py_pickF rfl rfl) (d_nil (W_iff rfl (W_skip (W_reg (sV rfl (py_move rfl) (sV rfl (py_add rfl rfl (in64 ⟨by omega, by omega⟩)) (sV rfl (py_assign rfl) (s_nil (⟨k2 + 1, ⟨rfl, rfl, rfl, rfl, rfl, trivial⟩, ⟨((H9.ftake 5).dtake 1), by omega, fun i hi => ?_⟩, by dsimp only; omega⟩)))))))))))))))))))))
     by_cases e : i = k2
     ·subst e
      (unfold atOK wantL; simp_all)
     ·exact hek2 i (by omega)
   ·refine W_exit (W_reg (sV rfl (py_move rfl) (sV rfl (py_add rfl rfl (in64 ⟨by omega, by omega⟩)) (sV rfl (py_assign rfl) (s_nil (⟨k + 1, ⟨rfl, rfl, rfl, trivial⟩, ⟨((H6.ftake 4).dtake 0), by omega, fun i hi => ?_⟩, by dsimp only; omega⟩))))))
    by_cases e : i = k
    ·subst e
     intro d hd
     exact hek2 d (by omega)
    ·exact he i (by omega)
  ·refine W_exit (W_sr (sV rfl (py_assign rfl) (s_nil (W_ret (hQ _ _ (fin1 Tryz.results97 rfl ?_))))))
   exact ⟨H2.ext, congrArg Value.bool (gHolds_yes (by simp_all) (fun i hi => he i (by omega))).symm⟩
theorem Tryz_impl_GroupHolds {w : World} {z : Wld} {zA9 : Option Addr} {zC9 : Nat} {zA10 : Option Addr} {zC10 : Nat} {zA11 : Option Addr} {zC11 : Nat} {g : Int} (zK : z.Ok) (zS9 : Sees w [.slice zA9 z.Groups.length zC9] z.Groups) (zS10 : Sees w [.slice zA10 z.On.length zC10] z.On) (zS11 : Sees w [.slice zA11 z.Tapes.length zC11] z.Tapes) : Ret Tryz.prog 33 #[z.val zA9 zC9 zA10 zC10 zA11 zC11, .int .i64 g] w fun v w' => Ext No w w' ∧ (v = .bool (holdsG z g)) := by
 have zK2 := zK
 unfold Wld.Ok Shape.Ok at zK2
 try unfold I64ok at zK2
 try unfold maxLen at zK2
 have zL9 := sees_len zS9
 unfold maxLen at zL9
 obtain ⟨zF9, zO9⟩ := zS9
 have zL10 := sees_len zS10
 unfold maxLen at zL10
 obtain ⟨zF10, zO10⟩ := zS10
 have zL11 := sees_len zS11
 unfold maxLen at zL11
 obtain ⟨zF11, zO11⟩ := zS11
 have hw : worldF z = 0 → z.Shape.ok = true ∧ groupsOK z = true := fun h => ⟨(worldF_ok (w := z) h).1, (worldF_ok (w := z) h).2.1⟩
 refine ret_Q (vs := [z.val zA9 zC9 zA10 zC10 zA11 zC11, .int .i64 g]) Tryz.func33 rfl Tryz.ntmps33 rfl (fun Q hQ hN => ?_)
 have H0 := Sep.start (w := w) (F := [seen false [.slice zA9 z.Groups.length zC9] z.Groups zF9, seen false [.slice zA10 z.On.length zC10] z.On zF10, seen false [.slice zA11 z.Tapes.length zC11] z.Tapes zF11]) (all_cons zO9 (all_cons zO10 (all_cons zO11 (by simp))))
 refine W_sr (s_box (wn rfl) rfl rfl H0 (fun b1 w1 e1 g1 H1 => ?_))
 refine sV rfl (py_assign rfl) (s_nil (W_sr (sV rfl (py_loadS Tryz.underlying37 rfl Tryz.sizeOf37 rfl rfl (At.whole (H1.box 0 rfl))) (s_call (wn rfl) rfl rfl (pc_call Tryz.func85 rfl Tryz_nm85 rfl) (Tryz_impl_WorldFault (by assumption) (H1.sees 0 rfl) (H1.sees 1 rfl) (H1.sees 2 rfl)) (fun v1 w2 r1 => ?_)))))
 obtain ⟨e2, rfl⟩ := r1
 have H2 := H1.to e2
 refine sV rfl (py_eql rfl rfl) (sV rfl (py_move rfl) (s_grp 4 (j := 3) (want := true) (t := 12) rfl rfl rfl rfl (fun hg1 kk1 => s_val (wgE rfl rfl rfl hg1) rfl rfl (py_field Tryz.underlying37 rfl Tryz.sizeOf33 rfl rfl) (s_val (wgE rfl rfl rfl hg1) rfl rfl (py_loadS Tryz.underlying33 rfl Tryz.sizeOf33 rfl rfl (At.sub (H2.box 0 rfl) 9)) (s_val (wgE rfl rfl rfl hg1) rfl rfl (py_move rfl) (s_callv (wgE rfl rfl rfl hg1) rfl rfl (pc_call Tryz.func94 rfl Tryz_nm94 rfl) (Tryz_impl_Shape_isGroup (by first | assumption | exact (hw (by simp_all)).1 | exact (hw (by simp_all)).2 | (have hws := (hw (by simp_all)).1; rw [← place_grp hws]; simp_all; done) | (simp_all; done))) (fun w4 e4 => kk1 _ _ (kx rfl (kx rfl (kx rfl (kx rfl k0)))) rfl (Ext.refl.trans e4)))))) (fun w3 e3 => ?_)))
 have H3 := H2.to e3
 refine sV rfl (py_band rfl rfl) (sV rfl (py_move rfl) (s_grp 2 (j := 9) (want := true) (t := 16) rfl rfl rfl rfl (fun hg2 kk2 => s_val (wgE rfl rfl rfl hg2) rfl rfl (py_move rfl) (s_callv (wgE rfl rfl rfl hg2) rfl rfl (pc_call Tryz.func98 rfl Tryz_nm98 rfl) (Tryz_impl_World_holds (H3.box 0 rfl) (by assumption) (own_weak (H3.seen 0 rfl)) (own_weak (H3.seen 1 rfl)) (own_weak (H3.seen 2 rfl)) (by first | assumption | exact (hw (by simp_all)).1 | exact (hw (by simp_all)).2 | (have hws := (hw (by simp_all)).1; rw [← place_grp hws]; simp_all; done) | (simp_all; done)) (by first | assumption | exact (hw (by simp_all)).1 | exact (hw (by simp_all)).2 | (have hws := (hw (by simp_all)).1; rw [← place_grp hws]; simp_all; done) | (simp_all; done)) (by first | assumption | exact (hw (by simp_all)).1 | exact (hw (by simp_all)).2 | (have hws := (hw (by simp_all)).1; rw [← place_grp hws]; simp_all; done) | (simp_all; done))) (fun w6 e6 => kk2 _ _ (kx rfl (kx rfl k0)) rfl (Ext.refl.trans e6)))) (fun w5 e5 => ?_)))
 have H4 := H3.to e5
 refine sV rfl (py_band rfl rfl) (sV rfl (py_assign rfl) (s_nil (W_ret (hQ _ _ (fin1 Tryz.results33 rfl ?_)))))
 exact ⟨H4.ext, rfl⟩
theorem Tryz_spec_GroupHolds {w : World} {z : Wld} {zA9 : Option Addr} {zC9 : Nat} {zA10 : Option Addr} {zC10 : Nat} {zA11 : Option Addr} {zC11 : Nat} {g : Int} (zK : z.Ok) (zS9 : Sees w [.slice zA9 z.Groups.length zC9] z.Groups) (zS10 : Sees w [.slice zA10 z.On.length zC10] z.On) (zS11 : Sees w [.slice zA11 z.Tapes.length zC11] z.Tapes) : Ret Tryz.prog 32 #[z.val zA9 zC9 zA10 zC10 zA11 zC11, .int .i64 g] w fun v w' => Ext No w w' ∧ (v = .bool (holdsG z g)) := by
 have zK2 := zK
 unfold Wld.Ok Shape.Ok at zK2
 try unfold I64ok at zK2
 try unfold maxLen at zK2
 have zL9 := sees_len zS9
 unfold maxLen at zL9
 obtain ⟨zF9, zO9⟩ := zS9
 have zL10 := sees_len zS10
 unfold maxLen at zL10
 obtain ⟨zF10, zO10⟩ := zS10
 have zL11 := sees_len zS11
 unfold maxLen at zL11
 obtain ⟨zF11, zO11⟩ := zS11
 have hw : worldF z = 0 → z.Shape.ok = true ∧ groupsOK z = true := fun h => ⟨(worldF_ok (w := z) h).1, (worldF_ok (w := z) h).2.1⟩
 refine ret_Q (vs := [z.val zA9 zC9 zA10 zC10 zA11 zC11, .int .i64 g]) Tryz.func32 rfl Tryz.ntmps32 rfl (fun Q hQ hN => ?_)
 have H0 := Sep.start (w := w) (F := [seen false [.slice zA9 z.Groups.length zC9] z.Groups zF9, seen false [.slice zA10 z.On.length zC10] z.On zF10, seen false [.slice zA11 z.Tapes.length zC11] z.Tapes zF11]) (all_cons zO9 (all_cons zO10 (all_cons zO11 (by simp))))
 refine W_sr (s_box (wn rfl) rfl rfl H0 (fun b1 w1 e1 g1 H1 => ?_))
 refine sV rfl (py_assign rfl) (s_nil (W_sr (sV rfl (py_loadS Tryz.underlying37 rfl Tryz.sizeOf37 rfl rfl (At.whole (H1.box 0 rfl))) (s_call (wn rfl) rfl rfl (pc_call Tryz.func82 rfl Tryz_nm82 rfl) (Tryz_spec_WorldFault (by assumption) (H1.sees 0 rfl) (H1.sees 1 rfl) (H1.sees 2 rfl)) (fun v1 w2 r1 => ?_)))))
 obtain ⟨e2, rfl⟩ := r1
 have H2 := H1.to e2
 refine sV rfl (py_eql rfl rfl) (sV rfl (py_move rfl) (s_grp 4 (j := 3) (want := true) (t := 12) rfl rfl rfl rfl (fun hg1 kk1 => s_val (wgE rfl rfl rfl hg1) rfl rfl (py_field Tryz.underlying37 rfl Tryz.sizeOf33 rfl rfl) (s_val (wgE rfl rfl rfl hg1) rfl rfl (py_loadS Tryz.underlying33 rfl Tryz.sizeOf33 rfl rfl (At.sub (H2.box 0 rfl) 9)) (s_val (wgE rfl rfl rfl hg1) rfl rfl (py_move rfl) (s_callv (wgE rfl rfl rfl hg1) rfl rfl (pc_call Tryz.func96 rfl Tryz_nm96 rfl) (Tryz_spec_l5Place (by first | assumption | exact (hw (by simp_all)).1 | exact (hw (by simp_all)).2 | (have hws := (hw (by simp_all)).1; rw [← place_grp hws]; simp_all; done) | (simp_all; done))) (fun w4 e4 => kk1 _ _ (kx rfl (kx rfl (kx rfl (kx rfl k0)))) rfl (Ext.refl.trans e4)))))) (fun w3 e3 => ?_)))
 have H3 := H2.to e3
 refine sV rfl (py_band rfl rfl) (sV rfl (py_move rfl) (s_grp 2 (j := 9) (want := true) (t := 16) rfl rfl rfl rfl (fun hg2 kk2 => s_val (wgE rfl rfl rfl hg2) rfl rfl (py_move rfl) (s_callv (wgE rfl rfl rfl hg2) rfl rfl (pc_call Tryz.func97 rfl Tryz_nm97 rfl) (Tryz_spec_l10Group (H3.box 0 rfl) (by assumption) (H3.sees 0 rfl) (H3.sees 1 rfl) (H3.sees 2 rfl) (by first | assumption | exact (hw (by simp_all)).1 | exact (hw (by simp_all)).2 | (have hws := (hw (by simp_all)).1; rw [← place_grp hws]; simp_all; done) | (simp_all; done)) (by first | assumption | exact (hw (by simp_all)).1 | exact (hw (by simp_all)).2 | (have hws := (hw (by simp_all)).1; rw [← place_grp hws]; simp_all; done) | (simp_all; done)) (by first | assumption | exact (hw (by simp_all)).1 | exact (hw (by simp_all)).2 | (have hws := (hw (by simp_all)).1; rw [← place_grp hws]; simp_all; done) | (simp_all; done))) (fun w6 e6 => kk2 _ _ (kx rfl (kx rfl k0)) rfl (Ext.refl.trans e6)))) (fun w5 e5 => ?_)))
 have H4 := H3.to e5
 refine sV rfl (py_band rfl rfl) (sV rfl (py_assign rfl) (s_nil (W_ret (hQ _ _ (fin1 Tryz.results32 rfl ?_)))))
 exact ⟨H4.ext, congrArg Value.bool (by unfold holdsG; by_cases h : worldF z = 0; (· rw [place_grp (hw h).1]); (· simp [h]))⟩
end Go.Wk
namespace Go.Wk
open Go.Proofs Rp
set_option maxRecDepth 10000
theorem Tryz_laws_FnExactGroupHolds {w : World} {z : Wld} {zA9 : Option Addr} {zC9 : Nat} {zA10 : Option Addr} {zC10 : Nat} {zA11 : Option Addr} {zC11 : Nat} {g : Int} (zK : z.Ok) (zS9 : Sees w [.slice zA9 z.Groups.length zC9] z.Groups) (zS10 : Sees w [.slice zA10 z.On.length zC10] z.On) (zS11 : Sees w [.slice zA11 z.Tapes.length zC11] z.Tapes) : Ret Tryz.prog 6 #[z.val zA9 zC9 zA10 zC10 zA11 zC11, .int .i64 g] w fun v w' => Ext No w w' ∧ (v = .bool true) := by
 have zK2 := zK
 unfold Wld.Ok Shape.Ok at zK2
 try unfold I64ok at zK2
 try unfold maxLen at zK2
 have zL9 := sees_len zS9
 unfold maxLen at zL9
 obtain ⟨zF9, zO9⟩ := zS9
 have zL10 := sees_len zS10
 unfold maxLen at zL10
 obtain ⟨zF10, zO10⟩ := zS10
 have zL11 := sees_len zS11
 unfold maxLen at zL11
 obtain ⟨zF11, zO11⟩ := zS11
 refine ret_Q (vs := [z.val zA9 zC9 zA10 zC10 zA11 zC11, .int .i64 g]) Tryz.func6 rfl Tryz.ntmps6 rfl (fun Q hQ hN => ?_)
 have H0 := Sep.start (w := w) (F := [seen false [.slice zA9 z.Groups.length zC9] z.Groups zF9, seen false [.slice zA10 z.On.length zC10] z.On zF10, seen false [.slice zA11 z.Tapes.length zC11] z.Tapes zF11]) (all_cons zO9 (all_cons zO10 (all_cons zO11 (by simp))))
 refine W_sr (s_box (wn rfl) rfl rfl H0 (fun b1 w1 e1 g1 H1 => ?_))
 refine sV rfl (py_assign rfl) (s_nil (W_sr (sV rfl (py_assign rfl) (s_nil (W_sr (sV rfl (py_loadS Tryz.underlying28 rfl Tryz.sizeOf28 rfl rfl (At.whole (H1.box 0 rfl))) (sV rfl (py_move rfl) (s_call (wn rfl) rfl rfl (pc_call Tryz.func15 rfl Tryz_nm15 rfl) (Tryz_laws_szWorld (by assumption) (H1.sees 0 rfl) (H1.sees 1 rfl) (H1.sees 2 rfl) (by omega)) (fun v1 w2 r1 => ?_)))))))))
 obtain ⟨e2, rfl⟩ := r1
 have H2 := H1.to e2
 refine sV rfl (py_assign rfl) (s_nil (W_seq (W_sr (sV rfl (py_move rfl) (sV rfl (py_lss rfl rfl) (s_nil (W_ifd rfl (fun c1 => ?_) (fun c1 => ?_))))))))
 ·refine W_sr (sV rfl (py_assign rfl) (s_nil (W_ret (hQ _ _ (fin1 Tryz.results6 rfl ?_)))))
  exact ⟨H2.ext, rfl⟩
 ·refine W_skip (W_seq ?_)
  have hsz : szWld z ≤ 1048576 := by omega
  refine W_reg (sV rfl (py_loadS Tryz.underlying28 rfl Tryz.sizeOf28 rfl rfl (At.whole (H2.box 0 rfl))) (s_call (wn rfl) rfl rfl (pc_call Tryz.func17 rfl Tryz_nm17 rfl) (Tryz_laws_toWorld (by assumption) (H2.sees 0 rfl) (H2.sees 1 rfl) (H2.sees 2 rfl) (by assumption)) (fun v2 w3 r2 => ?_)))
  obtain ⟨e3, sa1, sk1, sa2, sk2, sa3, sk3, rfl, r2⟩ := r2
  obtain ⟨fp1, H3⟩ := H2.res e3 r2
  have H4 := H3.share 1 rfl
  obtain ⟨sf1, sf2, sf3, sq1, sok1, so1, so2, so3⟩ := own_WldC (H4.seen 3 rfl)
  have H6 := H4.look1 3 rfl so1 (fun b hb => by rw [sq1]; simp [hb])
  have H7 := H6.look1 3 rfl so2 (fun b hb => by rw [sq1]; simp [hb])
  have H8 := H7.look1 3 rfl so3 (fun b hb => by rw [sq1]; simp [hb])
  refine sV rfl (py_move rfl) (s_call (wn rfl) rfl rfl (pc_call Tryz.func32 rfl Tryz_nm32 rfl) (Tryz_spec_GroupHolds (by assumption) (H8.sees 4 rfl) (H8.sees 5 rfl) (H8.sees 6 rfl)) (fun v3 w4 r3 => ?_))
  obtain ⟨e4, rfl⟩ := r3
  have H9 := H8.to e4
  refine sV rfl (py_assign rfl) (s_nil (W_sr (sV rfl (py_loadS Tryz.underlying28 rfl Tryz.sizeOf28 rfl rfl (At.whole (H9.box 0 rfl))) (s_call (wn rfl) rfl rfl (pc_call Tryz.func17 rfl Tryz_nm17 rfl) (Tryz_laws_toWorld (by assumption) (H9.sees 0 rfl) (H9.sees 1 rfl) (H9.sees 2 rfl) (by assumption)) (fun v4 w5 r4 => ?_)))))
  obtain ⟨e5, sa4, sk4, sa5, sk5, sa6, sk6, rfl, r4⟩ := r4
  obtain ⟨fp2, H10⟩ := H9.res e5 r4
  refine s_var (wn rfl) rfl Tryz.zeroValue37 H10 (fun b2 w6 e6 g2 H11 => ?_)
  refine s_stoS (wn rfl) Tryz.sizeOf37 rfl rfl rfl rfl H11 3 rfl rfl (fun w7 e7 H12 => ?_)
  dsimp only [List.nil_append, List.cons_append, List.set_cons_zero, List.set_cons_succ, layL] at H12
  refine s_nil (W_sr (sV rfl (py_loadS Tryz.underlying37 rfl Tryz.sizeOf37 rfl rfl (At.whole (H12.box 3 rfl))) (sV rfl (py_move rfl) (s_call (wn rfl) rfl rfl (pc_call Tryz.func33 rfl Tryz_nm33 rfl) (Tryz_impl_GroupHolds (by assumption) (Wld.see9 (H12.mine 2 rfl)) (Wld.see10 (H12.mine 2 rfl)) (Wld.see11 (H12.mine 2 rfl))) (fun v5 w8 r5 => ?_)))))
  obtain ⟨e8, rfl⟩ := r5
  have H13 := H12.to e8
  refine sV rfl (py_assign rfl) (s_nil (W_seq (W_sr (sV rfl (py_move rfl) (sV rfl (py_move rfl) (sV rfl (py_bneq Tryz.underlying4 rfl rfl) (s_nil (W_if rfl (fun c2 => ?_) (fun c2 => ?_)))))))))
  ·exfalso; simp_all
  ·refine W_skip (W_seq (W_seq (W_drw (S := Ext No _) [(0, true), (1, true), (2, false), (3, false), (4, false)] (by kernel_rfl) (by kernel_rfl) (by kernel_rfl) rfl (fun _ => Ext.refl.drawn _) (fun q1 => ?_))))
   have H14 := H13.drawn q1
   refine dV rfl rfl (fun zw hx => py_loadS Tryz.underlying37 rfl Tryz.sizeOf37 rfl rfl (At.whole (hx.heap (H14.box 3 rfl)))) (dV rfl rfl (fun zw hx => py_loadS Tryz.underlying28 rfl Tryz.sizeOf28 rfl rfl (At.whole (hx.heap (H14.box 0 rfl)))) (d_call rfl (wn rfl) rfl rfl (pc_call Tryz.func17 rfl Tryz_nm17 rfl) (Tryz_laws_toWorld (by assumption) (H14.sees 0 rfl) (H14.sees 1 rfl) (H14.sees 2 rfl) (by assumption)) (fun hS _ _ r _ => hS.trans r.1.no) (fun v6 w9 r6 => ?_)))
   obtain ⟨e9, sa7, sk7, sa8, sk8, sa9, sk9, rfl, r6⟩ := r6
   obtain ⟨fp3, H15⟩ := H14.res e9 r6
   have H16 := H15.share 4 rfl
   obtain ⟨sf4, sf5, sf6, sq2, sok2, so4, so5, so6⟩ := own_WldC (H16.seen 7 rfl)
   have H18 := H16.look1 7 rfl so4 (fun b hb => by rw [sq2]; simp [hb])
   have H19 := H18.look1 7 rfl so5 (fun b hb => by rw [sq2]; simp [hb])
   have H20 := H19.look1 7 rfl so6 (fun b hb => by rw [sq2]; simp [hb])
   refine d_call rfl (wn rfl) rfl rfl (pc_call Tryz.func20 rfl Tryz_nm20 rfl) (Tryz_laws_eqWorld (by assumption) (Wld.see9 (H20.mine 2 rfl)) (Wld.see10 (H20.mine 2 rfl)) (Wld.see11 (H20.mine 2 rfl)) (by assumption) (H20.sees 8 rfl) (H20.sees 9 rfl) (H20.sees 10 rfl)) (fun hS _ _ r _ => hS.trans r.1.no) (fun v7 w10 r7 => ?_)
   obtain ⟨e10, rfl⟩ := r7
   have H21 := H20.to e10
   refine d_end rfl (wn rfl) rfl rfl (py_not rfl) (d_nil (W_if rfl (fun c3 => ?_) (fun c3 => ?_)))
   ·exfalso; simp_all
   ·refine W_skip (W_sr (sV rfl (py_assign rfl) (s_nil (W_ret (hQ _ _ (fin1 Tryz.results6 rfl ?_))))))
    exact ⟨H21.ext, rfl⟩
end Go.Wk
