/-
  Laws on walking, and the functions walked, each once: what this claim comes to.
-/
import Derived.Test.YthfpkjhjkbpbiaaGreatZe3
set_option linter.unusedVariables false
set_option linter.unusedSimpArgs false
namespace Go.Wk
open Go.Proofs Rp
set_option maxRecDepth 10000
theorem Tryz_impl_scaled {w : World} {xs : List UInt8} {xsA : Option Addr} {xsC : Nat} {c : UInt8} (xsS : Sees w [.slice xsA xs.length xsC] xs) (hl : xs.length ≤ 100000) : Ret Tryz.prog 287 #[.slice xsA xs.length xsC, .int .u8 c.toNat] w fun v w' => Ext No w w' ∧ (Res w w' [v] (scaleG xs c)) := by
 have xsL := sL xsS
 obtain ⟨xsF, xsO⟩ := xsS
 refine ret_Q (vs := [.slice xsA xs.length xsC, .int .u8 c.toNat]) Tryz.func287 rfl Tryz.ntmps287 rfl (fun Q hQ hN => ?_)
 have H0 := Sep.start (w := w) (F := [seen false [.slice xsA xs.length xsC] xs xsF]) (all_cons xsO (by simp))
 refine W_sr (sA rfl rfl (s_nil (W_sr (sM rfl rfl (sV rfl (py_len tu45 rfl) (s_make (wn rfl) rfl tu45 Tryz_ty5 own_z8 rfl (by omega) (by unfold maxLen; omega) H0 (fun b1 w1 e1 g1 H1 => ?_)))))))
 refine sA rfl rfl (s_nil (W_seq ?_))
 have rl : (List.replicate xs.length (0 : UInt8)).length = xs.length := List.length_replicate
 refine W_reg (sM rfl rfl (sM rfl rfl (sM rfl rfl (s_call (wn rfl) rfl rfl (pc_call Tryz.func289 rfl Tryz_nm289 rfl) (Tryz_impl_put (H1.mine 0 rfl) (H1.nodup1 (i := 0) rfl) (own_weak (H1.seen 0 rfl)) (fun b hb => H1.off 0 rfl 0 rfl hb) (by first | assumption | omega)) (fun v1 w2 r1 => ?_)))))
 obtain ⟨fp1, H2⟩ := H1.mut 0 rfl r1
 refine s_nil (W_sr (sM rfl rfl (sA rfl rfl (s_nil (rT hQ Tryz.results287 rfl ?_)))))
 exact ⟨H2.ext, by
  have h := H2.out 0 rfl
  rwa [addG_zero_l (scaleG_len xs c)] at h⟩
theorem Tryz_impl_reduce {w : World} {K l n : Nat} {m : Mat} {vs0 : List View} {VA : Option Addr} {VC : Nat} {fp g0 : List Nat} (o : own true w [.slice VA K VC] vs0 fp) (nd : fp.Nodup) (hr0 : ownL false w (vs0.map View.val) m g0) (hd : ∀ b ∈ g0, b ∉ fp) (vl0 : vs0.length = K) (hR0 : Rect m K l) (hn : n < l ∧ l ≤ 1000 ∧ 1 ≤ K ∧ K ≤ 1000) : Ret Tryz.prog 345 #[.slice VA K VC, .int .i64 n] w fun v w' => (v = .int .i64 ((redM m n).2 : Nat) ∧ RowsMut w w' fp (.slice VA K VC) K (redM m n).1) := by
 refine ret_Q (vs := [.slice VA K VC, .int .i64 n]) Tryz.func345 rfl Tryz.ntmps345 rfl (fun Q hQ hN => ?_)
 have H0 := Sep.beginRows o nd hr0 hd
 refine W_sr (sA rfl rfl (s_nil (W_sr (sA rfl rfl (s_nil (W_seq (W_sr (sA rfl rfl (s_nil (W_block (W_loop (γ := Nat × Mat × Nat × List View × List Nat × List Nat) (fun (c, M, r, vs, f, g) => [(0, .slice VA K VC), (1, .int .i64 n), (5, .int .i64 r), (6, .int .i64 c)]) (fun (c, M, r, vs, f, g) w' => Sep (· ∈ fp) w [mine [.slice VA K VC] vs f] [rows vs M g] w' ∧ c ≤ n ∧ redM m c = (M, r) ∧ Rect M K l ∧ r ≤ K ∧ vs.length = K) (fun (c, M, r, vs, f, g) => n - c) (0, m, 0, _, _, _) ⟨rfl, rfl, rfl, rfl, trivial⟩ ⟨H0, by omega, rfl, hR0, by omega, vl0⟩ (fun (c, M, r, vs, f, g) w1 H1 => ?_))))))))))))
 obtain ⟨H1, hc, hred, hR, hrK, vl⟩ := H1
 refine W_seq (W_sr (sM rfl rfl (sM rfl rfl (sV rfl (py_lss rfl rfl) (s_nil (W_ifd rfl (fun c1 => ?_) (fun c1 => ?_)))))))
 ·refine W_skip (W_seq (W_block (W_sr (sA rfl rfl (s_nil (W_seq (W_seq ?_)))))))
  have xl := hR.1
  refine W_reg (sM rfl rfl (sA rfl rfl (s_nil (W_block (W_loop (γ := Nat) (fun j => [(0, .slice VA K VC), (1, .int .i64 n), (5, .int .i64 r), (6, .int .i64 c), (7, .int .i64 (-1)), (8, .int .i64 j)]) (fun j w' => Sep (· ∈ fp) w _ _ w' ∧ r ≤ j ∧ j ≤ K ∧ ∀ i, r ≤ i → i < j → entry M i c = 0) (fun j => K - j) r ⟨rfl, rfl, rfl, rfl, rfl, rfl, trivial⟩ ⟨H1, by omega, by omega, fun i h1 h2 => by omega⟩ (fun j w2 H2 => ?_))))))
  obtain ⟨H2, hj1, hj2, hnz⟩ := H2
  refine W_seq (W_sr (sM rfl rfl (sM rfl rfl (sV rfl (py_len tu112 rfl) (sV rfl (py_lss rfl rfl) (s_nil (W_ifd rfl (fun c2 => ?_) (fun c2 => ?_))))))))
  ·refine W_skip (W_seq (W_block (W_seq ?_)))
   have e1 := hR.2 j (by omega)
   obtain ⟨eb1, eo1, ea1, ek1, ef1, ee1, ec1, eO1, eH1, em1⟩ := elem_view (H2.mine 0 rfl) (H2.rowsAt 0 rfl) (by first | omega | (simp only [List.length_set]; omega)) j (by first | omega | (simp only [List.length_set]; omega))
   have eP1 := H2.lookR 0 rfl eO1 eH1
   obtain ⟨eb2, eo2, ee2, ec2⟩ := elem_u8 (eP1.seen 1 rfl) c (by omega)
   refine W_reg (sM rfl rfl (sM rfl rfl (sV rfl (py_elz tu112 ts45 rfl rfl ee1 j (by omega) (by omega)) (sV rfl (py_load tu45 rfl rfl ec1) (sM rfl rfl (sV rfl (py_elz tu45 ts5 rfl rfl ee2 c (by omega) (by omega)) (sV rfl (py_load tu5 rfl rfl ec2) (sV rfl (py_neq rfl rfl) (s_nil (W_ifd rfl (fun c3 => ?_) (fun c3 => ?_)))))))))))
   ·refine W_sr (sM rfl rfl (sA rfl rfl (s_nil (W_exit (W_seq (W_seq ?_))))))
    have hpv : pivAt M c r = j := pivAt_eq (by omega) (by omega) hnz (.inr (fun e => c3 (by rw [entry] at e; rw [e]; rfl)))
    refine W_reg (sM rfl rfl (sV rfl (py_lss rfl rfl) (s_nil (W_ifd rfl (fun c4 => ?_) (fun c4 => ?_)))))
    ·exact absurd c4 (by omega)
    ·refine W_skip (W_seq ?_)
     obtain ⟨eb3, eo3, ea2, ek2, ef2, ee3, ec3, eO2, eH2, em2⟩ := elem_view (eP1.mine 0 rfl) (eP1.rowsAt 0 rfl) (by first | omega | (simp only [List.length_set]; omega)) j (by first | omega | (simp only [List.length_set]; omega))
     have eP2 := eP1.lookR 0 rfl eO2 eH2
     obtain ⟨eb4, eo4, ea3, ek3, ef3, ee4, ec4, eO3, eH3, em3⟩ := elem_view (eP2.mine 0 rfl) (eP2.rowsAt 0 rfl) (by first | omega | (simp only [List.length_set]; omega)) r (by first | omega | (simp only [List.length_set]; omega))
     have eP3 := eP2.lookR 0 rfl eO3 eH3
     refine W_drw (S := fun zw => zw.cell? ⟨eb3, eo3 + j * 1, none⟩ = some (.slice ea2 (M.getD j []).length ek2)) [(0, true), (1, true), (2, true), (3, true), (4, true), (5, true), (6, true), (8, true), (9, true), (10, true), (7, true), (11, false), (12, false), (13, false), (14, false), (15, false)] (by kernel_rfl) (by kernel_rfl) (by kernel_rfl) rfl (fun _ => ec3) (fun q1 => ?_)
     have H3 := eP3.drawn q1
     refine dM rfl rfl rfl (dM rfl rfl rfl (dM rfl rfl rfl (dM rfl rfl rfl (dM rfl rfl rfl (dM rfl rfl rfl (dV rfl rfl (fun zw hx => py_elz tu112 ts45 rfl rfl ee3 j (by omega) (by omega)) (dM rfl rfl rfl (dM rfl rfl rfl (dV rfl rfl (fun zw hx => py_elz tu112 ts45 rfl rfl ee4 r (by omega) (by omega)) (dV rfl rfl (fun zw hx => py_load tu45 rfl rfl hx) (d_end rfl (wn rfl) rfl rfl (py_load tu45 rfl rfl ec4) (d_end rfl (wn rfl) rfl rfl (py_elz tu112 ts45 rfl rfl ee4 r (by omega) (by omega)) (d_rowset rfl (wn rfl) ts45 H3 0 0 2 rfl rfl rfl (by first | omega | (simp only [List.length_set]; omega)) r (by first | omega | (simp only [List.length_set]; omega)) rfl ee4 rfl (fun b o cur T e1 hb hs hc _ => by   rw [ee3] at e1;   cases e1;   exact swap_cell hb hs hc) (fun w3 fp1 gp1 H4 => ?_))))))))))))))
     try dsimp only [lNA, lCA, lSZ, lSS] at H4
     refine d_end rfl (wn rfl) rfl rfl (py_elz tu112 ts45 rfl rfl ee3 j (by omega) (by omega)) (d_rowset rfl (wn rfl) ts45 H4 0 0 3 rfl rfl rfl (by first | omega | (simp only [List.length_set]; omega)) j (by first | omega | (simp only [List.length_set]; omega)) rfl ee3 rfl (fun _ _ _ _ _ _ _ _ hr => absurd rfl hr) (fun w4 fp2 gp2 H5 => ?_))
     try dsimp only [lNA, lCA, lSZ, lSS] at H5
     refine d_nil (W_seq ?_)
     have hsR := hR.swap (r := r) (a := j) (by omega) (by omega)
     have e2 : (((M.set r (M.getD j [])).set j (M.getD r [])).getD r []).length = l := hsR.2 r (by omega)
     obtain ⟨eb5, eo5, ea4, ek4, ef4, ee5, ec5, eO4, eH4, em4⟩ := elem_view (H5.mine 0 rfl) (H5.rowsAt 0 rfl) (by first | omega | (simp only [List.length_set]; omega)) r (by first | omega | (simp only [List.length_set]; omega))
     have eP4 := H5.lookR 0 rfl eO4 eH4
     obtain ⟨eb6, eo6, ee6, ec6⟩ := elem_u8 (eP4.seen 4 rfl) c (by omega)
     refine W_drw (S := Ext No _) [(0, true), (1, true), (2, true), (3, true), (4, true), (5, true), (6, true), (7, true), (8, true), (9, true), (10, true), (11, true), (12, true), (13, false), (14, false), (15, true), (16, false)] (by kernel_rfl) (by kernel_rfl) (by kernel_rfl) rfl (fun _ => Ext.refl.drawn _) (fun q2 => ?_)
     have H6 := eP4.drawn q2
     refine dM rfl rfl rfl (dM rfl rfl rfl (dM rfl rfl rfl (dM rfl rfl rfl (dV rfl rfl (fun zw hx => py_elz tu112 ts45 rfl rfl ee5 r (by omega) (by omega)) (dV rfl rfl (fun zw hx => py_load tu45 rfl rfl (hx.cell ec5)) (dM rfl rfl rfl (dM rfl rfl rfl (dV rfl rfl (fun zw hx => py_elz tu112 ts45 rfl rfl ee5 r (by omega) (by omega)) (dV rfl rfl (fun zw hx => py_load tu45 rfl rfl (hx.cell ec5)) (dM rfl rfl rfl (dV rfl rfl (fun zw hx => py_elz tu45 ts5 rfl rfl ee6 c (by omega) (by omega)) (dV rfl rfl (fun zw hx => py_load tu5 rfl rfl (hx.cell ec6)) (d_call rfl (wn rfl) rfl rfl (pc_call Tryz.func332 rfl Tryz_nm332 rfl) (Tryz_impl_div (a := 1)) (fun hS _ _ r _ => hS.trans r.1.no) (fun v1 w5 r1 => ?_))))))))))))))
     obtain ⟨e3, rfl⟩ := r1
     have H7 := H6.to e3
     refine d_call rfl (wn rfl) rfl rfl (pc_call Tryz.func287 rfl Tryz_nm287 rfl) (Tryz_impl_scaled (H7.sees 4 rfl) (by omega)) (fun hS _ _ r _ => hS.trans r.1.no) (fun v2 w6 r2 => ?_)
     obtain ⟨e4, r2⟩ := r2
     obtain ⟨fp3, H8⟩ := H7.res e4 r2
     obtain ⟨a1, k1, q3⟩ := own_slice (H8.mine 1 rfl)
     cases q3
     refine dV rfl rfl (fun zw hx => py_elz tu112 ts45 rfl rfl ee5 r (by omega) (by omega)) ?_
     have H10 := H8.share 1 rfl
     try dsimp only [lNA, lCA, lSZ, lSS] at H10
     refine d_rowset rfl (wn rfl) ts45 H10 0 0 5 rfl rfl rfl (by first | omega | (simp only [List.length_set]; omega)) r (by first | omega | (simp only [List.length_set]; omega)) rfl ee5 rfl (fun _ _ _ _ _ _ _ _ hr => absurd rfl hr) (fun w7 fp4 gp3 H9 => ?_)
     try dsimp only [lNA, lCA, lSZ, lSS] at H9
     refine d_nil (W_seq (W_seq ?_))
     have HN := H9
     rw [norm_of (by omega) (by omega)] at HN
     refine W_reg (sM rfl rfl (sV rfl (py_len tu112 rfl) (sM rfl rfl (s_nil (W_block (W_loop (γ := Nat × List View × List Nat × List Nat) (fun (i, vs2, f2, g2) => [(0, .slice VA K VC), (1, .int .i64 n), (5, .int .i64 r), (6, .int .i64 c), (63, .slice VA K VC), (64, .int .i64 K), (65, .int .i64 i)]) (fun (i, vs2, f2, g2) w' => Sep (· ∈ fp) w [mine [.slice VA K VC] vs2 f2] [rows vs2 (elimTo (normM M c r j) c r i) g2] w' ∧ i ≤ K ∧ vs2.length = K) (fun (i, vs2, f2, g2) => K - i) (0, _, _, _) ⟨rfl, rfl, rfl, rfl, rfl, rfl, rfl, trivial⟩ ⟨by rw [elimTo_zero]; exact ((HN.ftake 1).dtake 1), by omega, by simp only [List.length_set]; omega⟩ (fun (i, vs2, f2, g2) w8 H11 => ?_)))))))
     obtain ⟨H11, hi, vl2⟩ := H11
     refine W_sr (sV rfl (py_lss rfl rfl) (s_nil (W_seq (W_ifd rfl (fun c5 => ?_) (fun c5 => ?_)))))
     ·refine W_skip (W_seq (W_block (W_sr (sM rfl rfl (sA rfl rfl (s_nil (W_seq ?_)))))))
      have nR := hR.norm (c := c) (r := r) (a := j) (by omega) (by omega)
      have eR := nR.elim (c := c) (r := r) (k := i) (by omega)
      have xl2 := eR.1
      have e3 := eR.2 i (by omega)
      have e4 := eR.2 r (by omega)
      obtain ⟨eb7, eo7, ea5, ek5, ef5, ee7, ec7, eO5, eH5, em5⟩ := elem_view (H11.mine 0 rfl) (H11.rowsAt 0 rfl) (by first | omega | (simp only [List.length_set]; omega)) i (by first | omega | (simp only [List.length_set]; omega))
      have eP5 := H11.lookR 0 rfl eO5 eH5
      obtain ⟨eb8, eo8, ee8, ec8⟩ := elem_u8 (eP5.seen 1 rfl) c (by omega)
      refine W_reg (sM rfl rfl (sM rfl rfl (sV rfl (py_neq rfl rfl) (sM rfl rfl (s_grp 8 (j := 3) (want := true) (t := 79) rfl rfl rfl rfl (fun hg1 kk1 => s_val (wgE rfl rfl rfl hg1) rfl rfl (py_move rfl) (s_val (wgE rfl rfl rfl hg1) rfl rfl (py_move rfl) (s_val (wgE rfl rfl rfl hg1) rfl rfl (py_elz tu112 ts45 rfl rfl ee7 i (by first | omega | (simp only [Bool.or_eq_false_iff, Bool.and_eq_true, Bool.and_eq_false_iff, Bool.or_eq_true, Bool.not_eq_true', Bool.not_eq_false', decide_eq_true_eq, decide_eq_false_iff_not] at hg1; omega)) (by omega)) (s_val (wgE rfl rfl rfl hg1) rfl rfl (py_load tu45 rfl rfl ec7) (s_val (wgE rfl rfl rfl hg1) rfl rfl (py_move rfl) (s_val (wgE rfl rfl rfl hg1) rfl rfl (py_elz tu45 ts5 rfl rfl ee8 c (by first | omega | (simp only [Bool.or_eq_false_iff, Bool.and_eq_true, Bool.and_eq_false_iff, Bool.or_eq_true, Bool.not_eq_true', Bool.not_eq_false', decide_eq_true_eq, decide_eq_false_iff_not] at hg1; omega)) (by omega)) (s_val (wgE rfl rfl rfl hg1) rfl rfl (py_load tu5 rfl rfl ec8) (s_val (wgE rfl rfl rfl hg1) rfl rfl (py_neq rfl rfl) (kk1 _ _ (kx rfl (kx rfl (kx rfl (kx rfl (kx rfl (kx rfl (kx rfl (kx rfl k0)))))))) rfl Ext.refl))))))))) (fun w9 e6 => ?_))))))
      have H12 := eP5.to e6
      refine sV rfl (py_band rfl rfl) (s_nil (W_if rfl (fun c6 => ?_) (fun c6 => ?_)))
      ·obtain ⟨eb9, eo9, ea6, ek6, ef6, ee9, ec9, eO6, eH6, em6⟩ := elem_view (H12.mine 0 rfl) (H12.rowsAt 0 rfl) (by first | omega | (simp only [List.length_set]; omega)) i (by first | omega | (simp only [List.length_set]; omega))
       have eP6 := H12.lookR 0 rfl eO6 eH6
       obtain ⟨eb10, eo10, ea7, ek7, ef7, ee10, ec10, eO7, eH7, em7⟩ := elem_view (eP6.mine 0 rfl) (eP6.rowsAt 0 rfl) (by first | omega | (simp only [List.length_set]; omega)) r (by first | omega | (simp only [List.length_set]; omega))
       have eP7 := eP6.lookR 0 rfl eO7 eH7
       obtain ⟨eb11, eo11, ee11, ec11⟩ := elem_u8 (eP7.seen 2 rfl) c (by omega)
       refine W_drw (S := Ext No _) [(0, true), (1, true), (2, true), (3, true), (4, true), (5, true), (6, true), (7, true), (8, true), (9, true), (10, true), (11, true), (12, true), (13, true), (14, true), (15, true), (16, true), (17, false), (18, true), (19, false)] (by kernel_rfl) (by kernel_rfl) (by kernel_rfl) rfl (fun _ => Ext.refl.drawn _) (fun q4 => ?_)
       have H13 := eP7.drawn q4
       refine dM rfl rfl rfl (dM rfl rfl rfl (dM rfl rfl rfl (dM rfl rfl rfl (dV rfl rfl (fun zw hx => py_elz tu112 ts45 rfl rfl ee9 i (by omega) (by omega)) (dV rfl rfl (fun zw hx => py_load tu45 rfl rfl (hx.cell ec9)) (dM rfl rfl rfl (dM rfl rfl rfl (dV rfl rfl (fun zw hx => py_elz tu112 ts45 rfl rfl ee10 r (by omega) (by omega)) (dV rfl rfl (fun zw hx => py_load tu45 rfl rfl (hx.cell ec10)) (dM rfl rfl rfl (dM rfl rfl rfl (dV rfl rfl (fun zw hx => py_elz tu112 ts45 rfl rfl ee9 i (by omega) (by omega)) (dV rfl rfl (fun zw hx => py_load tu45 rfl rfl (hx.cell ec9)) (dM rfl rfl rfl (dV rfl rfl (fun zw hx => py_elz tu45 ts5 rfl rfl ee11 c (by omega) (by omega)) (dV rfl rfl (fun zw hx => py_load tu5 rfl rfl (hx.cell ec11)) (d_call rfl (wn rfl) rfl rfl (pc_call Tryz.func210 rfl Tryz_nm210 rfl) (Tryz_impl_sum (H13.sees 2 rfl) (H13.sees 3 rfl) (by first | assumption | omega)) (fun hS _ _ r _ => hS.trans r.1.no) (fun v3 w10 r3 => ?_))))))))))))))))))
       obtain ⟨e7, r3⟩ := r3
       obtain ⟨fp5, H14⟩ := H13.res e7 r3
       obtain ⟨a2, k2, q5⟩ := own_slice (H14.mine 1 rfl)
       cases q5
       refine dV rfl rfl (fun zw hx => py_elz tu112 ts45 rfl rfl ee9 i (by omega) (by omega)) ?_
       have H16 := H14.share 1 rfl
       try dsimp only [lNA, lCA, lSZ, lSS] at H16
       refine d_rowset rfl (wn rfl) ts45 H16 0 0 4 rfl rfl rfl (by first | omega | (simp only [List.length_set]; omega)) i (by first | omega | (simp only [List.length_set]; omega)) rfl ee9 rfl (fun _ _ _ _ _ _ _ _ hr => absurd rfl hr) (fun w11 fp6 gp4 H15 => ?_)
       try dsimp only [lNA, lCA, lSZ, lSS] at H15
       refine d_nil (W_reg (sV rfl (py_add rfl rfl (in64 ⟨by omega, by omega⟩)) (sM rfl rfl (s_nil ?_))))
       have hz := ((H15.ftake 1).dtake 1)
       rw [elimTo_set (by rw [nR.1]; omega) (elim_ne (N := [[]]) (c := c) c6) (by rw [elimTo_at (by rw [nR.1]; omega), elimTo_r (by rw [nR.1]; omega)]; rfl)] at hz
       refine ⟨(i + 1, _, _, _), ⟨rfl, rfl, rfl, rfl, rfl, rfl, rfl, trivial⟩, ⟨hz, by omega, by simp only [List.length_set]; omega⟩, by dsimp only; omega⟩
      ·refine W_skip (W_reg (sV rfl (py_add rfl rfl (in64 ⟨by omega, by omega⟩)) (sM rfl rfl (s_nil ?_))))
       have hz := (H12.ftake 1)
       rw [elim_next nR (by omega) (by omega) c6] at hz
       refine ⟨(i + 1, _, _, _), ⟨rfl, rfl, rfl, rfl, rfl, rfl, rfl, trivial⟩, ⟨hz, by omega, vl2⟩, by dsimp only; omega⟩
     ·refine W_exit (W_reg (sM rfl rfl (sV rfl (py_add rfl rfl (in64 ⟨by omega, by omega⟩)) (sA rfl rfl (s_nil (W_reg (sM rfl rfl (sV rfl (py_add rfl rfl (in64 ⟨by omega, by omega⟩)) (sA rfl rfl (s_nil ?_))))))))))
      have hz := H11
      rw [show i = K by omega] at hz
      refine ⟨(c + 1, elimTo (normM M c r j) c r K, r + 1, _, _, _), ⟨rfl, rfl, rfl, rfl, trivial⟩, ⟨hz, by omega, (step_some hred hpv (by omega)).trans (by rw [xl]), (hR.norm (by omega) (by omega)).elim (by omega), by omega, vl2⟩, by dsimp only; omega⟩
   ·refine W_skip (W_reg (sM rfl rfl (sV rfl (py_add rfl rfl (in64 ⟨by omega, by omega⟩)) (sA rfl rfl (s_nil (⟨j + 1, ⟨rfl, rfl, rfl, rfl, rfl, rfl, trivial⟩, ⟨(eP1.ftake 1), by omega, by omega, fun i h1 h2 => ?_⟩, by dsimp only; omega⟩))))))
    by_cases e : i = j
    ·subst e; show (M.getD i []).getD c 0 = 0; exact u8_zero (by omega)
    ·exact hnz i h1 (by omega)
  ·refine W_exit (W_seq (W_seq ?_))
   have hpv : pivAt M c r = M.length := pivAt_eq (by omega) (Nat.le_refl _) (fun i h1 h2 => hnz i h1 (by omega)) (.inl rfl)
   refine W_reg (sM rfl rfl (sV rfl (py_lss rfl rfl) (s_nil (W_ifd rfl (fun c7 => ?_) (fun c7 => ?_)))))
   ·refine W_exit (W_reg (sM rfl rfl (sV rfl (py_add rfl rfl (in64 ⟨by omega, by omega⟩)) (sA rfl rfl (s_nil (⟨(c + 1, M, r, _, _, _), ⟨rfl, rfl, rfl, rfl, trivial⟩, ⟨H2, by omega, step_none hred (Nat.le_of_eq hpv.symm), hR, hrK, vl⟩, by dsimp only; omega⟩))))))
   ·exact absurd (by omega) c7
 ·refine W_exit (W_sr (sM rfl rfl (sA rfl rfl (s_nil (rT hQ Tryz.results345 rfl ?_)))))
  have hz := H1.rowsOut vl
  have e9 : redM m n = (M, r) := by
   obtain rfl : c = n := by omega
   exact hred
  rw [e9]
  exact ⟨rfl, hz⟩
theorem Tryz_spec_l1Step {w : World} {K l n : Nat} {m : Mat} {vs0 : List View} {VA : Option Addr} {VC : Nat} {fp g0 : List Nat} (o : own true w [.slice VA K VC] vs0 fp) (nd : fp.Nodup) (hr0 : ownL false w (vs0.map View.val) m g0) (hd : ∀ b ∈ g0, b ∉ fp) (vl0 : vs0.length = K) (hR0 : Rect m K l) (hn : n < l ∧ l ≤ 1000 ∧ 1 ≤ K ∧ K ≤ 1000) : Ret Tryz.prog 355 #[.slice VA K VC, .int .i64 n] w fun v w' => (v = .int .i64 ((redM m n).2 : Nat) ∧ RowsMut w w' fp (.slice VA K VC) K (redM m n).1) := by
 refine ret_Q (vs := [.slice VA K VC, .int .i64 n]) Tryz.func355 rfl Tryz.ntmps355 rfl (fun Q hQ hN => ?_)
 have H0 := Sep.beginRows o nd hr0 hd
 refine W_sr (sA rfl rfl (s_nil (W_sr (sA rfl rfl (s_nil (W_seq (W_sr (sA rfl rfl (s_nil (W_block (W_loop (γ := Nat × Mat × Nat × List View × List Nat × List Nat) (fun (c, M, r, vs, f, g) => [(0, .slice VA K VC), (1, .int .i64 n), (5, .int .i64 r), (6, .int .i64 c)]) (fun (c, M, r, vs, f, g) w' => Sep (· ∈ fp) w [mine [.slice VA K VC] vs f] [rows vs M g] w' ∧ c ≤ n ∧ redM m c = (M, r) ∧ Rect M K l ∧ r ≤ K ∧ vs.length = K) (fun (c, M, r, vs, f, g) => n - c) (0, m, 0, _, _, _) ⟨rfl, rfl, rfl, rfl, trivial⟩ ⟨H0, by omega, rfl, hR0, by omega, vl0⟩ (fun (c, M, r, vs, f, g) w1 H1 => ?_))))))))))))
 obtain ⟨H1, hc, hred, hR, hrK, vl⟩ := H1
 refine W_seq (W_sr (sM rfl rfl (sM rfl rfl (sV rfl (py_lss rfl rfl) (sM rfl rfl (s_grp 4 (j := 3) (want := true) (t := 17) rfl rfl rfl rfl (fun hg1 kk1 => s_val (wgE rfl rfl rfl hg1) rfl rfl (py_move rfl) (s_val (wgE rfl rfl rfl hg1) rfl rfl (py_move rfl) (s_val (wgE rfl rfl rfl hg1) rfl rfl (py_len tu112 rfl) (s_val (wgE rfl rfl rfl hg1) rfl rfl (py_lss rfl rfl) (kk1 _ _ (kx rfl (kx rfl (kx rfl (kx rfl k0)))) rfl Ext.refl))))) (fun w2 e1 => ?_)))))))
 have H2 := H1.to e1
 refine sV rfl (py_band rfl rfl) (s_nil (W_if rfl (fun c1 => ?_) (fun c1 => ?_)))
 ·refine W_skip (W_seq (W_block (W_seq ?_)))
  simp only [Bool.and_eq_true, decide_eq_true_eq] at c1
  have xl := hR.1
  refine W_reg (sM rfl rfl (sA rfl rfl (s_nil (W_seq (W_block (W_loop (γ := Nat) (fun j => [(0, .slice VA K VC), (1, .int .i64 n), (5, .int .i64 r), (6, .int .i64 c), (7, .int .i64 j)]) (fun j w' => Sep (· ∈ fp) w _ _ w' ∧ r ≤ j ∧ j ≤ K ∧ ∀ i, r ≤ i → i < j → entry M i c = 0) (fun j => K - j) r ⟨rfl, rfl, rfl, rfl, rfl, trivial⟩ ⟨H2, by omega, by omega, fun i h1 h2 => by omega⟩ (fun j w3 H3 => ?_)))))))
  obtain ⟨H3, hj1, hj2, hnz⟩ := H3
  refine W_seq (W_seq ?_)
  obtain ⟨jj, hjj, hjk⟩ : ∃ jj, jj < K ∧ (j < K → jj = j) := ⟨if j < K then j else 0, by split <;> omega, fun h => if_pos h⟩
  have e1 := hR.2 jj hjj
  obtain ⟨eb1, eo1, ea1, ek1, ef1, ee1, ec1, eO1, eH1, em1⟩ := elem_view (H3.mine 0 rfl) (H3.rowsAt 0 rfl) (by first | omega | (simp only [List.length_set]; omega)) jj (by first | omega | (simp only [List.length_set]; omega))
  have eP1 := H3.lookR 0 rfl eO1 eH1
  obtain ⟨eb2, eo2, ee2, ec2⟩ := elem_u8 (eP1.seen 1 rfl) c (by omega)
  refine W_reg (sM rfl rfl (sM rfl rfl (sV rfl (py_len tu112 rfl) (sV rfl (py_lss rfl rfl) (sM rfl rfl (s_grp 8 (j := 4) (want := true) (t := 34) rfl rfl rfl rfl (fun hg2 kk2 => s_val (wgE rfl rfl rfl hg2) rfl rfl (py_move rfl) (s_val (wgE rfl rfl rfl hg2) rfl rfl (py_move rfl) (s_val (wgE rfl rfl rfl hg2) rfl rfl (py_elz tu112 ts45 rfl rfl ee1 jj (by first | omega | (simp only [Bool.or_eq_false_iff, Bool.and_eq_true, Bool.and_eq_false_iff, Bool.or_eq_true, Bool.not_eq_true', Bool.not_eq_false', decide_eq_true_eq, decide_eq_false_iff_not] at hg2; omega)) (by omega)) (s_val (wgE rfl rfl rfl hg2) rfl rfl (py_load tu45 rfl rfl ec1) (s_val (wgE rfl rfl rfl hg2) rfl rfl (py_move rfl) (s_val (wgE rfl rfl rfl hg2) rfl rfl (py_elz tu45 ts5 rfl rfl ee2 c (by first | omega | (simp only [Bool.or_eq_false_iff, Bool.and_eq_true, Bool.and_eq_false_iff, Bool.or_eq_true, Bool.not_eq_true', Bool.not_eq_false', decide_eq_true_eq, decide_eq_false_iff_not] at hg2; omega)) (by omega)) (s_val (wgE rfl rfl rfl hg2) rfl rfl (py_load tu5 rfl rfl ec2) (s_val (wgE rfl rfl rfl hg2) rfl rfl (py_eql rfl rfl) (kk2 _ _ (kx rfl (kx rfl (kx rfl (kx rfl (kx rfl (kx rfl (kx rfl (kx rfl k0)))))))) rfl Ext.refl))))))))) (fun w4 e2 => ?_)))))))
  have H4 := eP1.to e2
  refine sV rfl (py_band rfl rfl) (s_nil (W_if rfl (fun c2 => ?_) (fun c2 => ?_)))
  ·refine W_skip (W_block (W_reg (sM rfl rfl (sV rfl (py_add rfl rfl (in64 ⟨by omega, by omega⟩)) (sA rfl rfl (s_nil ?_))))))
   simp only [Bool.and_eq_true, decide_eq_true_eq] at c2
   have ez : entry M j c = 0 := by
    rw [← hjk (by omega)]
    show (M.getD jj []).getD c 0 = 0
    exact u8_zero (by omega)
   refine ⟨j + 1, ⟨rfl, rfl, rfl, rfl, rfl, trivial⟩, ⟨H4.ftake 1, by omega, by omega, fun i h1 h2 => ?_⟩, by dsimp only; omega⟩
   by_cases e : i = j
   ·subst e; exact ez
   ·exact hnz i h1 (by omega)
  ·refine W_exit (W_seq (W_sr (sM rfl rfl (sM rfl rfl (sV rfl (py_len tu112 rfl) (sV rfl (py_eql rfl rfl) (s_nil (W_ifd rfl (fun c3 => ?_) (fun c3 => ?_)))))))))
   ·refine W_exit (W_reg (sM rfl rfl (sV rfl (py_add rfl rfl (in64 ⟨by omega, by omega⟩)) (sA rfl rfl (s_nil ?_)))))
    have hpv : pivAt M c r = M.length := pivAt_eq (by omega) (Nat.le_refl _) (fun i h1 h2 => hnz i h1 (by omega)) (.inl rfl)
    refine ⟨(c + 1, M, r, _, _, _), ⟨rfl, rfl, rfl, rfl, trivial⟩, ⟨(H4.ftake 1), by omega, step_none hred (Nat.le_of_eq hpv.symm), hR, hrK, vl⟩, by dsimp only; omega⟩
   ·refine W_skip (W_seq ?_)
    have hpv : pivAt M c r = j := pivAt_eq (by omega) (by omega) hnz (.inr (fun e => by
     have ej := hjk (by omega)
     rw [entry, ← ej] at e
     simp only [Bool.and_eq_false_iff, decide_eq_false_iff_not] at c2
     rcases c2 with h | h
     ·omega
     ·exact h (by rw [e]; rfl)))
    have e5 := hR.2 j (by omega)
    obtain ⟨eb3, eo3, ea2, ek2, ef2, ee3, ec3, eO2, eH2, em2⟩ := elem_view (H4.mine 0 rfl) (H4.rowsAt 0 rfl) (by first | omega | (simp only [List.length_set]; omega)) j (by first | omega | (simp only [List.length_set]; omega))
    have eP2 := H4.lookR 0 rfl eO2 eH2
    refine W_reg (sM rfl rfl (sM rfl rfl (sV rfl (py_elz tu112 ts45 rfl rfl ee3 j (by omega) (by omega)) (sV rfl (py_load tu45 rfl rfl ec3) (sA rfl rfl (s_nil (W_seq ?_)))))))
    obtain ⟨eb4, eo4, ea3, ek3, ef3, ee4, ec4, eO3, eH3, em3⟩ := elem_view (eP2.mine 0 rfl) (eP2.rowsAt 0 rfl) (by first | omega | (simp only [List.length_set]; omega)) r (by first | omega | (simp only [List.length_set]; omega))
    have eP3 := eP2.lookR 0 rfl eO3 eH3
    obtain ⟨eb5, eo5, ea4, ek4, ef4, ee5, ec5, eO4, eH4, em4⟩ := elem_view (eP3.mine 0 rfl) (eP3.rowsAt 0 rfl) (by first | omega | (simp only [List.length_set]; omega)) j (by first | omega | (simp only [List.length_set]; omega))
    have eP4 := eP3.lookR 0 rfl eO4 eH4
    refine W_reg (sM rfl rfl (sM rfl rfl (sM rfl rfl (sM rfl rfl (sV rfl (py_elz tu112 ts45 rfl rfl ee4 r (by omega) (by omega)) (sV rfl (py_load tu45 rfl rfl ec4) (sV rfl (py_elz tu112 ts45 rfl rfl ee5 j (by omega) (by omega)) (s_rowset (wn rfl) ts45 eP4 0 0 3 rfl rfl rfl (by first | omega | (simp only [List.length_set]; omega)) j (by first | omega | (simp only [List.length_set]; omega)) rfl ee5 rfl (fun w5 fp1 gp1 H5 => ?_)))))))))
    try dsimp only [lNA, lCA, lSZ, lSS] at H5
    refine s_nil (W_seq ?_)
    obtain ⟨eb6, eo6, ee6, ec6⟩ := elem_u8 (H5.seen 2 rfl) c (by omega)
    obtain ⟨eb7, eo7, ea5, ek5, ef5, ee7, ec7, eO5, eH5, em5⟩ := elem_view (H5.mine 0 rfl) (H5.rowsAt 0 rfl) (by first | omega | (simp only [List.length_set]; omega)) r (by first | omega | (simp only [List.length_set]; omega))
    have eP5 := H5.lookR 0 rfl eO5 eH5
    refine W_reg (sM rfl rfl (sM rfl rfl (sM rfl rfl (sM rfl rfl (sM rfl rfl (sV rfl (py_elz tu45 ts5 rfl rfl ee6 c (by omega) (by omega)) (sV rfl (py_load tu5 rfl rfl ec6) (s_call (wn rfl) rfl rfl (pc_call Tryz.func275 rfl Tryz_nm275 rfl) Tryz_spec_l1Inv (fun v1 w6 r1 => ?_)))))))))
    obtain ⟨e4, rfl⟩ := r1
    have H6 := eP5.to e4
    refine s_call (wn rfl) rfl rfl (pc_call Tryz.func196 rfl Tryz_nm196 rfl) (Tryz_spec_l1Scale (H6.sees 2 rfl) (by omega)) (fun v2 w7 r2 => ?_)
    obtain ⟨e5, r2⟩ := r2
    obtain ⟨fp2, H7⟩ := H6.res e5 r2
    obtain ⟨a1, k1, q1⟩ := own_slice (H7.mine 1 rfl)
    cases q1
    refine sV rfl (py_elz tu112 ts45 rfl rfl ee7 r (by omega) (by omega)) ?_
    have H9 := H7.share 1 rfl
    try dsimp only [lNA, lCA, lSZ, lSS] at H9
    refine s_rowset (wn rfl) ts45 H9 0 0 6 rfl rfl rfl (by first | omega | (simp only [List.length_set]; omega)) r (by first | omega | (simp only [List.length_set]; omega)) rfl ee7 rfl (fun w8 fp3 gp2 H8 => ?_)
    try dsimp only [lNA, lCA, lSZ, lSS] at H8
    refine s_nil (W_seq (W_seq ?_))
    have HN := H8
    rw [show (M.set j (M.getD r [])).set r (scaleG (M.getD j []) (invG ((M.getD j []).getD c 0))) = normM M c r j from rfl] at HN
    refine W_reg (sA rfl rfl (s_nil (W_block (W_loop (γ := Nat × List View × List Nat × List Nat) (fun (i, vs2, f2, g2) => [(0, .slice VA K VC), (1, .int .i64 n), (5, .int .i64 r), (6, .int .i64 c), (9, .int .i64 i)]) (fun (i, vs2, f2, g2) w' => Sep (· ∈ fp) w [mine [.slice VA K VC] vs2 f2] [rows vs2 (elimTo (normM M c r j) c r i) g2] w' ∧ i ≤ K ∧ vs2.length = K) (fun (i, vs2, f2, g2) => K - i) (0, _, _, _) ⟨rfl, rfl, rfl, rfl, rfl, trivial⟩ ⟨by rw [elimTo_zero]; exact ((HN.ftake 1).dtake 1), by omega, by simp only [List.length_set]; omega⟩ (fun (i, vs2, f2, g2) w9 H10 => ?_)))))
    obtain ⟨H10, hi, vl2⟩ := H10
    refine W_seq (W_sr (sM rfl rfl (sM rfl rfl (sV rfl (py_len tu112 rfl) (sV rfl (py_lss rfl rfl) (s_nil (W_ifd rfl (fun c4 => ?_) (fun c4 => ?_))))))))
    ·refine W_skip (W_seq (W_block (W_sr (sM rfl rfl (sM rfl rfl (sV rfl (py_neq rfl rfl) (s_nil (W_ifd rfl (fun c5 => ?_) (fun c5 => ?_)))))))))
     ·have nR := hR.norm (c := c) (r := r) (a := j) (by omega) (by omega)
      have eR := nR.elim (c := c) (r := r) (k := i) (by omega)
      have xl2 := eR.1
      have e3 := eR.2 i (by omega)
      have e4 := eR.2 r (by omega)
      have sl := scaleG_len ((elimTo (normM M c r j) c r i).getD r []) (((elimTo (normM M c r j) c r i).getD i []).getD c 0)
      obtain ⟨eb8, eo8, ea6, ek6, ef6, ee8, ec8, eO6, eH6, em6⟩ := elem_view (H10.mine 0 rfl) (H10.rowsAt 0 rfl) (by first | omega | (simp only [List.length_set]; omega)) i (by first | omega | (simp only [List.length_set]; omega))
      have eP6 := H10.lookR 0 rfl eO6 eH6
      obtain ⟨eb9, eo9, ea7, ek7, ef7, ee9, ec9, eO7, eH7, em7⟩ := elem_view (eP6.mine 0 rfl) (eP6.rowsAt 0 rfl) (by first | omega | (simp only [List.length_set]; omega)) r (by first | omega | (simp only [List.length_set]; omega))
      have eP7 := eP6.lookR 0 rfl eO7 eH7
      obtain ⟨eb10, eo10, ee10, ec10⟩ := elem_u8 (eP7.seen 1 rfl) c (by omega)
      refine W_drw (S := Ext No _) [(0, true), (1, true), (2, true), (3, true), (4, true), (5, true), (6, true), (7, true), (8, true), (9, true), (10, true), (11, true), (12, true), (13, true), (14, true), (15, true), (16, true), (17, false), (18, false), (19, true), (20, false)] (by kernel_rfl) (by kernel_rfl) (by kernel_rfl) rfl (fun _ => Ext.refl.drawn _) (fun q2 => ?_)
      have H11 := eP7.drawn q2
      refine dM rfl rfl rfl (dM rfl rfl rfl (dM rfl rfl rfl (dM rfl rfl rfl (dV rfl rfl (fun zw hx => py_elz tu112 ts45 rfl rfl ee8 i (by omega) (by omega)) (dV rfl rfl (fun zw hx => py_load tu45 rfl rfl (hx.cell ec8)) (dM rfl rfl rfl (dM rfl rfl rfl (dV rfl rfl (fun zw hx => py_elz tu112 ts45 rfl rfl ee9 r (by omega) (by omega)) (dV rfl rfl (fun zw hx => py_load tu45 rfl rfl (hx.cell ec9)) (dM rfl rfl rfl (dM rfl rfl rfl (dV rfl rfl (fun zw hx => py_elz tu112 ts45 rfl rfl ee8 i (by omega) (by omega)) (dV rfl rfl (fun zw hx => py_load tu45 rfl rfl (hx.cell ec8)) (dM rfl rfl rfl (dV rfl rfl (fun zw hx => py_elz tu45 ts5 rfl rfl ee10 c (by omega) (by omega)) (dV rfl rfl (fun zw hx => py_load tu5 rfl rfl (hx.cell ec10)) (d_call rfl (wn rfl) rfl rfl (pc_call Tryz.func196 rfl Tryz_nm196 rfl) (Tryz_spec_l1Scale (H11.sees 2 rfl) (by omega)) (fun hS _ _ r _ => hS.trans r.1.no) (fun v3 w10 r3 => ?_))))))))))))))))))
      obtain ⟨e7, r3⟩ := r3
      obtain ⟨fp4, H12⟩ := H11.res e7 r3
      obtain ⟨a2, k2, q3⟩ := own_slice (H12.mine 1 rfl)
      cases q3
      refine d_call rfl (wn rfl) rfl rfl (pc_call Tryz.func197 rfl Tryz_nm197 rfl) (Tryz_spec_l1Add (H12.sees 1 rfl) (H12.msees 1 rfl) (by omega)) (fun hS _ _ r _ => hS.trans r.1.no) (fun v4 w11 r4 => ?_)
      obtain ⟨e8, r4⟩ := r4
      obtain ⟨fp5, H13⟩ := H12.res e8 r4
      obtain ⟨a3, k3, q4⟩ := own_slice (H13.mine 2 rfl)
      cases q4
      refine dV rfl rfl (fun zw hx => py_elz tu112 ts45 rfl rfl ee8 i (by omega) (by omega)) ?_
      have H15 := H13.share 2 rfl
      try dsimp only [lNA, lCA, lSZ, lSS] at H15
      refine d_rowset rfl (wn rfl) ts45 H15 0 0 3 rfl rfl rfl (by first | omega | (simp only [List.length_set]; omega)) i (by first | omega | (simp only [List.length_set]; omega)) rfl ee8 rfl (fun _ _ _ _ _ _ _ _ hr => absurd rfl hr) (fun w12 fp6 gp3 H14 => ?_)
      try dsimp only [lNA, lCA, lSZ, lSS] at H14
      refine d_nil (W_reg (sM rfl rfl (sV rfl (py_add rfl rfl (in64 ⟨by omega, by omega⟩)) (sA rfl rfl (s_nil ?_)))))
      have nR := hR.norm (c := c) (r := r) (a := j) (by omega) (by omega)
      have hz := ((H14.ftake 1).dtake 1)
      rw [elimTo_set (by rw [nR.1]; omega) (by omega) (by rw [elimTo_at (by rw [nR.1]; omega), elimTo_r (by rw [nR.1]; omega)]; rfl)] at hz
      refine ⟨(i + 1, _, _, _), ⟨rfl, rfl, rfl, rfl, rfl, trivial⟩, ⟨hz, by omega, by simp only [List.length_set]; omega⟩, by dsimp only; omega⟩
     ·refine W_skip (W_reg (sM rfl rfl (sV rfl (py_add rfl rfl (in64 ⟨by omega, by omega⟩)) (sA rfl rfl (s_nil ?_)))))
      have nR := hR.norm (c := c) (r := r) (a := j) (by omega) (by omega)
      have hz := H10
      rw [elimTo_skip (.inl (by omega))] at hz
      refine ⟨(i + 1, _, _, _), ⟨rfl, rfl, rfl, rfl, rfl, trivial⟩, ⟨hz, by omega, vl2⟩, by dsimp only; omega⟩
    ·refine W_exit (W_reg (sM rfl rfl (sV rfl (py_add rfl rfl (in64 ⟨by omega, by omega⟩)) (sA rfl rfl (s_nil (W_reg (sM rfl rfl (sV rfl (py_add rfl rfl (in64 ⟨by omega, by omega⟩)) (sA rfl rfl (s_nil ?_))))))))))
     have hz := H10
     rw [show i = K by omega] at hz
     refine ⟨(c + 1, elimTo (normM M c r j) c r K, r + 1, _, _, _), ⟨rfl, rfl, rfl, rfl, trivial⟩, ⟨hz, by omega, (step_some hred hpv (by omega)).trans (by rw [xl]), (hR.norm (by omega) (by omega)).elim (by omega), by omega, vl2⟩, by dsimp only; omega⟩
 ·refine W_exit (W_sr (sM rfl rfl (sA rfl rfl (s_nil (rT hQ Tryz.results355 rfl ?_)))))
  have hz := H2.rowsOut vl
  have e9 : redM m n = (M, r) := by
   simp only [Bool.and_eq_false_iff, decide_eq_false_iff_not] at c1
   by_cases hq : c = n
   ·rw [← hq]; exact hred
   ·rw [red_full (c := c) (by rw [hred]; show r = M.length; rw [hR.1]; omega) n hc]; exact hred
  rw [e9]
  exact ⟨rfl, hz⟩
theorem Tryz_impl_solve {w : World} {m : List (List UInt8)} {mA bA : Option Addr} {mN mC bN bC : Nat} {b : List UInt8} (mS : Sees w [.slice mA mN mC] m) (bS : Sees w [.slice bA bN bC] b) (hR : Rect m m.length m.length) (hb : b.length = m.length) (hml : 1 ≤ m.length ∧ m.length ≤ 100) : Ret Tryz.prog 315 #[.slice mA mN mC, .slice bA bN bC] w fun v w' => Ext No w w' ∧ (∃ A C, v = .tuple #[.slice A (solL m b).length C, .bool (solOk m b)] ∧ Res w w' [.slice A (solL m b).length C] (solL m b)) := by
 obtain ⟨mF, mO⟩ := mS
 obtain rfl := own_n mO
 have mL := sL ⟨_, mO⟩
 obtain ⟨bF, bO⟩ := bS
 obtain rfl := own_n bO
 have bL := sL ⟨_, bO⟩
 refine ret_Q (vs := [.slice mA m.length mC, .slice bA b.length bC]) Tryz.func315 rfl Tryz.ntmps315 rfl (fun Q hQ hN => ?_)
 have H0 := Sep.start (w := w) (F := [seen false [.slice mA m.length mC] m mF, seen false [.slice bA b.length bC] b bF]) (all_cons mO (all_cons bO (by simp)))
 refine W_sr (sA rfl rfl (sA rfl rfl (s_nil (W_sr (sM rfl rfl (sV rfl (py_len tu112 rfl) (s_make (wn rfl) rfl tu112 Tryz_ty45 (own_zs (α := UInt8)) rfl (by omega) (by unfold maxLen; omega) H0 (fun b1 w1 e1 g1 H1 => ?_))))))))
 refine sA rfl rfl (s_nil (W_seq (W_sr (sM rfl rfl (sV rfl (py_len tu112 rfl) (sM rfl rfl (s_nil (W_block (W_loop (γ := Nat × List Nat) (fun (k, f) => [(0, .slice mA m.length mC), (1, .slice bA b.length bC), (6, .slice (some ⟨b1, 0, none⟩) m.length m.length), (15, .slice mA m.length mC), (16, .int .i64 m.length), (17, .int .i64 k)]) (fun (k, f) w' => Sep No w [mine [.slice (some ⟨b1, 0, none⟩) m.length m.length] (augIn m b k) f] [seen false [.slice mA m.length mC] m mF, seen false [.slice bA b.length bC] b bF] w' ∧ k ≤ m.length) (fun (k, f) => m.length - k) (0, _) ⟨rfl, rfl, rfl, rfl, rfl, rfl, trivial⟩ ⟨by rw [augIn_zero]; exact H1, by omega⟩ (fun (k, f) w2 H2 => ?_))))))))))
 obtain ⟨H2, hk⟩ := H2
 refine W_sr (sV rfl (py_lss rfl rfl) (s_nil (W_seq (W_ifd rfl (fun c1 => ?_) (fun c1 => ?_)))))
 ·refine W_skip (W_seq (W_block (W_seq ?_)))
  obtain ⟨eb1, eo1, ea1, ek1, ef1, ee1, ec1, eO1, eH1⟩ := elem_sl (H2.seen 0 rfl) k (by omega)
  have eP1 := H2.look1 0 rfl eO1 eH1
  refine W_reg (sM rfl rfl (sV rfl (py_elz tu112 ts45 rfl rfl ee1 k (by omega) (by omega)) (sV rfl (py_load tu45 rfl rfl ec1) (sA rfl rfl (sA rfl rfl (s_nil ?_))))))
  have e3 := hR.2 k (by omega)
  obtain ⟨eb2, eo2, ee2, ec2⟩ := elem_u8 (eP1.seen 1 rfl) k (by omega)
  obtain ⟨eb3, eo3, ee3⟩ := own_addr (eP1.mine 0 rfl) k (by rw [augIn_len (by omega)]; omega)
  refine W_drw (S := Ext No _) [(0, true), (1, true), (2, true), (4, true), (5, true), (6, true), (7, true), (1005, false), (3, false), (8, false), (9, false), (10, true), (11, false), (8, false), (3, false), (9, false), (10, true), (11, false)] (by kernel_rfl) (by kernel_rfl) (by kernel_rfl) rfl (fun _ => Ext.refl.drawn _) (fun q1 => ?_)
  have H3 := eP1.drawn q1
  refine dM rfl rfl rfl (dM rfl rfl rfl (dM rfl rfl rfl (dM rfl rfl rfl (dM rfl rfl rfl (dV rfl rfl (fun zw hx => py_elz tu45 ts5 rfl rfl ee2 k (by omega) (by omega)) (dV rfl rfl (fun zw hx => py_load tu5 rfl rfl (hx.cell ec2)) (d_fork (l1 := [(3, false), (8, false), (9, false), (10, true), (11, false)]) (l2 := [(8, false), (3, false), (9, false), (10, true), (11, false)]) rfl rfl rfl rfl ?_ ?_)))))))
  ·refine d_S (fun hs1 => ?_) (by simp)
   refine d_call rfl (wn rfl) rfl rfl (pc_call Tryz.func151 rfl Tryz_nm151 rfl) (Tryz_slices_Clone_byte_byte (H3.sees 2 rfl) (by omega)) (fun hS _ _ r _ => hS.trans r.1.no) (fun v1 w3 r1 => ?_)
   obtain ⟨e2, r1⟩ := r1
   obtain ⟨fp1, H4, fr1⟩ := H3.resN e2 r1
   obtain ⟨a1, k1, q2⟩ := own_slice (H4.mine 1 rfl)
   cases q2
   refine d_lit1 rfl (wn rfl) rfl tu45 Tryz_ty5 rfl rfl rfl rfl H4 (fun _ h e => h.trans e.no) (fun b2 w4 e3 g2 H5 => ?_)
   refine d_S (fun hs2 => ?_) (by simp)
   refine d_app1S rfl (wn rfl) rfl tu45 Tryz_ty5 rfl rfl rfl H5 1 2 rfl rfl own_b8 (by (try simp only [List.length_nil]); unfold maxLen; omega) (by (try simp only [List.length_nil]); omega) (fun b hb => Nat.le_trans hs1.size (fr1 b hb)) (fun v2 w5 fp2 sb1 H6 => ?_)
   try dsimp only [lNA, lCA, lSZ, lSS] at H6
   refine dV rfl rfl (fun zw hx => py_elz tu112 ts45 rfl rfl ee3 k (by omega) (by omega)) (d_elst2 rfl (wn rfl) ts45 rfl H6 0 1 rfl rfl rfl k (by rw [augIn_len (by omega)]; omega) rfl ee3 rfl (fun w6 fp3 H7 => ?_))
   refine d_nil (W_reg (sV rfl (py_add rfl rfl (in64 ⟨by omega, by omega⟩)) (sM rfl rfl (s_nil ?_))))
   have hz := ((H7.ftake 2).dtake 1)
   rw [augIn_set (by omega)] at hz
   refine ⟨(k + 1, _), ⟨rfl, rfl, rfl, rfl, rfl, rfl, trivial⟩, ⟨hz, by omega⟩, by dsimp only; omega⟩
  ·refine d_lit1 rfl (wn rfl) rfl tu45 Tryz_ty5 rfl rfl rfl rfl H3 (fun _ h e => h.trans e.no) (fun b3 w7 e5 g3 H8 => ?_)
   refine d_S (fun hs3 => ?_) (by simp)
   refine d_call rfl (wn rfl) rfl rfl (pc_call Tryz.func151 rfl Tryz_nm151 rfl) (Tryz_slices_Clone_byte_byte (H8.sees 2 rfl) (by omega)) (fun hS _ _ r _ => hS.trans r.1.no) (fun v3 w8 r2 => ?_)
   obtain ⟨e6, r2⟩ := r2
   obtain ⟨fp4, H9, fr2⟩ := H8.resN e6 r2
   obtain ⟨a2, k2, q3⟩ := own_slice (H9.mine 2 rfl)
   cases q3
   refine d_S (fun hs4 => ?_) (by simp)
   refine d_app1S rfl (wn rfl) rfl tu45 Tryz_ty5 rfl rfl rfl H9 2 1 rfl rfl own_b8 (by (try simp only [List.length_nil]); unfold maxLen; omega) (by (try simp only [List.length_nil]); omega) (fun b hb => Nat.le_trans hs3.size (fr2 b hb)) (fun v4 w9 fp5 sb2 H10 => ?_)
   try dsimp only [lNA, lCA, lSZ, lSS] at H10
   refine dV rfl rfl (fun zw hx => py_elz tu112 ts45 rfl rfl ee3 k (by omega) (by omega)) (d_elst2 rfl (wn rfl) ts45 rfl H10 0 2 rfl rfl rfl k (by rw [augIn_len (by omega)]; omega) rfl ee3 rfl (fun w10 fp6 H11 => ?_))
   refine d_nil (W_reg (sV rfl (py_add rfl rfl (in64 ⟨by omega, by omega⟩)) (sM rfl rfl (s_nil ?_))))
   have hz := ((H11.ftake 2).dtake 1)
   rw [augIn_set (by omega)] at hz
   refine ⟨(k + 1, _), ⟨rfl, rfl, rfl, rfl, rfl, rfl, trivial⟩, ⟨hz, by omega⟩, by dsimp only; omega⟩
 ·refine W_exit (W_seq (W_seq ?_))
  obtain rfl : k = m.length := by omega
  obtain ⟨vs, f2, g2, vl, HP⟩ := H2.parted 0 rfl
  try dsimp only [lNA, lCA, lSZ, lSS] at HP
  rw [augIn_all] at HP
  rw [augIn_all] at vl
  have hRa := aug_rect (b := b) hR
  have hRM := (hRa.red m.length).1
  have hM1 := hRM.1
  have vl1 : vs.length = m.length := vl.trans hRa.1
  refine W_reg (sM rfl rfl (sM rfl rfl (sV rfl (py_len tu112 rfl) (s_call (wn rfl) rfl rfl (pc_call Tryz.func345 rfl Tryz_nm345 rfl) (Tryz_impl_reduce (HP.mine 0 rfl) (HP.nodup1 (i := 0) rfl) (HP.rowsAt 2 rfl) (fun b hb => HP.off 2 rfl 0 rfl hb) (by first | assumption | omega) (by assumption) (by omega)) (fun v5 w11 r3 => ?_)))))
  obtain ⟨rfl, rm1⟩ := r3
  obtain ⟨rv1, rf1, rg1, rl1, H12⟩ := HP.rowsMut 0 rfl (by simp [blocks, mine, gone]) rm1
  try dsimp only [lNA, lCA, lSZ, lSS] at H12
  refine sM rfl rfl (sV rfl (py_len tu112 rfl) (sV rfl (py_lss rfl rfl) (s_nil (W_ifd rfl (fun c2 => ?_) (fun c2 => ?_)))))
  ·refine W_sr (sA rfl rfl (sA rfl rfl (s_nil (W_ret (hQ _ _ (fin2 Tryz.results315 rfl rfl ?_))))))
   obtain ⟨e1, e2⟩ := sol_no (m := m) (b := b) (by omega)
   exact ⟨H12.ext, none, 0, (by rw [e1, e2]; rfl), (by rw [e2]; exact ⟨[], .inr (.inl ⟨rfl, rfl, rfl⟩), .nil, by simp⟩)⟩
  ·refine W_skip (W_sr (s_lit0 (α := UInt8) (wn rfl) rfl tu45 Tryz_ty5 H12 (fun b4 w12 e9 g4 H13 => ?_)))
   refine sA rfl rfl (s_nil (W_seq (W_sr (sM rfl rfl (sV rfl (py_len tu112 rfl) (sM rfl rfl (s_nil (W_block (W_loop (γ := Nat × Value × List Nat) (fun (k, vo, f) => [(0, .slice mA m.length mC), (9, vo), (42, .slice (some ⟨b1, 0, none⟩) m.length m.length), (43, .int .i64 m.length), (44, .int .i64 k)]) (fun (k, vo, f) w' => Sep No w [mine [.slice (some ⟨b1, 0, none⟩) m.length m.length] rv1 rf1, mine [vo] (colTo (redM (aug m b) m.length).1 m.length k) f] _ w' ∧ k ≤ m.length) (fun (k, vo, f) => m.length - k) (0, _, _) ⟨rfl, rfl, rfl, rfl, rfl, trivial⟩ ⟨H13.sub (.cons_cons _ (.cons_cons _ List.Sublist.slnil)), by omega⟩ (fun (k, vo, f) w13 H14 => ?_))))))))))
   obtain ⟨H14, hk⟩ := H14
   refine W_sr (sV rfl (py_lss rfl rfl) (s_nil (W_seq (W_ifd rfl (fun c3 => ?_) (fun c3 => ?_)))))
   ·refine W_skip (W_seq (W_block (W_seq ?_)))
    obtain ⟨eb4, eo4, ea2, ek2, ef2, ee4, ec4, eO2, eH2, em1⟩ := elem_view (H14.mine 0 rfl) (H14.rowsAt 3 rfl) (by first | omega | (simp only [List.length_set]; omega)) k (by first | omega | (simp only [List.length_set]; omega))
    have eP2 := H14.lookR 3 rfl eO2 eH2
    refine W_reg (sV rfl (py_elz tu112 ts45 rfl rfl ee4 k (by omega) (by omega)) (sV rfl (py_load tu45 rfl rfl ec4) (sA rfl rfl (s_nil ?_))))
    have e5 := hRM.2 k (by omega)
    have ctl := colTo_len (m := (redM (aug m b) m.length).1) (c := m.length) (k := k)
    obtain ⟨eb5, eo5, ee5, ec5⟩ := elem_u8 (eP2.seen 4 rfl) m.length (by omega)
    refine W_reg (sM rfl rfl (sM rfl rfl (sM rfl rfl (sV rfl (py_len tu112 rfl) (sV rfl (py_elz tu45 ts5 rfl rfl ee5 m.length (by omega) (by omega)) (sV rfl (py_load tu5 rfl rfl ec5) (s_lit1 (wn rfl) rfl tu45 Tryz_ty5 rfl rfl rfl rfl eP2 (fun b5 w14 e10 g5 H15 => ?_))))))))
    refine s_app1 (wn rfl) rfl tu45 Tryz_ty5 rfl rfl rfl H15 1 2 rfl rfl own_b8 (by unfold maxLen; omega) (by omega) (fun v6 w15 fp7 H16 => ?_)
    refine sA rfl rfl (s_nil (W_reg (sV rfl (py_add rfl rfl (in64 ⟨by omega, by omega⟩)) (sM rfl rfl (s_nil ?_)))))
    have hz := H16.ftake 4 |>.sub (.cons_cons _ (.cons_cons _ (.cons _ List.Sublist.slnil)))
    rw [colTo_step] at hz
    refine ⟨(k + 1, _, _), ⟨rfl, rfl, rfl, rfl, rfl, trivial⟩, ⟨hz, by omega⟩, by dsimp only; omega⟩
   ·refine W_exit (W_sr (sM rfl rfl (sA rfl rfl (sA rfl rfl (s_nil (W_ret (hQ _ _ (fin2 Tryz.results315 rfl rfl ?_))))))))
    obtain rfl : k = m.length := by omega
    obtain ⟨e1, e2⟩ := sol_yes (m := m) (b := b) (by omega)
    obtain ⟨qa, qc, qq⟩ := own_slice (H14.mine 1 rfl)
    cases qq
    exact ⟨H14.ext, qa, qc, (by rw [e1, e2]), (by rw [e2]; exact H14.out 1 rfl)⟩
theorem Tryz_spec_l1Solve {w : World} {m : List (List UInt8)} {mA bA : Option Addr} {mN mC bN bC : Nat} {b : List UInt8} (mS : Sees w [.slice mA mN mC] m) (bS : Sees w [.slice bA bN bC] b) (hR : Rect m m.length m.length) (hb : b.length = m.length) (hml : 1 ≤ m.length ∧ m.length ≤ 100) : Ret Tryz.prog 352 #[.slice mA mN mC, .slice bA bN bC] w fun v w' => Ext No w w' ∧ (∃ A C, v = .tuple #[.slice A (solL m b).length C, .bool (solOk m b)] ∧ Res w w' [.slice A (solL m b).length C] (solL m b)) := by
 obtain ⟨mF, mO⟩ := mS
 obtain rfl := own_n mO
 have mL := sL ⟨_, mO⟩
 obtain ⟨bF, bO⟩ := bS
 obtain rfl := own_n bO
 have bL := sL ⟨_, bO⟩
 refine ret_Q (vs := [.slice mA m.length mC, .slice bA b.length bC]) Tryz.func352 rfl Tryz.ntmps352 rfl (fun Q hQ hN => ?_)
 have H0 := Sep.start (w := w) (F := [seen false [.slice mA m.length mC] m mF, seen false [.slice bA b.length bC] b bF]) (all_cons mO (all_cons bO (by simp)))
 refine W_sr (sA rfl rfl (sA rfl rfl (s_nil (W_sr (s_lit0 (α := (List UInt8)) (wn rfl) rfl tu112 Tryz_ty45 H0 (fun b1 w1 e1 g1 H1 => ?_))))))
 refine sA rfl rfl (s_nil (W_seq (W_sr (sA rfl rfl (s_nil (W_block (W_loop (γ := Nat × Value × List Nat) (fun (k, vo, f) => [(0, .slice mA m.length mC), (1, .slice bA b.length bC), (6, vo), (7, .int .i64 k)]) (fun (k, vo, f) w' => Sep No w [mine [vo] (augTo m b k) f] [seen false [.slice mA m.length mC] m mF, seen false [.slice bA b.length bC] b bF] w' ∧ k ≤ m.length) (fun (k, vo, f) => m.length - k) (0, _, _) ⟨rfl, rfl, rfl, rfl, trivial⟩ ⟨H1, by omega⟩ (fun (k, vo, f) w2 H2 => ?_))))))))
 obtain ⟨H2, hk⟩ := H2
 refine W_seq (W_sr (sM rfl rfl (sM rfl rfl (sV rfl (py_len tu112 rfl) (sV rfl (py_lss rfl rfl) (s_nil (W_ifd rfl (fun c1 => ?_) (fun c1 => ?_))))))))
 ·refine W_skip (W_seq (W_block ?_))
  have e3 := hR.2 k (by omega)
  have al := augTo_len (m := m) (b := b) (k := k)
  obtain ⟨eb1, eo1, ea1, ek1, ef1, ee1, ec1, eO1, eH1, em1⟩ := elem_slm (H2.seen 0 rfl) k (by omega)
  have eP1 := H2.look1 0 rfl eO1 eH1
  obtain ⟨eb2, eo2, ee2, ec2, em2⟩ := elem_u8m (eP1.seen 1 rfl) k (by omega)
  refine W_drw (S := Ext (· ∈ f) _) [(0, true), (2, true), (3, true), (4, true), (5, true), (7, true), (8, true), (9, true), (10, true), (1014, false), (1, false), (1006, false), (6, false), (11, false), (12, false), (13, false), (14, false), (15, false), (11, false), (6, false), (12, false), (13, false), (14, false), (15, false), (11, false), (1, false), (6, false), (12, false), (13, false), (14, false), (15, false)] (by kernel_rfl) (by kernel_rfl) (by kernel_rfl) rfl (fun _ => Ext.refl.drawn _) (fun q1 => ?_)
  have H3 := eP1.drawn q1
  refine dM rfl rfl rfl (dM rfl rfl rfl (dM rfl rfl rfl (dV rfl rfl (fun zw hx => py_elz tu112 ts45 rfl rfl ee1 k (by omega) (by omega)) (dV rfl rfl (fun zw hx => py_load tu45 rfl rfl (hx.cellM (H3.off 0 rfl 0 rfl em1) ec1)) (dM rfl rfl rfl (dM rfl rfl rfl (dV rfl rfl (fun zw hx => py_elz tu45 ts5 rfl rfl ee2 k (by omega) (by omega)) (dV rfl rfl (fun zw hx => py_load tu5 rfl rfl (hx.cellM (H3.off 1 rfl 0 rfl em2) ec2)) (d_fork (l1 := [(1, false), (1006, false), (6, false), (11, false), (12, false), (13, false), (14, false), (15, false), (11, false), (6, false), (12, false), (13, false), (14, false), (15, false)]) (l2 := [(11, false), (1, false), (6, false), (12, false), (13, false), (14, false), (15, false)]) rfl rfl rfl rfl ?_ ?_)))))))))
  ·refine d_S (fun hs1 => ?_) (by simp)
   refine d_lit0 (α := UInt8) rfl (wn rfl) rfl tu45 Tryz_ty5 H3 (fun _ h e => h.trans e.no) (fun b2 w3 e2 g2 H4 => ?_)
   refine d_fork (l1 := [(6, false), (11, false), (12, false), (13, false), (14, false), (15, false)]) (l2 := [(11, false), (6, false), (12, false), (13, false), (14, false), (15, false)]) rfl rfl rfl rfl ?_ ?_
   ·refine d_S (fun hs2 => ?_) (by simp)
    refine d_appFS rfl (wn rfl) rfl tu45 Tryz_ty5 rfl rfl rfl H4 1 rfl (H4.seen 2 rfl) (by (try simp only [List.length_nil]); unfold maxLen; omega) (by (try simp only [List.length_nil]); omega) (fun b hb => by simp only [List.mem_singleton] at hb; rw [hb]; exact Nat.le_trans hs1.size g2) (fun v1 w4 fp1 sb1 H5 => ?_)
    try dsimp only [lNA, lCA, lSZ, lSS] at H5
    refine d_lit1 rfl (wn rfl) rfl tu45 Tryz_ty5 rfl rfl rfl rfl H5 (fun _ h e => h.trans e.no) (fun b3 w5 e3 g3 H6 => ?_)
    refine d_S (fun hs3 => ?_) (by simp)
    refine d_app1S rfl (wn rfl) rfl tu45 Tryz_ty5 rfl rfl rfl H6 1 2 rfl rfl own_b8 (by (try simp only [List.length_nil]); unfold maxLen; omega) (by (try simp only [List.length_nil]); omega) (fun b hb => (sb1 b hb).elim (((fun b hb => by simp only [List.mem_singleton] at hb; rw [hb]; exact Nat.le_trans hs1.size g2) : ∀ b ∈ _, _ ≤ b) b) (fun h => Nat.le_trans hs2.size h)) (fun v2 w6 fp2 sb2 H7 => ?_)
    try dsimp only [lNA, lCA, lSZ, lSS] at H7
    obtain ⟨a1, k1, q2⟩ := own_slice (H7.mine 1 rfl)
    cases q2
    refine d_lit1 rfl (wn rfl) rfl tu112 Tryz_ty45 rfl rfl rfl rfl H7 (fun _ h e => h.trans e.no) (fun b4 w7 e4 g4 H8 => ?_)
    refine d_app2 rfl (wn rfl) rfl tu112 Tryz_ty45 rfl rfl rfl H8 0 3 1 rfl rfl rfl rfl (by unfold maxLen; omega) (by omega) (fun _ h e => h.trans e) (fun v3 w8 fp3 H9 => ?_)
    refine d_end rfl (wn rfl) rfl rfl (py_assign rfl) (d_nil (W_reg (sM rfl rfl (sV rfl (py_add rfl rfl (in64 ⟨by omega, by omega⟩)) (sA rfl rfl (s_nil ?_))))))
    have hz := ((H9.ftake 2).dtake 1)
    try simp only [List.nil_append] at hz
    rw [augTo_step] at hz
    refine ⟨(k + 1, _, _), ⟨rfl, rfl, rfl, rfl, trivial⟩, ⟨hz, by omega⟩, by dsimp only; omega⟩
   ·refine d_lit1 rfl (wn rfl) rfl tu45 Tryz_ty5 rfl rfl rfl rfl H4 (fun _ h e => h.trans e.no) (fun b5 w9 e5 g5 H10 => ?_)
    refine d_S (fun hs4 => ?_) (by simp)
    refine d_appFS rfl (wn rfl) rfl tu45 Tryz_ty5 rfl rfl rfl H10 1 rfl (H10.seen 2 rfl) (by (try simp only [List.length_nil]); unfold maxLen; omega) (by (try simp only [List.length_nil]); omega) (fun b hb => by simp only [List.mem_singleton] at hb; rw [hb]; exact Nat.le_trans hs1.size g2) (fun v4 w10 fp4 sb3 H11 => ?_)
    try dsimp only [lNA, lCA, lSZ, lSS] at H11
    refine d_S (fun hs5 => ?_) (by simp)
    refine d_app1S rfl (wn rfl) rfl tu45 Tryz_ty5 rfl rfl rfl H11 1 2 rfl rfl own_b8 (by (try simp only [List.length_nil]); unfold maxLen; omega) (by (try simp only [List.length_nil]); omega) (fun b hb => (sb3 b hb).elim (((fun b hb => by simp only [List.mem_singleton] at hb; rw [hb]; exact Nat.le_trans hs1.size g2) : ∀ b ∈ _, _ ≤ b) b) (fun h => Nat.le_trans hs4.size h)) (fun v5 w11 fp5 sb4 H12 => ?_)
    try dsimp only [lNA, lCA, lSZ, lSS] at H12
    obtain ⟨a2, k2, q3⟩ := own_slice (H12.mine 1 rfl)
    cases q3
    refine d_lit1 rfl (wn rfl) rfl tu112 Tryz_ty45 rfl rfl rfl rfl H12 (fun _ h e => h.trans e.no) (fun b6 w12 e6 g6 H13 => ?_)
    refine d_app2 rfl (wn rfl) rfl tu112 Tryz_ty45 rfl rfl rfl H13 0 3 1 rfl rfl rfl rfl (by unfold maxLen; omega) (by omega) (fun _ h e => h.trans e) (fun v6 w13 fp6 H14 => ?_)
    refine d_end rfl (wn rfl) rfl rfl (py_assign rfl) (d_nil (W_reg (sM rfl rfl (sV rfl (py_add rfl rfl (in64 ⟨by omega, by omega⟩)) (sA rfl rfl (s_nil ?_))))))
    have hz := ((H14.ftake 2).dtake 1)
    try simp only [List.nil_append] at hz
    rw [augTo_step] at hz
    refine ⟨(k + 1, _, _), ⟨rfl, rfl, rfl, rfl, trivial⟩, ⟨hz, by omega⟩, by dsimp only; omega⟩
  ·refine d_lit1 rfl (wn rfl) rfl tu45 Tryz_ty5 rfl rfl rfl rfl H3 (fun _ h e => h.trans e.no) (fun b7 w14 e7 g7 H15 => ?_)
   refine d_S (fun hs6 => ?_) (by simp)
   refine d_lit0 (α := UInt8) rfl (wn rfl) rfl tu45 Tryz_ty5 H15 (fun _ h e => h.trans e.no) (fun b8 w15 e8 g8 H16 => ?_)
   refine d_S (fun hs7 => ?_) (by simp)
   refine d_appFS rfl (wn rfl) rfl tu45 Tryz_ty5 rfl rfl rfl H16 2 rfl (H16.seen 2 rfl) (by (try simp only [List.length_nil]); unfold maxLen; omega) (by (try simp only [List.length_nil]); omega) (fun b hb => by simp only [List.mem_singleton] at hb; rw [hb]; exact Nat.le_trans hs6.size g8) (fun v7 w16 fp7 sb5 H17 => ?_)
   try dsimp only [lNA, lCA, lSZ, lSS] at H17
   refine d_S (fun hs8 => ?_) (by simp)
   refine d_app1S rfl (wn rfl) rfl tu45 Tryz_ty5 rfl rfl rfl H17 2 1 rfl rfl own_b8 (by (try simp only [List.length_nil]); unfold maxLen; omega) (by (try simp only [List.length_nil]); omega) (fun b hb => (sb5 b hb).elim (((fun b hb => by simp only [List.mem_singleton] at hb; rw [hb]; exact Nat.le_trans hs6.size g8) : ∀ b ∈ _, _ ≤ b) b) (fun h => Nat.le_trans hs7.size h)) (fun v8 w17 fp8 sb6 H18 => ?_)
   try dsimp only [lNA, lCA, lSZ, lSS] at H18
   obtain ⟨a3, k3, q4⟩ := own_slice (H18.mine 2 rfl)
   cases q4
   refine d_lit1 rfl (wn rfl) rfl tu112 Tryz_ty45 rfl rfl rfl rfl H18 (fun _ h e => h.trans e.no) (fun b9 w18 e9 g9 H19 => ?_)
   refine d_app2 rfl (wn rfl) rfl tu112 Tryz_ty45 rfl rfl rfl H19 0 3 2 rfl rfl rfl rfl (by unfold maxLen; omega) (by omega) (fun _ h e => h.trans e) (fun v9 w19 fp9 H20 => ?_)
   refine d_end rfl (wn rfl) rfl rfl (py_assign rfl) (d_nil (W_reg (sM rfl rfl (sV rfl (py_add rfl rfl (in64 ⟨by omega, by omega⟩)) (sA rfl rfl (s_nil ?_))))))
   have hz := ((H20.ftake 2).dtake 1)
   try simp only [List.nil_append] at hz
   rw [augTo_step] at hz
   refine ⟨(k + 1, _, _), ⟨rfl, rfl, rfl, rfl, trivial⟩, ⟨hz, by omega⟩, by dsimp only; omega⟩
 ·refine W_exit (W_sr (sM rfl rfl (sV rfl (py_len tu112 rfl) (sA rfl rfl (s_nil (W_seq (W_seq ?_)))))))
  obtain rfl : k = m.length := by omega
  obtain ⟨oA, oC, oq⟩ := own_slice (H2.mine 0 rfl)
  rw [augTo_len] at oq
  cases oq
  have al : (augTo m b m.length).length = m.length := augTo_len
  obtain ⟨vs, f2, g2, vl, HP⟩ := H2.parted 0 rfl
  try dsimp only [lNA, lCA, lSZ, lSS] at HP
  rw [show augTo m b m.length = aug m b from rfl] at HP vl
  have hRa := aug_rect (b := b) hR
  have hRM := (hRa.red m.length).1
  have hM1 := hRM.1
  have vl1 : vs.length = m.length := vl.trans hRa.1
  refine W_reg (sM rfl rfl (sM rfl rfl (s_call (wn rfl) rfl rfl (pc_call Tryz.func355 rfl Tryz_nm355 rfl) (Tryz_spec_l1Step (HP.mine 0 rfl) (HP.nodup1 (i := 0) rfl) (HP.rowsAt 2 rfl) (fun b hb => HP.off 2 rfl 0 rfl hb) (by first | assumption | omega) (by assumption) (by omega)) (fun v10 w20 r1 => ?_))))
  obtain ⟨rfl, rm1⟩ := r1
  obtain ⟨rv1, rf1, rg1, rl1, H21⟩ := HP.rowsMut 0 rfl (by simp [blocks, mine, gone]) rm1
  try dsimp only [lNA, lCA, lSZ, lSS] at H21
  refine sM rfl rfl (sV rfl (py_lss rfl rfl) (s_nil (W_ifd rfl (fun c2 => ?_) (fun c2 => ?_))))
  ·refine W_sr (sA rfl rfl (sA rfl rfl (s_nil (W_ret (hQ _ _ (fin2 Tryz.results352 rfl rfl ?_))))))
   obtain ⟨e1, e2⟩ := sol_no (m := m) (b := b) (by omega)
   exact ⟨H21.ext, none, 0, (by rw [e1, e2]; rfl), (by rw [e2]; exact ⟨[], .inr (.inl ⟨rfl, rfl, rfl⟩), .nil, by simp⟩)⟩
  ·refine W_skip (W_sr (s_lit0 (α := UInt8) (wn rfl) rfl tu45 Tryz_ty5 H21 (fun b10 w21 e11 g10 H22 => ?_)))
   refine sA rfl rfl (s_nil (W_seq (W_sr (sA rfl rfl (s_nil (W_block (W_loop (γ := Nat × Value × List Nat) (fun (k, vo, f) => [(0, .slice mA m.length mC), (6, .slice oA m.length oC), (8, .int .i64 m.length), (9, vo), (10, .int .i64 k)]) (fun (k, vo, f) w' => Sep No w [mine [.slice oA m.length oC] rv1 rf1, mine [vo] (colTo (redM (aug m b) m.length).1 m.length k) f] _ w' ∧ k ≤ m.length) (fun (k, vo, f) => m.length - k) (0, _, _) ⟨rfl, rfl, rfl, rfl, rfl, trivial⟩ ⟨H22.sub (.cons_cons _ (.cons_cons _ List.Sublist.slnil)), by omega⟩ (fun (k, vo, f) w22 H23 => ?_))))))))
   obtain ⟨H23, hk⟩ := H23
   refine W_seq (W_sr (sM rfl rfl (sM rfl rfl (sV rfl (py_lss rfl rfl) (s_nil (W_ifd rfl (fun c3 => ?_) (fun c3 => ?_)))))))
   ·refine W_skip (W_seq (W_block ?_))
    have e5 := hRM.2 k (by omega)
    have ctl := colTo_len (m := (redM (aug m b) m.length).1) (c := m.length) (k := k)
    obtain ⟨eb3, eo3, ea2, ek2, ef2, ee3, ec3, eO2, eH2, em3⟩ := elem_view (H23.mine 0 rfl) (H23.rowsAt 3 rfl) (by first | omega | (simp only [List.length_set]; omega)) k (by first | omega | (simp only [List.length_set]; omega))
    have eP2 := H23.lookR 3 rfl eO2 eH2
    obtain ⟨eb4, eo4, ee4, ec4⟩ := elem_u8 (eP2.seen 4 rfl) m.length (by omega)
    refine W_reg (sM rfl rfl (sM rfl rfl (sM rfl rfl (sV rfl (py_elz tu112 ts45 rfl rfl ee3 k (by omega) (by omega)) (sV rfl (py_load tu45 rfl rfl ec3) (sM rfl rfl (sV rfl (py_elz tu45 ts5 rfl rfl ee4 m.length (by omega) (by omega)) (sV rfl (py_load tu5 rfl rfl ec4) (s_lit1 (wn rfl) rfl tu45 Tryz_ty5 rfl rfl rfl rfl eP2 (fun b11 w23 e12 g11 H24 => ?_))))))))))
    refine s_app1 (wn rfl) rfl tu45 Tryz_ty5 rfl rfl rfl H24 1 2 rfl rfl own_b8 (by unfold maxLen; omega) (by omega) (fun v11 w24 fp10 H25 => ?_)
    refine sA rfl rfl (s_nil (W_reg (sM rfl rfl (sV rfl (py_add rfl rfl (in64 ⟨by omega, by omega⟩)) (sA rfl rfl (s_nil ?_))))))
    have hz := H25.ftake 4 |>.sub (.cons_cons _ (.cons_cons _ (.cons _ List.Sublist.slnil)))
    rw [colTo_step] at hz
    refine ⟨(k + 1, _, _), ⟨rfl, rfl, rfl, rfl, rfl, trivial⟩, ⟨hz, by omega⟩, by dsimp only; omega⟩
   ·refine W_exit (W_sr (sM rfl rfl (sA rfl rfl (sA rfl rfl (s_nil (W_ret (hQ _ _ (fin2 Tryz.results352 rfl rfl ?_))))))))
    obtain rfl : k = m.length := by omega
    obtain ⟨e1, e2⟩ := sol_yes (m := m) (b := b) (by omega)
    obtain ⟨qa, qc, qq⟩ := own_slice (H23.mine 1 rfl)
    cases qq
    exact ⟨H23.ext, qa, qc, (by rw [e1, e2]), (by rw [e2]; exact H23.out 1 rfl)⟩
theorem Tryz_impl_rowCode_between {w : World} {n hsC : Nat} {s p : Int} {hs : List Int} {hsA : Option Addr} (hsS : Sees w [.slice hsA hs.length hsC] hs) (hn : 1 ≤ n ∧ n ≤ 100) (hl : hs.length = n) (hr : ∀ i, i < n → 0 ≤ hs.getD i 0 ∧ hs.getD i 0 ≤ 500) (hp : 0 ≤ p ∧ p ≤ 500) : Ret Tryz.prog 264 #[.agg #[.int .i64 n, .int .i64 s], .slice hsA hs.length hsC, .int .i64 p] w fun v w' => Ext No w w' ∧ (Res w w' [v] (betw n hs p 0)) := by
 obtain ⟨hsF, hsO⟩ := hsS
 refine ret_Q (vs := [.agg #[.int .i64 n, .int .i64 s], .slice hsA hs.length hsC, .int .i64 p]) Tryz.func264 rfl Tryz.ntmps264 rfl (fun Q hQ hN => ?_)
 have H0 := Sep.start (w := w) (F := [seen false [.slice hsA hs.length hsC] hs hsF]) (all_cons hsO (by simp))
 refine W_sr (s_box (wn rfl) rfl rfl H0 (fun b1 w1 e1 g1 H1 => ?_))
 refine sA rfl rfl (s_nil (W_sr (sV rfl (py_field tu167 rfl ts2 rfl rfl) (sV rfl (py_load tu2 rfl rfl (cell_atL (H1.box 0 rfl) rfl)) (s_make (wn rfl) rfl tu112 Tryz_ty45 (own_zs (α := UInt8)) rfl (by omega) (by unfold maxLen; omega) H1 (fun b2 w2 e2 g2 H2 => ?_))))))
 refine sA rfl rfl (s_nil (W_seq (W_sr (sM rfl rfl (sV rfl (py_len tu25 rfl) (sM rfl rfl (s_nil (W_block (W_loop (γ := Nat × List Nat) (fun (j, f) => [(2, .int .i64 p), (3, .pointer (some ⟨b1, 0, none⟩)), (7, .slice (some ⟨b2, 0, none⟩) n n), (17, .slice hsA hs.length hsC), (18, .int .i64 hs.length), (19, .int .i64 j)]) (fun (j, f) w' => Sep No w [box b1 (.cells #[.int .i64 n, .int .i64 s] 167), mine [.slice (some ⟨b2, 0, none⟩) n n] (trF (hv n hs 0) n j 0) f] [seen false [.slice hsA hs.length hsC] hs hsF] w' ∧ j ≤ n) (fun (j, f) => n - j) (0, _) ⟨rfl, rfl, rfl, rfl, rfl, rfl, trivial⟩ ⟨by rw [trF_zero]; exact H2, by omega⟩ (fun (j, f) w3 H3 => ?_))))))))))
 obtain ⟨H3, hj0⟩ := H3
 refine W_sr (sV rfl (py_lss rfl rfl) (s_nil (W_seq (W_ifd rfl (fun c1 => ?_) (fun c1 => ?_)))))
 ·refine W_skip (W_seq (W_block (W_seq ?_)))
  obtain ⟨eb1, eo1, ee1, ec1⟩ := elem_int (H3.seen 0 rfl) j (by omega)
  have eI1 := elem_i64 (H3.seen 0 rfl) j (by omega)
  refine W_reg (sV rfl (py_elz tu25 ts2 rfl rfl ee1 j (by omega) (by omega)) (sV rfl (py_load tu2 rfl rfl ec1) (sA rfl rfl (s_nil (W_seq ?_)))))
  have hj := hr j (by omega)
  have gl : (genG n (hs.getD j 0) 0).length = n := genG_len
  refine W_reg (sV rfl (py_loadS tu167 rfl ts167 rfl rfl (At.whole (H3.box 0 rfl))) (sM rfl rfl (s_call (wn rfl) rfl rfl (pc_call Tryz.func286 rfl Tryz_nm286 rfl) (Tryz_impl_rowCode_weights (by omega)) (fun v1 w4 r1 => ?_))))
  obtain ⟨e3, r1⟩ := r1
  obtain ⟨fp1, H4⟩ := H3.res e3 r1
  obtain ⟨a1, k1, q1⟩ := own_slice (H4.mine 2 rfl)
  cases q1
  refine sV rfl (py_len tu45 rfl) (sM rfl rfl (s_nil (W_block (W_loop (γ := Nat × List Nat) (fun (i, f2) => [(2, .int .i64 p), (3, .pointer (some ⟨b1, 0, none⟩)), (7, .slice (some ⟨b2, 0, none⟩) n n), (17, .slice hsA hs.length hsC), (18, .int .i64 hs.length), (19, .int .i64 j), (25, .slice a1 (genG n (hs.getD j 0) 0).length k1), (26, .int .i64 (genG n (hs.getD j 0) 0).length), (27, .int .i64 i)]) (fun (i, f2) w' => Sep No w [box b1 (.cells #[.int .i64 n, .int .i64 s] 167), mine [.slice (some ⟨b2, 0, none⟩) n n] (trF (hv n hs 0) n j i) f2, mine [.slice a1 (genG n (hs.getD j 0) 0).length k1] (genG n (hs.getD j 0) 0) fp1] [seen false [.slice hsA hs.length hsC] hs hsF] w' ∧ i ≤ n) (fun (i, f2) => n - i) (0, _) ⟨rfl, rfl, rfl, rfl, rfl, rfl, rfl, rfl, rfl, trivial⟩ ⟨H4, by omega⟩ (fun (i, f2) w5 H5 => ?_)))))
  obtain ⟨H5, hi⟩ := H5
  refine W_sr (sV rfl (py_lss rfl rfl) (s_nil (W_seq (W_ifd rfl (fun c2 => ?_) (fun c2 => ?_)))))
  ·refine W_skip (W_seq (W_block (W_seq ?_)))
   obtain ⟨eb2, eo2, ee2, ec2⟩ := elem_u8 (H5.mine 2 rfl) i (by omega)
   refine W_reg (sM rfl rfl (sV rfl (py_elz tu45 ts5 rfl rfl ee2 i (by omega) (by omega)) (sV rfl (py_load tu5 rfl rfl ec2) (sA rfl rfl (sA rfl rfl (s_nil ?_))))))
   have e6 : ((trF (hv n hs 0) n j i).getD i []).length = j := by rw [trF_get (by omega)]; simp
   obtain ⟨eb3, eo3, eB1, eS1, eF1, eG1, ef1, ea1, ek1, ee3, eN1, ec3, nbef1, eH1⟩ := H5.unhook 1 rfl i (by rw [trF_len]; omega)
   try dsimp only [lNA, lCA, lSZ, lSS] at eH1
   refine W_reg (sM rfl rfl (sM rfl rfl (sM rfl rfl (sM rfl rfl (sV rfl (py_elz tu112 ts45 rfl rfl ee3 i (by omega) (by omega)) (sV rfl (py_load tu45 rfl rfl ec3) (sM rfl rfl (s_lit1 (wn rfl) rfl tu45 Tryz_ty5 rfl rfl rfl rfl eH1 (fun b3 w6 e4 g3 H6 => ?_)))))))))
   refine s_app1 (wn rfl) rfl tu45 Tryz_ty5 rfl rfl rfl H6 3 4 rfl rfl own_b8 (by unfold maxLen; omega) (by omega) (fun v2 w7 fp2 H7 => ?_)
   refine sV rfl (py_elz tu112 ts45 rfl rfl ee3 i (by omega) (by omega)) (s_hook (wn rfl) ts45 H7 1 3 rfl rfl rfl eN1 rfl rfl (fun w8 fp3 H8 => ?_))
   try dsimp only [lNA, lCA, lSZ, lSS] at H8
   refine s_nil (W_reg (sV rfl (py_add rfl rfl (in64 ⟨by omega, by omega⟩)) (sM rfl rfl (s_nil ?_))))
   have hz := (H8.dtake 3)
   rw [show (genG n (hs.getD j 0) 0).getD i 0 = (hv n hs 0 j).getD i 0 from rfl, trF_step (by omega)] at hz
   refine ⟨(i + 1, _), ⟨rfl, rfl, rfl, rfl, rfl, rfl, rfl, rfl, rfl, trivial⟩, ⟨hz, by omega⟩, by dsimp only; omega⟩
  ·refine W_exit (W_reg (sV rfl (py_add rfl rfl (in64 ⟨by omega, by omega⟩)) (sM rfl rfl (s_nil ?_))))
   have ei : i = n := by omega
   have hz := (H5.dtake 2)
   rw [ei, trF_next] at hz
   refine ⟨(j + 1, _), ⟨rfl, rfl, rfl, rfl, rfl, rfl, trivial⟩, ⟨hz, by omega⟩, by dsimp only; omega⟩
 ·refine W_exit (W_seq ?_)
  have ej : j = n := by omega
  have HB := H3
  rw [ej, show trF (hv n hs 0) n n 0 = betwM n hs 0 from rfl] at HB
  have hRm := betwM_rect (n := n) (h := hs) (b := 0)
  have bl := betwM_len (n := n) (h := hs) (b := 0)
  have gl2 : (genG n p 0).length = n := genG_len
  refine W_reg (sM rfl rfl (sV rfl (py_loadS tu167 rfl ts167 rfl rfl (At.whole (HB.box 0 rfl))) (sM rfl rfl (s_call (wn rfl) rfl rfl (pc_call Tryz.func286 rfl Tryz_nm286 rfl) (Tryz_impl_rowCode_weights (by omega)) (fun v3 w9 r2 => ?_)))))
  obtain ⟨e6, r2⟩ := r2
  obtain ⟨fp4, H9⟩ := HB.res e6 r2
  obtain ⟨a2, k2, q2⟩ := own_slice (H9.mine 2 rfl)
  cases q2
  refine s_call (wn rfl) rfl rfl (pc_call Tryz.func315 rfl Tryz_nm315 rfl) (Tryz_impl_solve (H9.msees 1 rfl) (H9.msees 2 rfl) (by assumption) (by first | assumption | omega) (by omega)) (fun v4 w10 r3 => ?_)
  obtain ⟨e7, sa1, sk1, rfl, r3⟩ := r3
  obtain ⟨fp5, H10⟩ := H9.res e7 r3
  refine sM rfl rfl (sV rfl (py_extr rfl rfl) (sV rfl (py_extr rfl rfl) (sA rfl rfl (sA rfl rfl (s_nil (W_sr (sM rfl rfl (sA rfl rfl (s_nil (rT hQ Tryz.results264 rfl ?_))))))))))
  exact ⟨H10.ext, H10.out 3 rfl⟩
theorem Tryz_spec_l2Weights {w : World} {n hsC : Nat} {p : Int} {hs : List Int} {hsA : Option Addr} (hsS : Sees w [.slice hsA hs.length hsC] hs) (hn : 1 ≤ n ∧ n ≤ 100) (hl : hs.length = n) (hr : ∀ i, i < n → 0 ≤ hs.getD i 0 ∧ hs.getD i 0 ≤ 500) (hp : 0 ≤ p ∧ p ≤ 500) : Ret Tryz.prog 343 #[.int .i64 n, .slice hsA hs.length hsC, .int .i64 p, .int .i64 0] w fun v w' => Ext No w w' ∧ (Res w w' [v] (betw n hs p 0)) := by
 obtain ⟨hsF, hsO⟩ := hsS
 refine ret_Q (vs := [.int .i64 n, .slice hsA hs.length hsC, .int .i64 p, .int .i64 0]) Tryz.func343 rfl Tryz.ntmps343 rfl (fun Q hQ hN => ?_)
 have H0 := Sep.start (w := w) (F := [seen false [.slice hsA hs.length hsC] hs hsF]) (all_cons hsO (by simp))
 refine W_sr (sA rfl rfl (s_nil (W_sr (sM rfl rfl (s_make (wn rfl) rfl tu112 Tryz_ty45 (own_zs (α := UInt8)) rfl (by omega) (by unfold maxLen; omega) H0 (fun b1 w1 e1 g1 H1 => ?_))))))
 refine sA rfl rfl (s_nil (W_seq (W_sr (sA rfl rfl (s_nil (W_block (W_loop (γ := Nat × List Nat) (fun (j, f) => [(0, .int .i64 n), (1, .slice hsA hs.length hsC), (2, .int .i64 p), (3, .int .i64 0), (9, .slice (some ⟨b1, 0, none⟩) n n), (10, .int .i64 j)]) (fun (j, f) w' => Sep No w [mine [.slice (some ⟨b1, 0, none⟩) n n] (trF (hv n hs 0) n j 0) f] [seen false [.slice hsA hs.length hsC] hs hsF] w' ∧ j ≤ n) (fun (j, f) => n - j) (0, _) ⟨rfl, rfl, rfl, rfl, rfl, rfl, trivial⟩ ⟨by rw [trF_zero]; exact H1, by omega⟩ (fun (j, f) w2 H2 => ?_))))))))
 obtain ⟨H2, hj0⟩ := H2
 refine W_seq (W_sr (sM rfl rfl (sM rfl rfl (sV rfl (py_lss rfl rfl) (s_nil (W_ifd rfl (fun c1 => ?_) (fun c1 => ?_)))))))
 ·refine W_skip (W_seq (W_block (W_seq ?_)))
  have hj := hr j (by omega)
  have gl : (genG n (hs.getD j 0) 0).length = n := genG_len
  obtain ⟨eb1, eo1, ee1, ec1⟩ := elem_int (H2.seen 0 rfl) j (by omega)
  have eI1 := elem_i64 (H2.seen 0 rfl) j (by omega)
  refine W_reg (sM rfl rfl (sM rfl rfl (sM rfl rfl (sV rfl (py_elz tu25 ts2 rfl rfl ee1 j (by omega) (by omega)) (sV rfl (py_load tu2 rfl rfl ec1) (sM rfl rfl (s_call (wn rfl) rfl rfl (pc_call Tryz.func274 rfl Tryz_nm274 rfl) (Tryz_spec_l2Gen (by omega)) (fun v1 w3 r1 => ?_))))))))
  obtain ⟨e2, r1⟩ := r1
  obtain ⟨fp1, H3⟩ := H2.res e2 r1
  obtain ⟨a1, k1, q1⟩ := own_slice (H3.mine 1 rfl)
  cases q1
  refine sA rfl rfl (s_nil (W_seq ?_))
  have HS := H3.share 1 rfl
  try dsimp only [lNA, lCA, lSZ, lSS] at HS
  refine W_reg (sA rfl rfl (s_nil (W_block (W_loop (γ := Nat × List Nat) (fun (i, f2) => [(0, .int .i64 n), (1, .slice hsA hs.length hsC), (2, .int .i64 p), (3, .int .i64 0), (9, .slice (some ⟨b1, 0, none⟩) n n), (10, .int .i64 j), (11, .slice a1 (genG n (hs.getD j 0) 0).length k1), (12, .int .i64 i)]) (fun (i, f2) w' => Sep No w [mine [.slice (some ⟨b1, 0, none⟩) n n] (trF (hv n hs 0) n j i) f2] _ w' ∧ i ≤ n) (fun (i, f2) => n - i) (0, _) ⟨rfl, rfl, rfl, rfl, rfl, rfl, rfl, rfl, trivial⟩ ⟨(HS.dtake 1), by omega⟩ (fun (i, f2) w4 H4 => ?_)))))
  obtain ⟨H4, hi⟩ := H4
  refine W_seq (W_sr (sM rfl rfl (sM rfl rfl (sV rfl (py_lss rfl rfl) (s_nil (W_ifd rfl (fun c2 => ?_) (fun c2 => ?_)))))))
  ·refine W_skip (W_seq (W_block ?_))
   have e6 : ((trF (hv n hs 0) n j i).getD i []).length = j := by rw [trF_get (by omega)]; simp
   obtain ⟨eb2, eo2, eB1, eS1, eF1, eG1, ef1, ea1, ek1, ee2, eN1, ec2, nbef1, eH1⟩ := H4.unhook 0 rfl i (by rw [trF_len]; omega)
   try dsimp only [lNA, lCA, lSZ, lSS] at eH1
   obtain ⟨eb3, eo3, ee3, ec3, em1⟩ := elem_u8m (eH1.seen 1 rfl) i (by omega)
   refine W_drw (S := Ext (· ∈ ef1) _) [(0, true), (1, true), (2, true), (3, true), (4, true), (5, true), (6, true), (7, true), (8, true), (9, true), (10, false), (11, false), (12, true), (13, false)] (by kernel_rfl) (by kernel_rfl) (by kernel_rfl) rfl (fun _ => Ext.refl.drawn _) (fun q2 => ?_)
   have H5 := eH1.drawn q2
   refine dM rfl rfl rfl (dM rfl rfl rfl (dM rfl rfl rfl (dM rfl rfl rfl (dV rfl rfl (fun zw hx => py_elz tu112 ts45 rfl rfl ee2 i (by omega) (by omega)) (dV rfl rfl (fun zw hx => py_load tu45 rfl rfl (hx.cellM nbef1 ec2)) (dM rfl rfl rfl (dM rfl rfl rfl (dV rfl rfl (fun zw hx => py_elz tu45 ts5 rfl rfl ee3 i (by omega) (by omega)) (dV rfl rfl (fun zw hx => py_load tu5 rfl rfl (hx.cellM (H5.off 1 rfl 1 rfl em1) ec3)) (d_lit1 rfl (wn rfl) rfl tu45 Tryz_ty5 rfl rfl rfl rfl H5 (fun _ h e => h.trans e.no) (fun b2 w5 e3 g2 H6 => ?_)))))))))))
   refine d_app1 rfl (wn rfl) rfl tu45 Tryz_ty5 rfl rfl rfl H6 1 2 rfl rfl own_b8 (by unfold maxLen; omega) (by omega) (fun _ h e => h.trans e) (fun v2 w6 fp2 H7 => ?_)
   refine dV rfl rfl (fun zw hx => py_elz tu112 ts45 rfl rfl ee2 i (by omega) (by omega)) (d_hook rfl (wn rfl) ts45 H7 0 1 rfl rfl rfl eN1 rfl rfl (fun w7 fp3 H8 => ?_))
   try dsimp only [lNA, lCA, lSZ, lSS] at H8
   refine d_nil (W_reg (sM rfl rfl (sV rfl (py_add rfl rfl (in64 ⟨by omega, by omega⟩)) (sA rfl rfl (s_nil ?_)))))
   have hz := (H8.dtake 1)
   rw [show (genG n (hs.getD j 0) 0).getD i 0 = (hv n hs 0 j).getD i 0 from rfl, trF_step (by omega)] at hz
   refine ⟨(i + 1, _), ⟨rfl, rfl, rfl, rfl, rfl, rfl, rfl, rfl, trivial⟩, ⟨hz, by omega⟩, by dsimp only; omega⟩
  ·refine W_exit (W_reg (sM rfl rfl (sV rfl (py_add rfl rfl (in64 ⟨by omega, by omega⟩)) (sA rfl rfl (s_nil ?_)))))
   have ei : i = n := by omega
   have hz := (H4.ftake 1)
   rw [ei, trF_next] at hz
   refine ⟨(j + 1, _), ⟨rfl, rfl, rfl, rfl, rfl, rfl, trivial⟩, ⟨hz, by omega⟩, by dsimp only; omega⟩
 ·refine W_exit (W_seq ?_)
  have ej : j = n := by omega
  have HB := H2
  rw [ej, show trF (hv n hs 0) n n 0 = betwM n hs 0 from rfl] at HB
  have hRm := betwM_rect (n := n) (h := hs) (b := 0)
  have bl := betwM_len (n := n) (h := hs) (b := 0)
  have gl2 : (genG n p 0).length = n := genG_len
  refine W_reg (sM rfl rfl (sM rfl rfl (sM rfl rfl (sM rfl rfl (s_call (wn rfl) rfl rfl (pc_call Tryz.func274 rfl Tryz_nm274 rfl) (Tryz_spec_l2Gen (by omega)) (fun v3 w8 r2 => ?_))))))
  obtain ⟨e5, r2⟩ := r2
  obtain ⟨fp4, H9⟩ := HB.res e5 r2
  obtain ⟨a2, k2, q3⟩ := own_slice (H9.mine 1 rfl)
  cases q3
  refine s_call (wn rfl) rfl rfl (pc_call Tryz.func352 rfl Tryz_nm352 rfl) (Tryz_spec_l1Solve (H9.msees 0 rfl) (H9.msees 1 rfl) (by assumption) (by first | assumption | omega) (by omega)) (fun v4 w9 r3 => ?_)
  obtain ⟨e6, sa1, sk1, rfl, r3⟩ := r3
  obtain ⟨fp5, H10⟩ := H9.res e6 r3
  refine sM rfl rfl (sV rfl (py_extr rfl rfl) (sV rfl (py_extr rfl rfl) (sA rfl rfl (sA rfl rfl (s_nil (W_sr (sM rfl rfl (sA rfl rfl (s_nil (rT hQ Tryz.results343 rfl ?_))))))))))
  exact ⟨H10.ext, H10.out 2 rfl⟩
end Go.Wk
namespace Go.Wk
open Go.Proofs Rp
set_option maxRecDepth 10000
theorem Tryz_impl_size_int64 {w : World} {xs : List Int} {xsA : Option Addr} {xsC : Nat} (xsS : Sees w [.slice xsA xs.length xsC] xs) : Ret Tryz.prog 173 #[.slice xsA xs.length xsC] w fun v w' => Ext No w w' ∧ (v = .int .i64 xs.length) := by
 have xsL := sL xsS
 obtain ⟨xsF, xsO⟩ := xsS
 refine ret_Q (vs := [.slice xsA xs.length xsC]) Tryz.func173 rfl Tryz.ntmps173 rfl (fun Q hQ hN => ?_)
 have H0 := Sep.start (w := w) (F := [seen false [.slice xsA xs.length xsC] xs xsF]) (all_cons xsO (by simp))
 refine W_sr (sA rfl rfl (s_nil (W_sr (sM rfl rfl (sV rfl (py_len tu25 rfl) (sA rfl rfl (s_nil (rT hQ Tryz.results173 rfl ?_))))))))
 exact ⟨H0.ext, rfl⟩
end Go.Wk
namespace Go.Wk
def ivT : List (UInt8 × UInt8) := [(1, 1), (23, 102), (27, 128), (29, 131), (84, 129), (128, 27), (129, 84), (130, 161), (131, 29), (143, 245), (161, 130), (225, 63), (239, 106)]
set_option maxRecDepth 100000 in
theorem ivT_ok : (ivT.all fun e => decide (invG e.1 = e.2)) = true := by decide +kernel
def ivL (p : UInt8) : UInt8 := match ivT.find? (fun e => decide (e.1 = p)) with
  | some e => e.2
  | none => invG p
theorem ivL_eq : ivL = invG := by
  funext p
  unfold ivL
  split
  · rename_i e he
    have h1 := List.find?_some he
    have h2 := List.mem_of_find?_eq_some he
    have h3 := List.all_eq_true.1 ivT_ok e h2
    simp only [decide_eq_true_eq] at h1 h3
    rw [← h1, h3]
  · rfl
def normW (iv : UInt8 → UInt8) (m : Mat) (c r a : Nat) : Mat := (m.set a (m.getD r [])).set r (scaleG (m.getD a []) (iv (entry m a c)))
def stepW (iv : UInt8 → UInt8) (m : Mat) (c r : Nat) : Mat × Nat := if m.length ≤ pivAt m c r then (m, r) else (elimTo (normW iv m c r (pivAt m c r)) c r m.length, r + 1)
def redW (iv : UInt8 → UInt8) (m : Mat) : Nat → Mat × Nat
  | 0 => (m, 0)
  | c + 1 => stepW iv (redW iv m c).1 c (redW iv m c).2
theorem redW_eq (m : Mat) : ∀ n, redW invG m n = redM m n
  | 0 => rfl
  | n + 1 => by rw [redW, redM, redW_eq m n]; rfl
def chainW (iv : UInt8 → UInt8) : Nat → Mat × Nat → List (Mat × Nat) → Bool
  | _, _, [] => true
  | c, m, x :: t => decide (stepW iv m.1 c m.2 = x) && chainW iv (c + 1) x t
theorem chain_ok {iv : UInt8 → UInt8} {A : Mat} : ∀ {l : List (Mat × Nat)} {c : Nat} {m : Mat × Nat}, redW iv A c = m → chainW iv c m l = true → redW iv A (c + l.length) = l.getLastD m
  | [], _, _, h, _ => h
  | x :: t, c, m, h, hc => by
    unfold chainW at hc
    simp only [Bool.and_eq_true, decide_eq_true_eq] at hc
    have h2 : redW iv A (c + 1) = x := by rw [redW, h]; exact hc.1
    have := chain_ok (l := t) (c := c + 1) h2 hc.2
    rw [show c + (x :: t).length = c + 1 + t.length by simp; omega, this]
    cases t <;> rfl
def genAtW (iv : UInt8 → UInt8) (n : Nat) (p : Int) (i : Nat) : UInt8 := if (n : Int) ≤ p then iv (u8Of (128 + (0 + p - n)) ^^^ u8Of i) else if (i : Int) = p then 1 else 0
def genW (iv : UInt8 → UInt8) (n : Nat) (p : Int) : List UInt8 := (List.range n).map (genAtW iv n p)
structure Way where
  n : Nat
  hs : List Int
  x : Int
  g : List UInt8
  m : Mat
  steps : List (Mat × Nat)
  w : List UInt8
def Way.ok (iv : UInt8 → UInt8) (e : Way) : Bool :=
  decide (genW iv e.n e.x = e.g) && decide (trF (fun t => genW iv e.n (e.hs.getD t 0)) e.n e.n 0 = e.m) && chainW iv 0 (aug e.m e.g, 0) e.steps && decide (e.steps.length = e.n) && decide (e.m.length = e.n) &&
    decide (e.n ≤ (e.steps.getLastD (aug e.m e.g, 0)).2) && decide (colTo (e.steps.getLastD (aug e.m e.g, 0)).1 e.n e.n = e.w)
theorem Way.fact {e : Way} (h : e.ok ivL = true) : betw e.n e.hs e.x 0 = e.w := by
  rw [ivL_eq] at h
  unfold Way.ok at h
  simp only [Bool.and_eq_true, decide_eq_true_eq] at h
  obtain ⟨⟨⟨⟨⟨⟨h1, h2⟩, h3⟩, h4⟩, h5⟩, h6⟩, h7⟩ := h
  have hc := chain_ok (A := aug e.m e.g) (c := 0) rfl h3
  rw [Nat.zero_add, h4, redW_eq] at hc
  have e1 : betwM e.n e.hs 0 = e.m := h2
  have e2 : genG e.n e.x 0 = e.g := h1
  rw [betw, e1, e2]
  have h8 : ¬ (redM (aug e.m e.g) e.m.length).2 < e.m.length := by
    rw [h5, hc]; exact Nat.not_lt.2 h6
  rw [(sol_yes h8).2, h5, hc]
  exact h7
def ways : List Way := [
  ⟨1, [0], 0, [1], [[1]], [([[1, 1]], 1)], [1]⟩,
  ⟨1, [0], 1, [27], [[1]], [([[1, 27]], 1)], [27]⟩,
  ⟨1, [0], 2, [84], [[1]], [([[1, 84]], 1)], [84]⟩,
  ⟨1, [1], 0, [1], [[27]], [([[1, 128]], 1)], [128]⟩,
  ⟨1, [1], 1, [27], [[27]], [([[1, 1]], 1)], [1]⟩,
  ⟨1, [1], 2, [84], [[27]], [([[1, 85]], 1)], [85]⟩,
  ⟨1, [2], 0, [1], [[84]], [([[1, 129]], 1)], [129]⟩,
  ⟨1, [2], 1, [27], [[84]], [([[1, 26]], 1)], [26]⟩,
  ⟨1, [2], 2, [84], [[84]], [([[1, 1]], 1)], [1]⟩,
  ⟨2, [0, 1], 0, [1, 0], [[1, 0], [0, 1]], [([[1, 0, 1], [0, 1, 0]], 1), ([[1, 0, 1], [0, 1, 0]], 2)], [1, 0]⟩,
  ⟨2, [0, 1], 1, [0, 1], [[1, 0], [0, 1]], [([[1, 0, 0], [0, 1, 1]], 1), ([[1, 0, 0], [0, 1, 1]], 2)], [0, 1]⟩,
  ⟨2, [0, 1], 2, [27, 84], [[1, 0], [0, 1]], [([[1, 0, 27], [0, 1, 84]], 1), ([[1, 0, 27], [0, 1, 84]], 2)], [27, 84]⟩,
  ⟨2, [0, 1], 3, [84, 27], [[1, 0], [0, 1]], [([[1, 0, 84], [0, 1, 27]], 1), ([[1, 0, 84], [0, 1, 27]], 2)], [84, 27]⟩,
  ⟨2, [0, 2], 0, [1, 0], [[1, 27], [0, 84]], [([[1, 27, 1], [0, 84, 0]], 1), ([[1, 0, 1], [0, 1, 0]], 2)], [1, 0]⟩,
  ⟨2, [0, 2], 1, [0, 1], [[1, 27], [0, 84]], [([[1, 27, 0], [0, 84, 1]], 1), ([[1, 0, 26], [0, 1, 129]], 2)], [26, 129]⟩,
  ⟨2, [0, 2], 2, [27, 84], [[1, 27], [0, 84]], [([[1, 27, 27], [0, 84, 84]], 1), ([[1, 0, 0], [0, 1, 1]], 2)], [0, 1]⟩,
  ⟨2, [0, 2], 3, [84, 27], [[1, 27], [0, 84]], [([[1, 27, 84], [0, 84, 27]], 1), ([[1, 0, 23], [0, 1, 26]], 2)], [23, 26]⟩,
  ⟨2, [0, 3], 0, [1, 0], [[1, 84], [0, 27]], [([[1, 84, 1], [0, 27, 0]], 1), ([[1, 0, 1], [0, 1, 0]], 2)], [1, 0]⟩,
  ⟨2, [0, 3], 1, [0, 1], [[1, 84], [0, 27]], [([[1, 84, 0], [0, 27, 1]], 1), ([[1, 0, 85], [0, 1, 128]], 2)], [85, 128]⟩,
  ⟨2, [0, 3], 2, [27, 84], [[1, 84], [0, 27]], [([[1, 84, 27], [0, 27, 84]], 1), ([[1, 0, 143], [0, 1, 85]], 2)], [143, 85]⟩,
  ⟨2, [0, 3], 3, [84, 27], [[1, 84], [0, 27]], [([[1, 84, 84], [0, 27, 27]], 1), ([[1, 0, 0], [0, 1, 1]], 2)], [0, 1]⟩,
  ⟨2, [1, 2], 0, [1, 0], [[0, 27], [1, 84]], [([[1, 84, 0], [0, 27, 1]], 1), ([[1, 0, 85], [0, 1, 128]], 2)], [85, 128]⟩,
  ⟨2, [1, 2], 1, [0, 1], [[0, 27], [1, 84]], [([[1, 84, 1], [0, 27, 0]], 1), ([[1, 0, 1], [0, 1, 0]], 2)], [1, 0]⟩,
  ⟨2, [1, 2], 2, [27, 84], [[0, 27], [1, 84]], [([[1, 84, 84], [0, 27, 27]], 1), ([[1, 0, 0], [0, 1, 1]], 2)], [0, 1]⟩,
  ⟨2, [1, 2], 3, [84, 27], [[0, 27], [1, 84]], [([[1, 84, 27], [0, 27, 84]], 1), ([[1, 0, 143], [0, 1, 85]], 2)], [143, 85]⟩,
  ⟨2, [1, 3], 0, [1, 0], [[0, 84], [1, 27]], [([[1, 27, 0], [0, 84, 1]], 1), ([[1, 0, 26], [0, 1, 129]], 2)], [26, 129]⟩,
  ⟨2, [1, 3], 1, [0, 1], [[0, 84], [1, 27]], [([[1, 27, 1], [0, 84, 0]], 1), ([[1, 0, 1], [0, 1, 0]], 2)], [1, 0]⟩,
  ⟨2, [1, 3], 2, [27, 84], [[0, 84], [1, 27]], [([[1, 27, 84], [0, 84, 27]], 1), ([[1, 0, 23], [0, 1, 26]], 2)], [23, 26]⟩,
  ⟨2, [1, 3], 3, [84, 27], [[0, 84], [1, 27]], [([[1, 27, 27], [0, 84, 84]], 1), ([[1, 0, 0], [0, 1, 1]], 2)], [0, 1]⟩,
  ⟨2, [2, 3], 0, [1, 0], [[27, 84], [84, 27]], [([[1, 85, 128], [0, 143, 85]], 1), ([[1, 0, 245], [0, 1, 102]], 2)], [245, 102]⟩,
  ⟨2, [2, 3], 1, [0, 1], [[27, 84], [84, 27]], [([[1, 85, 0], [0, 143, 1]], 1), ([[1, 0, 102], [0, 1, 245]], 2)], [102, 245]⟩,
  ⟨2, [2, 3], 2, [27, 84], [[27, 84], [84, 27]], [([[1, 85, 1], [0, 143, 0]], 1), ([[1, 0, 1], [0, 1, 0]], 2)], [1, 0]⟩,
  ⟨2, [2, 3], 3, [84, 27], [[27, 84], [84, 27]], [([[1, 85, 85], [0, 143, 143]], 1), ([[1, 0, 0], [0, 1, 1]], 2)], [0, 1]⟩,
  ⟨3, [0, 1, 2], 0, [1, 0, 0], [[1, 0, 0], [0, 1, 0], [0, 0, 1]], [([[1, 0, 0, 1], [0, 1, 0, 0], [0, 0, 1, 0]], 1), ([[1, 0, 0, 1], [0, 1, 0, 0], [0, 0, 1, 0]], 2), ([[1, 0, 0, 1], [0, 1, 0, 0], [0, 0, 1, 0]], 3)], [1, 0, 0]⟩,
  ⟨3, [0, 1, 2], 1, [0, 1, 0], [[1, 0, 0], [0, 1, 0], [0, 0, 1]], [([[1, 0, 0, 0], [0, 1, 0, 1], [0, 0, 1, 0]], 1), ([[1, 0, 0, 0], [0, 1, 0, 1], [0, 0, 1, 0]], 2), ([[1, 0, 0, 0], [0, 1, 0, 1], [0, 0, 1, 0]], 3)], [0, 1, 0]⟩,
  ⟨3, [0, 1, 2], 2, [0, 0, 1], [[1, 0, 0], [0, 1, 0], [0, 0, 1]], [([[1, 0, 0, 0], [0, 1, 0, 0], [0, 0, 1, 1]], 1), ([[1, 0, 0, 0], [0, 1, 0, 0], [0, 0, 1, 1]], 2), ([[1, 0, 0, 0], [0, 1, 0, 0], [0, 0, 1, 1]], 3)], [0, 0, 1]⟩,
  ⟨3, [0, 1, 2], 3, [27, 84, 161], [[1, 0, 0], [0, 1, 0], [0, 0, 1]], [([[1, 0, 0, 27], [0, 1, 0, 84], [0, 0, 1, 161]], 1), ([[1, 0, 0, 27], [0, 1, 0, 84], [0, 0, 1, 161]], 2), ([[1, 0, 0, 27], [0, 1, 0, 84], [0, 0, 1, 161]], 3)], [27, 84, 161]⟩,
  ⟨3, [0, 1, 2], 4, [84, 27, 29], [[1, 0, 0], [0, 1, 0], [0, 0, 1]], [([[1, 0, 0, 84], [0, 1, 0, 27], [0, 0, 1, 29]], 1), ([[1, 0, 0, 84], [0, 1, 0, 27], [0, 0, 1, 29]], 2), ([[1, 0, 0, 84], [0, 1, 0, 27], [0, 0, 1, 29]], 3)], [84, 27, 29]⟩,
  ⟨3, [0, 1, 3], 0, [1, 0, 0], [[1, 0, 27], [0, 1, 84], [0, 0, 161]], [([[1, 0, 27, 1], [0, 1, 84, 0], [0, 0, 161, 0]], 1), ([[1, 0, 27, 1], [0, 1, 84, 0], [0, 0, 161, 0]], 2), ([[1, 0, 0, 1], [0, 1, 0, 0], [0, 0, 1, 0]], 3)], [1, 0, 0]⟩,
  ⟨3, [0, 1, 3], 1, [0, 1, 0], [[1, 0, 27], [0, 1, 84], [0, 0, 161]], [([[1, 0, 27, 0], [0, 1, 84, 1], [0, 0, 161, 0]], 1), ([[1, 0, 27, 0], [0, 1, 84, 1], [0, 0, 161, 0]], 2), ([[1, 0, 0, 0], [0, 1, 0, 1], [0, 0, 1, 0]], 3)], [0, 1, 0]⟩,
  ⟨3, [0, 1, 3], 2, [0, 0, 1], [[1, 0, 27], [0, 1, 84], [0, 0, 161]], [([[1, 0, 27, 0], [0, 1, 84, 0], [0, 0, 161, 1]], 1), ([[1, 0, 27, 0], [0, 1, 84, 0], [0, 0, 161, 1]], 2), ([[1, 0, 0, 55], [0, 1, 0, 253], [0, 0, 1, 130]], 3)], [55, 253, 130]⟩,
  ⟨3, [0, 1, 3], 3, [27, 84, 161], [[1, 0, 27], [0, 1, 84], [0, 0, 161]], [([[1, 0, 27, 27], [0, 1, 84, 84], [0, 0, 161, 161]], 1), ([[1, 0, 27, 27], [0, 1, 84, 84], [0, 0, 161, 161]], 2), ([[1, 0, 0, 0], [0, 1, 0, 0], [0, 0, 1, 1]], 3)], [0, 0, 1]⟩,
  ⟨3, [0, 1, 3], 4, [84, 27, 29], [[1, 0, 27], [0, 1, 84], [0, 0, 161]], [([[1, 0, 27, 84], [0, 1, 84, 27], [0, 0, 161, 29]], 1), ([[1, 0, 27, 84], [0, 1, 84, 27], [0, 0, 161, 29]], 2), ([[1, 0, 0, 77], [0, 1, 0, 229], [0, 0, 1, 28]], 3)], [77, 229, 28]⟩,
  ⟨3, [0, 1, 4], 0, [1, 0, 0], [[1, 0, 84], [0, 1, 27], [0, 0, 29]], [([[1, 0, 84, 1], [0, 1, 27, 0], [0, 0, 29, 0]], 1), ([[1, 0, 84, 1], [0, 1, 27, 0], [0, 0, 29, 0]], 2), ([[1, 0, 0, 1], [0, 1, 0, 0], [0, 0, 1, 0]], 3)], [1, 0, 0]⟩,
  ⟨3, [0, 1, 4], 1, [0, 1, 0], [[1, 0, 84], [0, 1, 27], [0, 0, 29]], [([[1, 0, 84, 0], [0, 1, 27, 1], [0, 0, 29, 0]], 1), ([[1, 0, 84, 0], [0, 1, 27, 1], [0, 0, 29, 0]], 2), ([[1, 0, 0, 0], [0, 1, 0, 1], [0, 0, 1, 0]], 3)], [0, 1, 0]⟩,
  ⟨3, [0, 1, 4], 2, [0, 0, 1], [[1, 0, 84], [0, 1, 27], [0, 0, 29]], [([[1, 0, 84, 0], [0, 1, 27, 0], [0, 0, 29, 1]], 1), ([[1, 0, 84, 0], [0, 1, 27, 0], [0, 0, 29, 1]], 2), ([[1, 0, 0, 169], [0, 1, 0, 44], [0, 0, 1, 131]], 3)], [169, 44, 131]⟩,
  ⟨3, [0, 1, 4], 3, [27, 84, 161], [[1, 0, 84], [0, 1, 27], [0, 0, 29]], [([[1, 0, 84, 27], [0, 1, 27, 84], [0, 0, 29, 161]], 1), ([[1, 0, 84, 27], [0, 1, 27, 84], [0, 0, 29, 161]], 2), ([[1, 0, 0, 28], [0, 1, 0, 18], [0, 0, 1, 160]], 3)], [28, 18, 160]⟩,
  ⟨3, [0, 1, 4], 4, [84, 27, 29], [[1, 0, 84], [0, 1, 27], [0, 0, 29]], [([[1, 0, 84, 84], [0, 1, 27, 27], [0, 0, 29, 29]], 1), ([[1, 0, 84, 84], [0, 1, 27, 27], [0, 0, 29, 29]], 2), ([[1, 0, 0, 0], [0, 1, 0, 0], [0, 0, 1, 1]], 3)], [0, 0, 1]⟩,
  ⟨3, [0, 2, 3], 0, [1, 0, 0], [[1, 0, 27], [0, 0, 84], [0, 1, 161]], [([[1, 0, 27, 1], [0, 0, 84, 0], [0, 1, 161, 0]], 1), ([[1, 0, 27, 1], [0, 1, 161, 0], [0, 0, 84, 0]], 2), ([[1, 0, 0, 1], [0, 1, 0, 0], [0, 0, 1, 0]], 3)], [1, 0, 0]⟩,
  ⟨3, [0, 2, 3], 1, [0, 1, 0], [[1, 0, 27], [0, 0, 84], [0, 1, 161]], [([[1, 0, 27, 0], [0, 0, 84, 1], [0, 1, 161, 0]], 1), ([[1, 0, 27, 0], [0, 1, 161, 0], [0, 0, 84, 1]], 2), ([[1, 0, 0, 26], [0, 1, 0, 255], [0, 0, 1, 129]], 3)], [26, 255, 129]⟩,
  ⟨3, [0, 2, 3], 2, [0, 0, 1], [[1, 0, 27], [0, 0, 84], [0, 1, 161]], [([[1, 0, 27, 0], [0, 0, 84, 0], [0, 1, 161, 1]], 1), ([[1, 0, 27, 0], [0, 1, 161, 1], [0, 0, 84, 0]], 2), ([[1, 0, 0, 0], [0, 1, 0, 1], [0, 0, 1, 0]], 3)], [0, 1, 0]⟩,
  ⟨3, [0, 2, 3], 3, [27, 84, 161], [[1, 0, 27], [0, 0, 84], [0, 1, 161]], [([[1, 0, 27, 27], [0, 0, 84, 84], [0, 1, 161, 161]], 1), ([[1, 0, 27, 27], [0, 1, 161, 161], [0, 0, 84, 84]], 2), ([[1, 0, 0, 0], [0, 1, 0, 0], [0, 0, 1, 1]], 3)], [0, 0, 1]⟩,
  ⟨3, [0, 2, 3], 4, [84, 27, 29], [[1, 0, 27], [0, 0, 84], [0, 1, 161]], [([[1, 0, 27, 84], [0, 0, 84, 27], [0, 1, 161, 29]], 1), ([[1, 0, 27, 84], [0, 1, 161, 29], [0, 0, 84, 27]], 2), ([[1, 0, 0, 23], [0, 1, 0, 225], [0, 0, 1, 26]], 3)], [23, 225, 26]⟩,
  ⟨3, [0, 2, 4], 0, [1, 0, 0], [[1, 0, 84], [0, 0, 27], [0, 1, 29]], [([[1, 0, 84, 1], [0, 0, 27, 0], [0, 1, 29, 0]], 1), ([[1, 0, 84, 1], [0, 1, 29, 0], [0, 0, 27, 0]], 2), ([[1, 0, 0, 1], [0, 1, 0, 0], [0, 0, 1, 0]], 3)], [1, 0, 0]⟩,
  ⟨3, [0, 2, 4], 1, [0, 1, 0], [[1, 0, 84], [0, 0, 27], [0, 1, 29]], [([[1, 0, 84, 0], [0, 0, 27, 1], [0, 1, 29, 0]], 1), ([[1, 0, 84, 0], [0, 1, 29, 0], [0, 0, 27, 1]], 2), ([[1, 0, 0, 85], [0, 1, 0, 38], [0, 0, 1, 128]], 3)], [85, 38, 128]⟩,
  ⟨3, [0, 2, 4], 2, [0, 0, 1], [[1, 0, 84], [0, 0, 27], [0, 1, 29]], [([[1, 0, 84, 0], [0, 0, 27, 0], [0, 1, 29, 1]], 1), ([[1, 0, 84, 0], [0, 1, 29, 1], [0, 0, 27, 0]], 2), ([[1, 0, 0, 0], [0, 1, 0, 1], [0, 0, 1, 0]], 3)], [0, 1, 0]⟩,
  ⟨3, [0, 2, 4], 3, [27, 84, 161], [[1, 0, 84], [0, 0, 27], [0, 1, 29]], [([[1, 0, 84, 27], [0, 0, 27, 84], [0, 1, 29, 161]], 1), ([[1, 0, 84, 27], [0, 1, 29, 161], [0, 0, 27, 84]], 2), ([[1, 0, 0, 143], [0, 1, 0, 22], [0, 0, 1, 85]], 3)], [143, 22, 85]⟩,
  ⟨3, [0, 2, 4], 4, [84, 27, 29], [[1, 0, 84], [0, 0, 27], [0, 1, 29]], [([[1, 0, 84, 84], [0, 0, 27, 27], [0, 1, 29, 29]], 1), ([[1, 0, 84, 84], [0, 1, 29, 29], [0, 0, 27, 27]], 2), ([[1, 0, 0, 0], [0, 1, 0, 0], [0, 0, 1, 1]], 3)], [0, 0, 1]⟩,
  ⟨3, [0, 3, 4], 0, [1, 0, 0], [[1, 27, 84], [0, 84, 27], [0, 161, 29]], [([[1, 27, 84, 1], [0, 84, 27, 0], [0, 161, 29, 0]], 1), ([[1, 0, 23, 1], [0, 1, 26, 0], [0, 0, 225, 0]], 2), ([[1, 0, 0, 1], [0, 1, 0, 0], [0, 0, 1, 0]], 3)], [1, 0, 0]⟩,
  ⟨3, [0, 3, 4], 1, [0, 1, 0], [[1, 27, 84], [0, 84, 27], [0, 161, 29]], [([[1, 27, 84, 0], [0, 84, 27, 1], [0, 161, 29, 0]], 1), ([[1, 0, 23, 26], [0, 1, 26, 129], [0, 0, 225, 255]], 2), ([[1, 0, 0, 245], [0, 1, 0, 192], [0, 0, 1, 177]], 3)], [245, 192, 177]⟩,
  ⟨3, [0, 3, 4], 2, [0, 0, 1], [[1, 27, 84], [0, 84, 27], [0, 161, 29]], [([[1, 27, 84, 0], [0, 84, 27, 0], [0, 161, 29, 1]], 1), ([[1, 0, 23, 0], [0, 1, 26, 0], [0, 0, 225, 1]], 2), ([[1, 0, 0, 106], [0, 1, 0, 76], [0, 0, 1, 63]], 3)], [106, 76, 63]⟩,
  ⟨3, [0, 3, 4], 3, [27, 84, 161], [[1, 27, 84], [0, 84, 27], [0, 161, 29]], [([[1, 27, 84, 27], [0, 84, 27, 84], [0, 161, 29, 161]], 1), ([[1, 0, 23, 0], [0, 1, 26, 1], [0, 0, 225, 0]], 2), ([[1, 0, 0, 0], [0, 1, 0, 1], [0, 0, 1, 0]], 3)], [0, 1, 0]⟩,
  ⟨3, [0, 3, 4], 4, [84, 27, 29], [[1, 27, 84], [0, 84, 27], [0, 161, 29]], [([[1, 27, 84, 84], [0, 84, 27, 27], [0, 161, 29, 29]], 1), ([[1, 0, 23, 23], [0, 1, 26, 26], [0, 0, 225, 225]], 2), ([[1, 0, 0, 0], [0, 1, 0, 0], [0, 0, 1, 1]], 3)], [0, 0, 1]⟩,
  ⟨3, [1, 2, 3], 0, [1, 0, 0], [[0, 0, 27], [1, 0, 84], [0, 1, 161]], [([[1, 0, 84, 0], [0, 0, 27, 1], [0, 1, 161, 0]], 1), ([[1, 0, 84, 0], [0, 1, 161, 0], [0, 0, 27, 1]], 2), ([[1, 0, 0, 85], [0, 1, 0, 94], [0, 0, 1, 128]], 3)], [85, 94, 128]⟩,
  ⟨3, [1, 2, 3], 1, [0, 1, 0], [[0, 0, 27], [1, 0, 84], [0, 1, 161]], [([[1, 0, 84, 1], [0, 0, 27, 0], [0, 1, 161, 0]], 1), ([[1, 0, 84, 1], [0, 1, 161, 0], [0, 0, 27, 0]], 2), ([[1, 0, 0, 1], [0, 1, 0, 0], [0, 0, 1, 0]], 3)], [1, 0, 0]⟩,
  ⟨3, [1, 2, 3], 2, [0, 0, 1], [[0, 0, 27], [1, 0, 84], [0, 1, 161]], [([[1, 0, 84, 0], [0, 0, 27, 0], [0, 1, 161, 1]], 1), ([[1, 0, 84, 0], [0, 1, 161, 1], [0, 0, 27, 0]], 2), ([[1, 0, 0, 0], [0, 1, 0, 1], [0, 0, 1, 0]], 3)], [0, 1, 0]⟩,
  ⟨3, [1, 2, 3], 3, [27, 84, 161], [[0, 0, 27], [1, 0, 84], [0, 1, 161]], [([[1, 0, 84, 84], [0, 0, 27, 27], [0, 1, 161, 161]], 1), ([[1, 0, 84, 84], [0, 1, 161, 161], [0, 0, 27, 27]], 2), ([[1, 0, 0, 0], [0, 1, 0, 0], [0, 0, 1, 1]], 3)], [0, 0, 1]⟩,
  ⟨3, [1, 2, 3], 4, [84, 27, 29], [[0, 0, 27], [1, 0, 84], [0, 1, 161]], [([[1, 0, 84, 27], [0, 0, 27, 84], [0, 1, 161, 29]], 1), ([[1, 0, 84, 27], [0, 1, 161, 29], [0, 0, 27, 84]], 2), ([[1, 0, 0, 143], [0, 1, 0, 239], [0, 0, 1, 85]], 3)], [143, 239, 85]⟩,
  ⟨3, [1, 2, 4], 0, [1, 0, 0], [[0, 0, 84], [1, 0, 27], [0, 1, 29]], [([[1, 0, 27, 0], [0, 0, 84, 1], [0, 1, 29, 0]], 1), ([[1, 0, 27, 0], [0, 1, 29, 0], [0, 0, 84, 1]], 2), ([[1, 0, 0, 26], [0, 1, 0, 59], [0, 0, 1, 129]], 3)], [26, 59, 129]⟩,
  ⟨3, [1, 2, 4], 1, [0, 1, 0], [[0, 0, 84], [1, 0, 27], [0, 1, 29]], [([[1, 0, 27, 1], [0, 0, 84, 0], [0, 1, 29, 0]], 1), ([[1, 0, 27, 1], [0, 1, 29, 0], [0, 0, 84, 0]], 2), ([[1, 0, 0, 1], [0, 1, 0, 0], [0, 0, 1, 0]], 3)], [1, 0, 0]⟩,
  ⟨3, [1, 2, 4], 2, [0, 0, 1], [[0, 0, 84], [1, 0, 27], [0, 1, 29]], [([[1, 0, 27, 0], [0, 0, 84, 0], [0, 1, 29, 1]], 1), ([[1, 0, 27, 0], [0, 1, 29, 1], [0, 0, 84, 0]], 2), ([[1, 0, 0, 0], [0, 1, 0, 1], [0, 0, 1, 0]], 3)], [0, 1, 0]⟩,
  ⟨3, [1, 2, 4], 3, [27, 84, 161], [[0, 0, 84], [1, 0, 27], [0, 1, 29]], [([[1, 0, 27, 84], [0, 0, 84, 27], [0, 1, 29, 161]], 1), ([[1, 0, 27, 84], [0, 1, 29, 161], [0, 0, 84, 27]], 2), ([[1, 0, 0, 23], [0, 1, 0, 190], [0, 0, 1, 26]], 3)], [23, 190, 26]⟩,
  ⟨3, [1, 2, 4], 4, [84, 27, 29], [[0, 0, 84], [1, 0, 27], [0, 1, 29]], [([[1, 0, 27, 27], [0, 0, 84, 84], [0, 1, 29, 29]], 1), ([[1, 0, 27, 27], [0, 1, 29, 29], [0, 0, 84, 84]], 2), ([[1, 0, 0, 0], [0, 1, 0, 0], [0, 0, 1, 1]], 3)], [0, 0, 1]⟩,
  ⟨3, [1, 3, 4], 0, [1, 0, 0], [[0, 27, 84], [1, 84, 27], [0, 161, 29]], [([[1, 84, 27, 0], [0, 27, 84, 1], [0, 161, 29, 0]], 1), ([[1, 0, 143, 85], [0, 1, 85, 128], [0, 0, 239, 94]], 2), ([[1, 0, 0, 143], [0, 1, 0, 160], [0, 0, 1, 103]], 3)], [143, 160, 103]⟩,
  ⟨3, [1, 3, 4], 1, [0, 1, 0], [[0, 27, 84], [1, 84, 27], [0, 161, 29]], [([[1, 84, 27, 1], [0, 27, 84, 0], [0, 161, 29, 0]], 1), ([[1, 0, 143, 1], [0, 1, 85, 0], [0, 0, 239, 0]], 2), ([[1, 0, 0, 1], [0, 1, 0, 0], [0, 0, 1, 0]], 3)], [1, 0, 0]⟩,
  ⟨3, [1, 3, 4], 2, [0, 0, 1], [[0, 27, 84], [1, 84, 27], [0, 161, 29]], [([[1, 84, 27, 0], [0, 27, 84, 0], [0, 161, 29, 1]], 1), ([[1, 0, 143, 0], [0, 1, 85, 0], [0, 0, 239, 1]], 2), ([[1, 0, 0, 95], [0, 1, 0, 174], [0, 0, 1, 106]], 3)], [95, 174, 106]⟩,
  ⟨3, [1, 3, 4], 3, [27, 84, 161], [[0, 27, 84], [1, 84, 27], [0, 161, 29]], [([[1, 84, 27, 84], [0, 27, 84, 27], [0, 161, 29, 161]], 1), ([[1, 0, 143, 0], [0, 1, 85, 1], [0, 0, 239, 0]], 2), ([[1, 0, 0, 0], [0, 1, 0, 1], [0, 0, 1, 0]], 3)], [0, 1, 0]⟩,
  ⟨3, [1, 3, 4], 4, [84, 27, 29], [[0, 27, 84], [1, 84, 27], [0, 161, 29]], [([[1, 84, 27, 27], [0, 27, 84, 84], [0, 161, 29, 29]], 1), ([[1, 0, 143, 143], [0, 1, 85, 85], [0, 0, 239, 239]], 2), ([[1, 0, 0, 0], [0, 1, 0, 0], [0, 0, 1, 1]], 3)], [0, 0, 1]⟩,
  ⟨3, [2, 3, 4], 0, [1, 0, 0], [[0, 27, 84], [0, 84, 27], [1, 161, 29]], [([[1, 161, 29, 0], [0, 84, 27, 0], [0, 27, 84, 1]], 1), ([[1, 0, 225, 0], [0, 1, 26, 0], [0, 0, 23, 1]], 2), ([[1, 0, 0, 239], [0, 1, 0, 245], [0, 0, 1, 102]], 3)], [239, 245, 102]⟩,
  ⟨3, [2, 3, 4], 1, [0, 1, 0], [[0, 27, 84], [0, 84, 27], [1, 161, 29]], [([[1, 161, 29, 0], [0, 84, 27, 1], [0, 27, 84, 0]], 1), ([[1, 0, 225, 255], [0, 1, 26, 129], [0, 0, 23, 26]], 2), ([[1, 0, 0, 65], [0, 1, 0, 102], [0, 0, 1, 245]], 3)], [65, 102, 245]⟩,
  ⟨3, [2, 3, 4], 2, [0, 0, 1], [[0, 27, 84], [0, 84, 27], [1, 161, 29]], [([[1, 161, 29, 1], [0, 84, 27, 0], [0, 27, 84, 0]], 1), ([[1, 0, 225, 1], [0, 1, 26, 0], [0, 0, 23, 0]], 2), ([[1, 0, 0, 1], [0, 1, 0, 0], [0, 0, 1, 0]], 3)], [1, 0, 0]⟩,
  ⟨3, [2, 3, 4], 3, [27, 84, 161], [[0, 27, 84], [0, 84, 27], [1, 161, 29]], [([[1, 161, 29, 161], [0, 84, 27, 84], [0, 27, 84, 27]], 1), ([[1, 0, 225, 0], [0, 1, 26, 1], [0, 0, 23, 0]], 2), ([[1, 0, 0, 0], [0, 1, 0, 1], [0, 0, 1, 0]], 3)], [0, 1, 0]⟩,
  ⟨3, [2, 3, 4], 4, [84, 27, 29], [[0, 27, 84], [0, 84, 27], [1, 161, 29]], [([[1, 161, 29, 29], [0, 84, 27, 27], [0, 27, 84, 84]], 1), ([[1, 0, 225, 225], [0, 1, 26, 26], [0, 0, 23, 23]], 2), ([[1, 0, 0, 0], [0, 1, 0, 0], [0, 0, 1, 1]], 3)], [0, 0, 1]⟩]
set_option maxRecDepth 100000 in
theorem ways_ok : (ways.all fun e => e.ok ivL) = true := by decide +kernel
def wayW (n : Nat) (hs : List Int) (x : Nat) : List UInt8 := match ways.find? (fun e => decide (e.n = n) && decide (e.hs = hs) && decide (e.x = (x : Int))) with
  | some e => e.w
  | none => []
def wayG (n : Nat) (x : Nat) : List UInt8 := match ways.find? (fun e => decide (e.n = n) && decide (e.x = (x : Int))) with
  | some e => e.g
  | none => []
def tabOk (n : Nat) (hs : List Int) : Bool :=
  (List.range (n + 2)).all fun x => decide (ways.find? (fun e => decide (e.n = n) && decide (e.hs = hs) && decide (e.x = (x : Int))) ≠ none) && decide ((wayW n hs x).length = n) &&
    ((List.range n).all fun t => decide (xorN (fun j => mulG ((wayG n (hs.getD j 0).toNat).getD t 0) ((wayW n hs x).getD j 0)) n = (wayG n x).getD t 0)) &&
    ((List.range n).all fun j => decide (xorN (fun i => mulG ((wayW n hs i).getD j 0) ((wayG n x).getD i 0)) n = (wayW n hs x).getD j 0))
end Go.Wk
namespace Go.Wk
open Rp (sz own)
set_option maxRecDepth 100000 in
theorem tab_all : ([1, 2, 3].all fun n => (candH n).all (tabOk n)) = true := by decide +kernel
theorem cand_of {n s : Nat} {hs : List Int} (hn : 1 ≤ n ∧ n ≤ 3) (h2 : s ≤ 2) (hr : rises hs ((n : Int) + s - 1) = true) (hl : hs.length = n) : hs ∈ candH n := by
  rw [rises, List.all_eq_true] at hr
  have hr : ∀ i, i < hs.length → riseAt hs ((n : Int) + s - 1) i = true := fun i hi => hr i (by simpa using hi)
  simp only [riseAt, Bool.and_eq_true, Bool.or_eq_true, decide_eq_true_eq] at hr
  have hc : n = 1 ∨ n = 2 ∨ n = 3 := by omega
  rcases hc with rfl | rfl | rfl
  · match hs, hl with
    | [a], _ =>
      have h0 := hr 0 (by simp)
      simp only [List.getD_cons_zero] at h0
      have : a = 0 ∨ a = 1 ∨ a = 2 := by omega
      rcases this with rfl | rfl | rfl <;> simp [candH]
  · match hs, hl with
    | [a, b], _ =>
      have h0 := hr 0 (by simp)
      have h1 := hr 1 (by simp)
      simp only [List.getD_cons_zero, List.getD_cons_succ, Nat.sub_self, Nat.one_ne_zero, false_or] at h0 h1
      have ha : a = 0 ∨ a = 1 ∨ a = 2 := by omega
      have hb : b = 1 ∨ b = 2 ∨ b = 3 := by omega
      rcases ha with rfl | rfl | rfl <;> rcases hb with rfl | rfl | rfl <;> first | (exfalso; omega) | simp [candH]
  · match hs, hl with
    | [a, b, c], _ =>
      have h0 := hr 0 (by simp)
      have h1 := hr 1 (by simp)
      have h2 := hr 2 (by simp)
      simp only [List.getD_cons_zero, List.getD_cons_succ, Nat.sub_self, Nat.one_ne_zero, false_or, Nat.succ_ne_zero, show (2 : Nat) - 1 = 1 from rfl, (by decide : ¬ (2 : Nat) = 0)] at h0 h1 h2
      have ha : a = 0 ∨ a = 1 ∨ a = 2 := by omega
      have hb : b = 1 ∨ b = 2 ∨ b = 3 := by omega
      have hc : c = 2 ∨ c = 3 ∨ c = 4 := by omega
      rcases ha with rfl | rfl | rfl <;> rcases hb with rfl | rfl | rfl <;> rcases hc with rfl | rfl | rfl <;> first | (exfalso; omega) | simp [candH]
theorem tab_of {n : Nat} {hs : List Int} (hn : 1 ≤ n ∧ n ≤ 3) (h : hs ∈ candH n) : tabOk n hs = true := by
  have h1 := List.all_eq_true.1 tab_all n (by have hc : n = 1 ∨ n = 2 ∨ n = 3 := by omega
                                              rcases hc with rfl | rfl | rfl <;> simp)
  exact List.all_eq_true.1 h1 hs h
theorem way_at {n : Nat} {hs : List Int} (h : tabOk n hs = true) {x : Nat} (hx : x < n + 2) : betw n hs x 0 = wayW n hs x ∧ genG n x 0 = wayG n x := by
  have h1 := List.all_eq_true.1 h x (by simpa using hx)
  simp only [Bool.and_eq_true, decide_eq_true_eq] at h1
  have h2 := h1.1.1.1
  have key : ∀ e ∈ ways, e.ok ivL = true := List.all_eq_true.1 ways_ok
  cases he : ways.find? (fun e => decide (e.n = n) && decide (e.hs = hs) && decide (e.x = (x : Int))) with
  | none => exact absurd he h2
  | some e =>
    have e1 := List.find?_some he
    simp only [Bool.and_eq_true, decide_eq_true_eq] at e1
    obtain ⟨⟨e2, e3⟩, e4⟩ := e1
    have hm := List.mem_of_find?_eq_some he
    refine ⟨?_, ?_⟩
    · have := Way.fact (key e hm)
      rw [e2, e3, e4] at this
      rw [this, wayW, he]
    · cases hf : ways.find? (fun e => decide (e.n = n) && decide (e.x = (x : Int))) with
      | none =>
        have := List.find?_eq_none.1 hf e hm
        simp [e2, e4] at this
      | some f =>
        have f1 := List.find?_some hf
        simp only [Bool.and_eq_true, decide_eq_true_eq] at f1
        have hg := key f (List.mem_of_find?_eq_some hf)
        rw [ivL_eq] at hg
        unfold Way.ok at hg
        simp only [Bool.and_eq_true, decide_eq_true_eq] at hg
        have h9 := hg.1.1.1.1.1.1
        rw [f1.1, f1.2] at h9
        rw [wayG, hf]
        exact h9
section
variable {n s : Nat} {hs : List Int} {x : Int}
theorem way_len (hn : 1 ≤ n ∧ n ≤ 3) (h2 : s ≤ 2) (hr : rises hs ((n : Int) + s - 1) = true) (hl : hs.length = n) (hx : 0 ≤ x ∧ x < n + 2) : (betw n hs x 0).length = n := by
  obtain ⟨x, rfl⟩ : ∃ k : Nat, x = k := ⟨x.toNat, by omega⟩
  have ht := tab_of hn (cand_of hn h2 hr hl)
  have hx' : x < n + 2 := by omega
  have h1 := List.all_eq_true.1 ht x (by simpa using hx')
  simp only [Bool.and_eq_true, decide_eq_true_eq] at h1
  rw [(way_at ht hx').1]
  exact h1.1.1.2
end
section
variable {n s : Nat} {xs : List (List UInt8)}
theorem rises_have (hl : xs.length = n + s) : rises (haveTo xs n xs.length) ((n : Int) + s - 1) = true := by
  have := have_rises (xs := xs) (n := n) (k := xs.length)
  rwa [show ((xs.length : Nat) : Int) - 1 = (n : Int) + s - 1 by omega] at this
end
end Go.Wk
namespace Go.Wk
theorem dec_lt {n xs} (h : decOk n xs = false) : (haveTo xs n xs.length).length < n := by
  simpa [decOk] using h
theorem dec_ge {n xs} (h : decOk n xs = true) : ¬ (haveTo xs n xs.length).length < n := by
  simp only [decOk, decide_eq_true_eq] at h; omega
theorem blk_at {n xs p} (h : decOk n xs = true) : blkL n xs p = decAt n xs p := (dec_yes (dec_ge h)).2.2 p
theorem dec_at {n xs} (h : decOk n xs = true) : decL n xs = decTo n xs n := (dec_yes (dec_ge h)).2.1
theorem have_end {xs : List (List UInt8)} {n k : Nat} (hk : k ≤ xs.length) (h : ¬ ((k : Int) < xs.length) ∨ ¬ (((haveTo xs n k).length : Int) < n)) :
    haveTo xs n xs.length = haveTo xs n k ∧ thereTo xs n xs.length = thereTo xs n k := by
  rcases h with h | h
  · rw [show k = xs.length by omega]; exact ⟨rfl, rfl⟩
  · have := have_le (xs := xs) (n := n) (k := k)
    exact have_full (by omega) _ hk
end Go.Wk
namespace Go.Wk
open Go.Proofs Rp
set_option maxRecDepth 10000
theorem Tryz_impl_rowCode_decode {w : World} {n s : Nat} {xs : List (List UInt8)} {xsA : Option Addr} {xsC : Nat} (hn : 1 ≤ n ∧ n ≤ 3 ∧ s ≤ 2) (hl : xs.length = n + s) (h4 : Part xs) (xsS : Sees w [.slice xsA xs.length xsC] xs) : Ret Tryz.prog 176 #[.agg #[.int .i64 n, .int .i64 s], .slice xsA xs.length xsC] w fun v w' => Ext No w w' ∧ (∃ A C, v = .tuple #[.slice A (decL n xs).length C, .bool (decOk n xs)] ∧ Res w w' [.slice A (decL n xs).length C] (decL n xs)) := by
 have xsL := sL xsS
 obtain ⟨xsF, xsO⟩ := xsS
 refine ret_Q (vs := [.agg #[.int .i64 n, .int .i64 s], .slice xsA xs.length xsC]) Tryz.func176 rfl Tryz.ntmps176 rfl (fun Q hQ hN => ?_)
 have H0 := Sep.start (w := w) (F := [seen false [.slice xsA xs.length xsC] xs xsF]) (all_cons xsO (by simp))
 refine W_sr (s_box (wn rfl) rfl rfl H0 (fun b1 w1 e1 g1 H1 => ?_))
 refine sA rfl rfl (sA rfl rfl (s_nil (W_sr (s_lit0 (α := Int) (wn rfl) rfl tu25 Tryz_ty2 H1 (fun b2 w2 e2 g2 H2 => ?_)))))
 refine s_lit0 (α := View) (wn rfl) rfl tu112 Tryz_ty45 H2 (fun b3 w3 e3 g3 H3 => ?_)
 refine sA rfl rfl (sA rfl rfl (s_nil (W_seq (W_seq ?_))))
 have HR := H3.noRows (β := UInt8)
 try dsimp only [lNA, lCA, lSZ, lSS] at HR
 refine W_reg (sM rfl rfl (sV rfl (py_len tu112 rfl) (sM rfl rfl (s_nil (W_block (W_loop (γ := Nat × Value × List Nat × Value × List View × List Nat × List Nat) (fun (k, vo, f, vp, vs, f2, g) => [(2, .pointer (some ⟨b1, 0, none⟩)), (6, vo), (7, vp), (14, .slice xsA xs.length xsC), (15, .int .i64 xs.length), (16, .int .i64 k)]) (fun (k, vo, f, vp, vs, f2, g) w' => Sep No w [box b1 (.cells #[.int .i64 n, .int .i64 s] 167), mine [vo] (haveTo xs n k) f, mine [vp] vs f2] [seen false [.slice xsA xs.length xsC] xs xsF, rows vs (thereTo xs n k) g] w' ∧ k ≤ xs.length ∧ vs.length = (thereTo xs n k).length) (fun (k, vo, f, vp, vs, f2, g) => xs.length - k) (0, _, _, _, _, _, _) ⟨rfl, rfl, rfl, rfl, rfl, rfl, trivial⟩ ⟨HR, by omega, rfl⟩ (fun (k, vo, f, vp, vs, f2, g) w4 H4 => ?_)))))))
 obtain ⟨H4, hk, vl⟩ := H4
 refine W_sr (sV rfl (py_lss rfl rfl) (s_nil (W_seq (W_ifd rfl (fun c1 => ?_) (fun c1 => ?_)))))
 ·refine W_skip (W_seq (W_block (W_seq ?_)))
  obtain ⟨eb1, eo1, ea1, ek1, ef1, ee1, ec1, eO1, eH1⟩ := elem_sl (H4.seen 0 rfl) k (by omega)
  have eP1 := H4.look1 0 rfl eO1 eH1
  refine W_reg (sM rfl rfl (sV rfl (py_elz tu112 ts45 rfl rfl ee1 k (by omega) (by omega)) (sV rfl (py_load tu45 rfl rfl ec1) (sA rfl rfl (sA rfl rfl (s_nil (W_seq (W_drw (S := Ext No _) [(0, true), (1, true), (2, true), (3, true), (4, true), (6, true), (7, true), (5, false), (8, true), (9, false)] (by kernel_rfl) (by kernel_rfl) (by kernel_rfl) rfl (fun _ => Ext.refl.drawn _) (fun q1 => ?_)))))))))
  have H5 := eP1.drawn q1
  refine dM rfl rfl rfl (dV rfl rfl (fun zw hx => py_len tu45 rfl) (dV rfl rfl (fun zw hx => py_gtr rfl rfl) (dM rfl rfl rfl (d_case (t := 24) rfl (fun hg1 => ?_) (fun hg1 => ?_)))))
  ·try simp only [decide_eq_true_eq, decide_eq_false_iff_not] at hg1
   refine d_val rfl (wg rfl rfl rfl) rfl rfl (fun zw hx => py_move rfl) (d_val rfl (wg rfl rfl rfl) rfl rfl (fun zw hx => py_field tu167 rfl ts2 rfl rfl) (d_val rfl (wg rfl rfl rfl) rfl rfl (fun zw hx => py_load tu2 rfl rfl (cell_atL (hx.heap (H5.box 0 rfl)) rfl)) ?_))
   obtain ⟨a1, k1, q2⟩ := own_slice (H5.mine 1 rfl)
   cases q2
   refine d_call rfl (wg rfl rfl rfl) rfl rfl (pc_call Tryz.func173 rfl Tryz_nm173 rfl) (Tryz_impl_size_int64 (H5.msees 1 rfl)) (fun hS _ _ r _ => hS.trans r.1.no) (fun v1 w5 r1 => ?_)
   obtain ⟨e4, rfl⟩ := r1
   have H6 := H5.to e4
   refine d_val rfl (wg rfl rfl rfl) rfl rfl (fun zw hx => py_lss rfl rfl) (d_end rfl (wn rfl) rfl rfl (py_pickT rfl rfl) (d_nil (W_ifd rfl (fun c2 => ?_) (fun c2 => ?_))))
   ·have tl := there_len (xs := xs) (n := n) (k := k)
    have hl9 := have_le (xs := xs) (n := n) (k := k)
    refine W_reg (sM rfl rfl (sM rfl rfl (s_lit1 (wn rfl) rfl tu25 Tryz_ty2 rfl rfl rfl rfl H6 (fun b4 w6 e5 g4 H7 => ?_))))
    refine s_app1 (wn rfl) rfl tu25 Tryz_ty2 rfl rfl rfl H7 1 3 rfl rfl (own_bi (by first | assumption | (unfold I64ok; omega))) (by unfold maxLen; omega) (by omega) (fun v2 w7 fp1 H8 => ?_)
    refine sM rfl rfl (sM rfl rfl (s_lit1 (wn rfl) rfl tu112 Tryz_ty45 rfl rfl rfl rfl H8 (fun b5 w8 e6 g5 H9 => ?_)))
    refine s_app1 (α := View) (u := ⟨_, _, _⟩) (wn rfl) rfl tu112 Tryz_ty45 rfl rfl rfl H9 2 4 rfl rfl ⟨rfl, rfl⟩ (by unfold maxLen; omega) (by omega) (fun v3 w9 fp2 H10 => ?_)
    try dsimp only [lNA, lCA, lSZ, lSS] at H10
    obtain ⟨rg1, H11, rh1⟩ := H10.rowApp 1 2 rfl rfl (by first | assumption | omega)
    try dsimp only [lNA, lCA, lSZ, lSS] at H11
    refine sA rfl rfl (sA rfl rfl (s_nil (W_reg (sV rfl (py_add rfl rfl (in64 ⟨by omega, by omega⟩)) (sM rfl rfl (s_nil ?_))))))
    have hy := have_yes (xs := xs) (n := n) (k := k) ⟨by omega, by omega⟩
    have hz := ((H11.ftake 2).dtake 3)
    rw [← hy.1, ← hy.2] at hz
    refine ⟨(k + 1, _, _, _, _, _, _), ⟨rfl, rfl, rfl, rfl, rfl, rfl, trivial⟩, ⟨hz, by omega, (by rw [hy.2, List.length_append, List.length_append]; simp only [List.length_cons, List.length_nil]; omega)⟩, by dsimp only; omega⟩
   ·refine W_skip (W_reg (sV rfl (py_add rfl rfl (in64 ⟨by omega, by omega⟩)) (sM rfl rfl (s_nil ?_))))
    have hy := have_no (xs := xs) (n := n) (k := k) (by omega)
    have hz := (H6.ftake 2)
    refine ⟨(k + 1, _, _, _, _, _, _), ⟨rfl, rfl, rfl, rfl, rfl, rfl, trivial⟩, ⟨(by rw [hy.1, hy.2]; exact hz), by omega, (by rw [hy.2]; exact vl)⟩, by dsimp only; omega⟩
  ·try simp only [decide_eq_true_eq, decide_eq_false_iff_not] at hg1
   refine dKf rfl rfl rfl rfl (dKf rfl rfl rfl rfl (dKf rfl rfl rfl rfl (d_skipA rfl (wog (b := false) rfl rfl rfl) rfl rfl (dKf rfl rfl rfl rfl (d_end rfl (wn rfl) rfl rfl (py_pickF rfl rfl) (d_nil (W_iff rfl (W_skip (W_reg (sV rfl (py_add rfl rfl (in64 ⟨by omega, by omega⟩)) (sM rfl rfl (s_nil ?_))))))))))))
   have hy := have_no (xs := xs) (n := n) (k := k) (by omega)
   have hz := (H5.ftake 2)
   refine ⟨(k + 1, _, _, _, _, _, _), ⟨rfl, rfl, rfl, rfl, rfl, rfl, trivial⟩, ⟨(by rw [hy.1, hy.2]; exact hz), by omega, (by rw [hy.2]; exact vl)⟩, by dsimp only; omega⟩
 ·refine W_exit (W_seq (W_seq ?_))
  obtain rfl : k = xs.length := by omega
  have hl8 := have_le (xs := xs) (n := n) (k := xs.length)
  refine W_drw (S := Ext No _) [(0, true), (2, true), (3, true), (1, false), (4, false)] (by kernel_rfl) (by kernel_rfl) (by kernel_rfl) rfl (fun _ => Ext.refl.drawn _) (fun q3 => ?_)
  have H12 := H4.drawn q3
  refine dM rfl rfl rfl (dV rfl rfl (fun zw hx => py_field tu167 rfl ts2 rfl rfl) (dV rfl rfl (fun zw hx => py_load tu2 rfl rfl (cell_atL (hx.heap (H12.box 0 rfl)) rfl)) ?_))
  obtain ⟨a2, k2, q4⟩ := own_slice (H12.mine 1 rfl)
  cases q4
  refine d_call rfl (wn rfl) rfl rfl (pc_call Tryz.func173 rfl Tryz_nm173 rfl) (Tryz_impl_size_int64 (H12.msees 1 rfl)) (fun hS _ _ r _ => hS.trans r.1.no) (fun v4 w10 r2 => ?_)
  obtain ⟨e7, rfl⟩ := r2
  have H13 := H12.to e7
  refine d_end rfl (wn rfl) rfl rfl (py_lss rfl rfl) (d_nil (W_ifd rfl (fun c3 => ?_) (fun c3 => ?_)))
  ·refine W_sr (sA rfl rfl (sA rfl rfl (s_nil (W_ret (hQ _ _ (fin2 Tryz.results176 rfl rfl ?_))))))
   obtain ⟨e1, e2, _⟩ := dec_no (xs := xs) (n := n) (by omega)
   exact ⟨H13.ext, none, 0, (by rw [e1, e2]; rfl), (by rw [e2]; exact ⟨[], .inr (.inl ⟨rfl, rfl, rfl⟩), .nil, by simp⟩)⟩
  ·refine W_skip (W_seq ?_)
   have tl := there_len (xs := xs) (n := n) (k := xs.length)
   have hl9 := have_le (xs := xs) (n := n) (k := xs.length)
   obtain ⟨pA, pC, pq⟩ := own_slice (H13.mine 2 rfl)
   rw [vl] at pq
   cases pq
   obtain ⟨tf, HV, _⟩ := H13.viewsIn 2 1 rfl rfl vl
   try dsimp only [lNA, lCA, lSZ, lSS] at HV
   have hh : (haveTo xs n xs.length).length = n := by omega
   have hth : (thereTo xs n xs.length).length = n := by omega
   have ht4 := there4 (n := n) h4
   have hra : ∀ i, i < n → 0 ≤ (haveTo xs n xs.length).getD i 0 ∧ (haveTo xs n xs.length).getD i 0 ≤ 500 := fun i hi => by have := have_at (xs := xs) (n := n) (k := xs.length) i (by omega); omega
   have hrz : rises (haveTo xs n xs.length) ((n : Int) + s - 1) = true := by have := have_rises (xs := xs) (n := n) (k := xs.length); rwa [show ((xs.length : Nat) : Int) - 1 = (n : Int) + s - 1 by omega] at this
   refine W_reg (s_lit0 (α := UInt8) (wn rfl) rfl tu45 Tryz_ty5 HV (fun b6 w11 e8 g6 H14 => ?_))
   refine sA rfl rfl (s_nil (W_seq (W_sr (sV rfl (py_field tu167 rfl ts2 rfl rfl) (sV rfl (py_load tu2 rfl rfl (cell_atL (H14.box 0 rfl) rfl)) (sM rfl rfl (s_nil (W_block (W_loop (γ := Nat × Value × List Nat) (fun (i, vo, f3) => [(2, .pointer (some ⟨b1, 0, none⟩)), (6, .slice a2 (haveTo xs n xs.length).length k2), (7, .slice pA (thereTo xs n xs.length).length pC), (10, vo), (47, .int .i64 n), (48, .int .i64 i)]) (fun (i, vo, f3) w' => Sep No w [box b1 (.cells #[.int .i64 n, .int .i64 s] 167), mine [.slice a2 (haveTo xs n xs.length).length k2] (haveTo xs n xs.length) f, gone, mine [vo] (decTo n xs i) f3] _ w' ∧ i ≤ n) (fun (i, vo, f3) => n - i) (0, _, _) ⟨rfl, rfl, rfl, rfl, rfl, rfl, trivial⟩ ⟨H14, by omega⟩ (fun (i, vo, f3) w12 H15 => ?_))))))))))
   obtain ⟨H15, hi⟩ := H15
   refine W_sr (sV rfl (py_lss rfl rfl) (s_nil (W_seq (W_ifd rfl (fun c4 => ?_) (fun c4 => ?_)))))
   ·refine W_skip (W_seq (W_block (W_sr (sM rfl rfl (sA rfl rfl (s_nil ?_))))))
    have bl := way_len (n := n) (s := s) (hs := (haveTo xs n xs.length)) (x := (i : Int)) (by omega) (by omega) hrz (by omega) (by omega)
    have ml := mixTo_len (cs := betw n (haveTo xs n xs.length) i 0) ht4 (k := (thereTo xs n xs.length).length) (Nat.le_refl _)
    have dl := decTo_len (n := n) h4 i
    refine W_reg (sM rfl rfl (sM rfl rfl (sV rfl (py_loadS tu167 rfl ts167 rfl rfl (At.whole (H15.box 0 rfl))) (sM rfl rfl (sM rfl rfl (s_call (wn rfl) rfl rfl (pc_call Tryz.func264 rfl Tryz_nm264 rfl) (Tryz_impl_rowCode_between (H15.msees 1 rfl) (by omega) (by first | assumption | omega) (by assumption) (by first | assumption | omega)) (fun v5 w13 r3 => ?_)))))))
    obtain ⟨e9, r3⟩ := r3
    obtain ⟨fp3, H16⟩ := H15.res e9 r3
    obtain ⟨a3, k3, q5⟩ := own_slice (H16.mine 4 rfl)
    cases q5
    refine s_call (wn rfl) rfl rfl (pc_call Tryz.func263 rfl Tryz_nm263 rfl) (Tryz_impl_mixed (H16.sees 2 rfl) (H16.msees 4 rfl) (by omega) (by omega) (by assumption) (by omega)) (fun v6 w14 r4 => ?_)
    obtain ⟨e10, r4⟩ := r4
    obtain ⟨fp4, H17⟩ := H16.res e10 r4
    obtain ⟨a4, k4, q6⟩ := own_slice (H17.mine 5 rfl)
    cases q6
    refine s_appF (wn rfl) rfl tu45 Tryz_ty5 rfl rfl rfl H17 3 rfl (H17.mine 5 rfl) (by (try simp only [List.length_nil]); unfold maxLen; omega) (by (try simp only [List.length_nil]); omega) (fun v7 w15 fp5 H18 => ?_)
    refine sA rfl rfl (s_nil (W_reg (sV rfl (py_add rfl rfl (in64 ⟨by omega, by omega⟩)) (sM rfl rfl (s_nil ?_)))))
    have hz := (H18.dtake 4)
    rw [decTo_step] at hz
    refine ⟨(i + 1, _, _), ⟨rfl, rfl, rfl, rfl, rfl, rfl, trivial⟩, ⟨hz, by omega⟩, by dsimp only; omega⟩
   ·refine W_exit (W_sr (sM rfl rfl (sA rfl rfl (sA rfl rfl (s_nil (W_ret (hQ _ _ (fin2 Tryz.results176 rfl rfl ?_))))))))
    obtain rfl : n = i := by omega
    obtain ⟨e1, e2, _⟩ := dec_yes (xs := xs) (n := n) (by omega)
    obtain ⟨qa, qc, qq⟩ := own_slice (H15.mine 3 rfl)
    cases qq
    exact ⟨H15.ext, qa, qc, (by rw [e1, e2]), (by rw [e2]; exact H15.out 3 rfl)⟩
theorem Tryz_spec_l2Block {w : World} {n s : Nat} {p : Int} {xs : List (List UInt8)} {xsA : Option Addr} {xsC : Nat} (hn : 1 ≤ n ∧ n ≤ 3 ∧ s ≤ 2) (hl : xs.length = n + s) (h4 : Part xs) (hp : 0 ≤ p ∧ p ≤ (n : Int) + s - 1) (xsS : Sees w [.slice xsA xs.length xsC] xs) : Ret Tryz.prog 312 #[.int .i64 n, .slice xsA xs.length xsC, .int .i64 p] w fun v w' => Ext No w w' ∧ (∃ A C, v = .tuple #[.slice A (blkL n xs p).length C, .bool (decOk n xs)] ∧ Res w w' [.slice A (blkL n xs p).length C] (blkL n xs p)) := by
 have xsL := sL xsS
 obtain ⟨xsF, xsO⟩ := xsS
 refine ret_Q (vs := [.int .i64 n, .slice xsA xs.length xsC, .int .i64 p]) Tryz.func312 rfl Tryz.ntmps312 rfl (fun Q hQ hN => ?_)
 have H0 := Sep.start (w := w) (F := [seen false [.slice xsA xs.length xsC] xs xsF]) (all_cons xsO (by simp))
 refine W_sr (sA rfl rfl (sA rfl rfl (s_nil (W_sr (s_lit0 (α := Int) (wn rfl) rfl tu25 Tryz_ty2 H0 (fun b1 w1 e1 g1 H1 => ?_))))))
 refine sA rfl rfl (s_nil (W_sr (s_lit0 (α := View) (wn rfl) rfl tu112 Tryz_ty45 H1 (fun b2 w2 e2 g2 H2 => ?_))))
 refine sA rfl rfl (s_nil (W_seq (W_seq ?_)))
 have HR := H2.noRows (β := UInt8)
 try dsimp only [lNA, lCA, lSZ, lSS] at HR
 refine W_reg (sA rfl rfl (s_nil (W_block (W_loop (γ := Nat × Value × List Nat × Value × List View × List Nat × List Nat) (fun (k, vo, f, vp, vs, f2, g) => [(0, .int .i64 n), (1, .slice xsA xs.length xsC), (2, .int .i64 p), (8, vo), (9, vp), (10, .int .i64 k)]) (fun (k, vo, f, vp, vs, f2, g) w' => Sep No w [mine [vo] (haveTo xs n k) f, mine [vp] vs f2] [seen false [.slice xsA xs.length xsC] xs xsF, rows vs (thereTo xs n k) g] w' ∧ k ≤ xs.length ∧ vs.length = (thereTo xs n k).length) (fun (k, vo, f, vp, vs, f2, g) => xs.length - k) (0, _, _, _, _, _, _) ⟨rfl, rfl, rfl, rfl, rfl, rfl, trivial⟩ ⟨HR, by omega, rfl⟩ (fun (k, vo, f, vp, vs, f2, g) w3 H3 => ?_)))))
 obtain ⟨H3, hk, vl⟩ := H3
 refine W_seq (W_seq ?_)
 obtain ⟨a1, k1, q1⟩ := own_slice (H3.mine 0 rfl)
 cases q1
 refine W_reg (sM rfl rfl (sM rfl rfl (sV rfl (py_len tu112 rfl) (sV rfl (py_lss rfl rfl) (sM rfl rfl (s_grp 4 (j := 4) (want := true) (t := 21) rfl rfl rfl rfl (fun hg1 kk1 => s_val (wgE rfl rfl rfl hg1) rfl rfl (py_move rfl) (s_val (wgE rfl rfl rfl hg1) rfl rfl (py_len tu25 rfl) (s_val (wgE rfl rfl rfl hg1) rfl rfl (py_move rfl) (s_val (wgE rfl rfl rfl hg1) rfl rfl (py_lss rfl rfl) (kk1 _ _ (kx rfl (kx rfl (kx rfl (kx rfl k0)))) rfl Ext.refl))))) (fun w4 e3 => ?_)))))))
 have H4 := H3.to e3
 refine sV rfl (py_band rfl rfl) (s_nil (W_if rfl (fun c1 => ?_) (fun c1 => ?_)))
 ·simp only [Bool.and_eq_true, decide_eq_true_eq] at c1
  refine W_skip (W_seq (W_block (W_seq ?_)))
  obtain ⟨eb1, eo1, ea1, ek1, ef1, ee1, ec1, eO1, eH1⟩ := elem_sl (H4.seen 0 rfl) k (by omega)
  have eP1 := H4.look1 0 rfl eO1 eH1
  refine W_reg (sM rfl rfl (sM rfl rfl (sV rfl (py_elz tu112 ts45 rfl rfl ee1 k (by omega) (by omega)) (sV rfl (py_load tu45 rfl rfl ec1) (sV rfl (py_len tu45 rfl) (sV rfl (py_gtr rfl rfl) (s_nil (W_ifd rfl (fun c2 => ?_) (fun c2 => ?_)))))))))
  ·refine W_seq ?_
   have tl := there_len (xs := xs) (n := n) (k := k)
   have hl9 := have_le (xs := xs) (n := n) (k := k)
   refine W_reg (sM rfl rfl (sM rfl rfl (s_lit1 (wn rfl) rfl tu25 Tryz_ty2 rfl rfl rfl rfl eP1 (fun b3 w5 e4 g3 H5 => ?_))))
   refine s_app1 (wn rfl) rfl tu25 Tryz_ty2 rfl rfl rfl H5 0 2 rfl rfl (own_bi (by first | assumption | (unfold I64ok; omega))) (by unfold maxLen; omega) (by omega) (fun v1 w6 fp1 H6 => ?_)
   refine sA rfl rfl (s_nil ?_)
   obtain ⟨eb2, eo2, ea2, ek2, ef2, ee2, ec2, eO2, eH2⟩ := elem_sl (H6.seen 0 rfl) k (by omega)
   have eP2 := H6.look1 0 rfl eO2 eH2
   refine W_reg (sM rfl rfl (sM rfl rfl (sM rfl rfl (sV rfl (py_elz tu112 ts45 rfl rfl ee2 k (by omega) (by omega)) (sV rfl (py_load tu45 rfl rfl ec2) (s_lit1 (wn rfl) rfl tu112 Tryz_ty45 rfl rfl rfl rfl eP2 (fun b4 w7 e5 g4 H7 => ?_)))))))
   refine s_app1 (α := View) (u := ⟨_, _, _⟩) (wn rfl) rfl tu112 Tryz_ty45 rfl rfl rfl H7 1 3 rfl rfl ⟨rfl, rfl⟩ (by unfold maxLen; omega) (by omega) (fun v2 w8 fp2 H8 => ?_)
   try dsimp only [lNA, lCA, lSZ, lSS] at H8
   obtain ⟨rg1, H9, rh1⟩ := H8.rowApp 1 3 rfl rfl (by first | assumption | omega)
   try dsimp only [lNA, lCA, lSZ, lSS] at H9
   refine sA rfl rfl (s_nil (W_reg (sM rfl rfl (sV rfl (py_add rfl rfl (in64 ⟨by omega, by omega⟩)) (sA rfl rfl (s_nil ?_))))))
   have hy := have_yes (xs := xs) (n := n) (k := k) ⟨by omega, by omega⟩
   have hz := ((H9.ftake 2).dtake 2)
   rw [← hy.1, ← hy.2] at hz
   refine ⟨(k + 1, _, _, _, _, _, _), ⟨rfl, rfl, rfl, rfl, rfl, rfl, trivial⟩, ⟨hz, by omega, (by rw [hy.2, List.length_append, List.length_append]; simp only [List.length_cons, List.length_nil]; omega)⟩, by dsimp only; omega⟩
  ·refine W_skip (W_reg (sM rfl rfl (sV rfl (py_add rfl rfl (in64 ⟨by omega, by omega⟩)) (sA rfl rfl (s_nil ?_)))))
   have hy := have_no (xs := xs) (n := n) (k := k) (by omega)
   have hz := (eP1.ftake 2)
   refine ⟨(k + 1, _, _, _, _, _, _), ⟨rfl, rfl, rfl, rfl, rfl, rfl, trivial⟩, ⟨(by rw [hy.1, hy.2]; exact hz), by omega, (by rw [hy.2]; exact vl)⟩, by dsimp only; omega⟩
 ·simp only [Bool.and_eq_false_iff, decide_eq_false_iff_not] at c1
  have hend := have_end hk c1
  refine W_exit (W_seq (W_sr (sM rfl rfl (sV rfl (py_len tu25 rfl) (sM rfl rfl (sV rfl (py_lss rfl rfl) (s_nil (W_ifd rfl (fun c3 => ?_) (fun c3 => ?_)))))))))
  ·refine W_sr (sA rfl rfl (sA rfl rfl (s_nil (W_ret (hQ _ _ (fin2 Tryz.results312 rfl rfl ?_))))))
   obtain ⟨e1, _, e2⟩ := dec_no (xs := xs) (n := n) (by rw [hend.1]; omega)
   exact ⟨H4.ext, none, 0, (by rw [e1, e2]; rfl), (by rw [e2]; exact ⟨[], .inr (.inl ⟨rfl, rfl, rfl⟩), .nil, by simp⟩)⟩
  ·refine W_skip (W_seq ?_)
   have hl9 := have_le (xs := xs) (n := n) (k := k)
   have tl := there_len (xs := xs) (n := n) (k := k)
   obtain ⟨pA, pC, pq⟩ := own_slice (H4.mine 1 rfl)
   rw [vl] at pq
   cases pq
   obtain ⟨tf, HV, _⟩ := H4.viewsIn 1 1 rfl rfl vl
   try dsimp only [lNA, lCA, lSZ, lSS] at HV
   have hh : (haveTo xs n k).length = n := by omega
   have hth : (thereTo xs n k).length = n := by omega
   have ht4 := there4 (n := n) h4
   rw [hend.2] at ht4
   have hrz := rises_have (xs := xs) (n := n) (s := s) hl
   rw [hend.1] at hrz
   have hra : ∀ i, i < n → 0 ≤ (haveTo xs n k).getD i 0 ∧ (haveTo xs n k).getD i 0 ≤ 500 := fun i hi => by have := have_at (xs := xs) (n := n) (k := k) i (by omega); omega
   have bl := way_len (n := n) (s := s) (hs := (haveTo xs n k)) (x := p) (by omega) (by omega) hrz (by omega) (by omega)
   refine W_reg (sM rfl rfl (sM rfl rfl (sM rfl rfl (sM rfl rfl (s_call (wn rfl) rfl rfl (pc_call Tryz.func343 rfl Tryz_nm343 rfl) (Tryz_spec_l2Weights (HV.msees 0 rfl) (by omega) (by first | assumption | omega) (by assumption) (by first | assumption | omega)) (fun v3 w9 r1 => ?_))))))
   obtain ⟨e6, r1⟩ := r1
   obtain ⟨fp3, H10⟩ := HV.res e6 r1
   obtain ⟨a2, k2, q2⟩ := own_slice (H10.mine 2 rfl)
   cases q2
   refine s_call (wn rfl) rfl rfl (pc_call Tryz.func273 rfl Tryz_nm273 rfl) (Tryz_spec_l1Mix (H10.sees 2 rfl) (H10.msees 2 rfl) (by omega) (by omega) (by assumption) (by omega)) (fun v4 w10 r2 => ?_)
   obtain ⟨e7, r2⟩ := r2
   obtain ⟨fp4, H11⟩ := H10.res e7 r2
   obtain ⟨a3, k3, q3⟩ := own_slice (H11.mine 3 rfl)
   cases q3
   refine sA rfl rfl (sA rfl rfl (s_nil (W_ret (hQ _ _ (fin2 Tryz.results312 rfl rfl ?_)))))
   obtain ⟨e1, _, e2⟩ := dec_yes (xs := xs) (n := n) (by rw [hend.1]; omega)
   have e3 := e2 p
   rw [decAt, hend.1, hend.2] at e3
   obtain ⟨qa, qc, qq⟩ := own_slice (H11.mine 3 rfl)
   exact ⟨H11.ext, _, _, (by rw [e1, e3]), (by rw [e3]; exact H11.out 3 rfl)⟩
theorem Tryz_spec_l2Decode {w : World} {n s : Nat} {xs : List (List UInt8)} {xsA : Option Addr} {xsC : Nat} (hn : 1 ≤ n ∧ n ≤ 3 ∧ s ≤ 2) (hl : xs.length = n + s) (h4 : Part xs) (xsS : Sees w [.slice xsA xs.length xsC] xs) : Ret Tryz.prog 256 #[.int .i64 n, .slice xsA xs.length xsC] w fun v w' => Ext No w w' ∧ (∃ A C, v = .tuple #[.slice A (decL n xs).length C, .bool (decOk n xs)] ∧ Res w w' [.slice A (decL n xs).length C] (decL n xs)) := by
 have xsL := sL xsS
 obtain ⟨xsF, xsO⟩ := xsS
 refine ret_Q (vs := [.int .i64 n, .slice xsA xs.length xsC]) Tryz.func256 rfl Tryz.ntmps256 rfl (fun Q hQ hN => ?_)
 have H0 := Sep.start (w := w) (F := [seen false [.slice xsA xs.length xsC] xs xsF]) (all_cons xsO (by simp))
 refine W_sr (sA rfl rfl (sA rfl rfl (s_nil (W_sr (s_lit0 (α := UInt8) (wn rfl) rfl tu45 Tryz_ty5 H0 (fun b1 w1 e1 g1 H1 => ?_))))))
 refine sA rfl rfl (s_nil (W_seq (W_sr (sA rfl rfl (s_nil (W_block (W_loop (γ := Nat × Value × List Nat) (fun (i, vo, f) => [(0, .int .i64 n), (1, .slice xsA xs.length xsC), (6, vo), (7, .int .i64 i)]) (fun (i, vo, f) w' => Sep No w [mine [vo] (decTo n xs i) f] [seen false [.slice xsA xs.length xsC] xs xsF] w' ∧ i ≤ n ∧ (0 < i → decOk n xs = true)) (fun (i, vo, f) => n - i) (0, _, _) ⟨rfl, rfl, rfl, rfl, trivial⟩ ⟨H1, by omega, fun h => absurd h (by omega)⟩ (fun (i, vo, f) w2 H2 => ?_))))))))
 obtain ⟨H2, hi, hok⟩ := H2
 refine W_seq (W_sr (sM rfl rfl (sM rfl rfl (sV rfl (py_lss rfl rfl) (s_nil (W_ifd rfl (fun c1 => ?_) (fun c1 => ?_)))))))
 ·refine W_skip (W_seq (W_block (W_sr (sM rfl rfl (sM rfl rfl (sM rfl rfl (s_call (wn rfl) rfl rfl (pc_call Tryz.func312 rfl Tryz_nm312 rfl) (Tryz_spec_l2Block (s := s) (by omega) (by omega) h4 (by omega) (H2.sees 0 rfl)) (fun v1 w3 r1 => ?_))))))))
  obtain ⟨e2, sa1, sk1, rfl, r1⟩ := r1
  obtain ⟨fp1, H3⟩ := H2.res e2 r1
  refine sM rfl rfl (sV rfl (py_extr rfl rfl) (sV rfl (py_extr rfl rfl) (sA rfl rfl (sA rfl rfl (s_nil (W_seq (W_sr (sM rfl rfl (sV rfl (py_not rfl) (s_nil (W_if rfl (fun c2 => ?_) (fun c2 => ?_))))))))))))
  ·refine W_sr (sA rfl rfl (sA rfl rfl (s_nil (W_ret (hQ _ _ (fin2 Tryz.results256 rfl rfl ?_))))))
   obtain ⟨e1, e2, _⟩ := dec_no (xs := xs) (n := n) (dec_lt (not_true c2))
   exact ⟨H3.ext, none, 0, (by rw [e1, e2]; rfl), (by rw [e2]; exact ⟨[], .inr (.inl ⟨rfl, rfl, rfl⟩), .nil, by simp⟩)⟩
  ·refine W_skip ?_
   have hok2 := not_false c2
   have dl := decTo_len (n := n) h4 i
   have bl : (blkL n xs i).length = 4 := by rw [blk_at hok2]; exact decAt_len h4
   refine W_reg (sM rfl rfl (sM rfl rfl (s_appF (wn rfl) rfl tu45 Tryz_ty5 rfl rfl rfl H3 0 rfl (H3.mine 1 rfl) (by (try simp only [List.length_nil]); unfold maxLen; omega) (by (try simp only [List.length_nil]); omega) (fun v2 w4 fp2 H4 => ?_))))
   refine sA rfl rfl (s_nil (W_reg (sM rfl rfl (sV rfl (py_add rfl rfl (in64 ⟨by omega, by omega⟩)) (sA rfl rfl (s_nil ?_))))))
   have hz := (H4.dtake 1)
   rw [blk_at hok2, decAt, decTo_step] at hz
   refine ⟨(i + 1, _, _), ⟨rfl, rfl, rfl, rfl, trivial⟩, ⟨hz, by omega, fun _ => hok2⟩, by dsimp only; omega⟩
 ·refine W_exit (W_sr (sM rfl rfl (sA rfl rfl (sA rfl rfl (s_nil (W_ret (hQ _ _ (fin2 Tryz.results256 rfl rfl ?_))))))))
  obtain rfl : n = i := by omega
  have e1 := hok (by omega)
  have e2 := dec_at e1
  obtain ⟨qa, qc, qq⟩ := own_slice (H2.mine 0 rfl)
  cases qq
  exact ⟨H2.ext, qa, qc, (by rw [e1, e2]), (by rw [e2]; exact H2.out 0 rfl)⟩
end Go.Wk
namespace Go.Wk
open Rp (sz own)
theorem Sep.nilF {M : Nat → Prop} {w0 w : World} {Δ F : List Rsc} {β : Type} [Rp β] (h : Sep M w0 Δ F w) : Sep M w0 Δ (F ++ [Wk.seen false [.slice none 0 0] ([] : List β) []]) w :=
  h.look (r := Wk.seen false [.slice none 0 0] ([] : List β) []) (.inr (.inl ⟨rfl, rfl, rfl⟩)) (by simp [Wk.seen])
end Go.Wk

namespace Go.Wk
open Rp (sz own)
section
variable {M : Nat → Prop} {w0 w w' : World} {Δ F : List Rsc}
theorem Sep.lookS {α β : Type} [Rp α] [Rp β] (h : Sep M w0 Δ F w) (e : Ext No w w') (j : Nat) {s cs fp0} {y : β} (hj : F[j]? = some (Wk.seen s cs y fp0)) {v : List Value} {x : α} {fp} (o : own false w' v x fp) (hfp : ∀ b ∈ fp, b ∈ fp0 ∨ w.heap.size ≤ b) :
    Sep M w0 Δ (F ++ [Wk.seen false v x fp]) w' :=
  (h.to e).look (r := Wk.seen false v x fp) o fun b hb hm => (hfp b hb).elim (fun hb => h.ap _ (List.mem_of_getElem? hj) b hb hm) fun hb => by have := h.lt b hm; omega
end
section
variable {P : Program} {n : Nat} {c : Code} {Q : Post} {L : Env} {w w0 : World} {M : Nat → Prop} {Δ F : List Rsc}
theorem W_loopV {β : Type} [Rp β] {γ : Type} {v0 : Value} {fp0 : List Nat} (f : γ → List (List β)) (g0 : γ) (H : Sep M w0 Δ F w) (i : Nat) (hi : Δ[i]? = some (mine [v0] ([] : List View) fp0)) (j : Nat) (hj : F[j]? = some (rows ([] : List View) ([] : List (List β)) [])) (hf : f g0 = []) (t : Nat) (ht : look L t = some v0)
  (G : List Nat → Prop) (hG : G []) (E2 : Env) (h2 : sub L E2) (E : γ → Env) (I : γ → Prop) (μ : γ → Nat) (hs : sub L (E g0)) (h0 : I g0)
  (round : ∀ g v fp vs gg w, Sep M w0 (Δ.set i (mine [v] vs fp)) (F.set j (rows vs (f g) gg)) w → vs.length = (f g).length → G gg → I g →
   W P n c (again (fun x : γ × Value × List Nat × List View × List Nat => (t, x.2.1) :: (E x.1 ++ E2)) (fun x w' => Sep M w0 (Δ.set i (mine [x.2.1] x.2.2.2.1 x.2.2.1)) (F.set j (rows x.2.2.2.1 (f x.1) x.2.2.2.2)) w' ∧ x.2.2.2.1.length = (f x.1).length ∧ G x.2.2.2.2 ∧ I x.1) (fun x => μ x.1) (g, v, fp, vs, gg) Q) ((t, v) :: (E g ++ E2)) w) : W P n (.loop c) Q L w :=
 W_loop (fun x : γ × Value × List Nat × List View × List Nat => (t, x.2.1) :: (E x.1 ++ E2)) (fun x w' => Sep M w0 (Δ.set i (mine [x.2.1] x.2.2.2.1 x.2.2.1)) (F.set j (rows x.2.2.2.1 (f x.1) x.2.2.2.2)) w' ∧ x.2.2.2.1.length = (f x.1).length ∧ G x.2.2.2.2 ∧ I x.1) (fun x => μ x.1) (g0, v0, fp0, [], [])
  ⟨ht, sub_append hs h2⟩ ⟨by rw [set_getD hi, hf, set_getD hj]; exact H, by simp [hf], hG, h0⟩ fun x w h => round x.1 x.2.1 x.2.2.1 x.2.2.2.1 x.2.2.2.2 w h.1 h.2.1 h.2.2.1 h.2.2.2
end
def blkAt (G : List Drive) (row i : Nat) : List UInt8 := if (G.getD i default).Wiped = true then [] else ((G.getD i default).Blocks.getD row default).Bytes
def blkTo (G : List Drive) (row k : Nat) : List (List UInt8) := (List.range k).map (blkAt G row)
def blkOf (z : Wld) (g row : Int) : List (List UInt8) := blkTo (z.Groups.getD g.toNat []) row.toNat (z.Groups.getD g.toNat []).length
section
variable {G : List Drive} {row k : Nat}
theorem blk_len : (blkTo G row k).length = k := by simp [blkTo]
theorem blk_wiped (h : (G.getD k default).Wiped = true) : blkTo G row (k + 1) = blkTo G row k ++ [[]] := by simp only [blkTo, List.range_succ, List.map_append, List.map_cons, List.map_nil]; rw [blkAt, if_pos h]
theorem blk_live (h : (G.getD k default).Wiped = false) : blkTo G row (k + 1) = blkTo G row k ++ [((G.getD k default).Blocks.getD row default).Bytes] := by
  simp only [blkTo, List.range_succ, List.map_append, List.map_cons, List.map_nil]; rw [blkAt, if_neg (by rw [h]; simp)]
theorem blk_get {i : Nat} (h : i < k) : (blkTo G row k).getD i [] = blkAt G row i := by simp [blkTo, List.getD, h]
def cntBl (xs : List (List UInt8)) : Nat → Nat
  | 0 => 0
  | k + 1 => if 0 < (xs.getD k []).length then cntBl xs k + 1 else cntBl xs k
theorem have_cnt {xs : List (List UInt8)} {n : Nat} : ∀ k, (haveTo xs n k).length = min n (cntBl xs k)
  | 0 => by simp [haveTo, cntBl]
  | k + 1 => by
    have ih := have_cnt (xs := xs) (n := n) k
    rw [cntBl]
    by_cases h : 0 < (xs.getD k []).length
    · rw [if_pos h]
      by_cases h2 : (haveTo xs n k).length < n
      · rw [(have_yes ⟨h, h2⟩).1, List.length_append]; simp; omega
      · rw [(have_no (by omega)).1]; omega
    · rw [if_neg h, (have_no (by omega)).1]; exact ih
theorem cnt_wiped {m : Nat} (h : ∀ i, i < m → (G.getD i default).Wiped = false → 0 < ((G.getD i default).Blocks.getD row default).Bytes.length) : ∀ k, k ≤ m → cntBl (blkTo G row m) k + (wipedTo G k).length = k
  | 0, _ => rfl
  | k + 1, hk => by
    have ih := cnt_wiped h k (by omega)
    rw [cntBl, blk_get (by omega)]
    by_cases hw : (G.getD k default).Wiped = true
    · rw [wiped_yes hw, blkAt, if_pos hw, if_neg (by simp), List.length_append]; simp; omega
    · have hw' : (G.getD k default).Wiped = false := by simpa using hw
      rw [wiped_no hw', blkAt, if_neg hw, if_pos (h k (by omega) hw')]; omega
end
section
variable {z : Wld} {g row : Int}
theorem blk_part (hs : z.Shape.ok = true) (hG : groupsOK z = true) (hg : ins g 0 (z.Shape.Groups + z.Shape.Column - 1) = true) (hr : ins row 0 (z.Shape.Rows - 1) = true) :
    (blkOf z g row).length = z.Shape.Data.toNat + z.Shape.Spare.toNat ∧ Part (blkOf z g row) ∧ decOk z.Shape.Data.toNat (blkOf z g row) = !deadF z g := by
  have hsd := shape_bd hs
  have hgg := groups_get hG
  have hgi := ins_iff.1 hg
  have hri := ins_iff.1 hr
  obtain ⟨hl, hd⟩ := hgg.2 g.toNat (by omega)
  have hb : ∀ i, i < (z.Groups.getD g.toNat []).length → (((z.Groups.getD g.toNat []).getD i default).Blocks.getD row.toNat default).Bytes.length = 4 := fun i hi => by
    obtain ⟨h1, h2⟩ := hd i hi
    exact (blockOK_get (h2 row.toNat (by omega))).2.2
  have hlen : (blkOf z g row).length = (z.Groups.getD g.toNat []).length := blk_len
  refine ⟨by omega, fun i hi => ?_, ?_⟩
  · rw [hlen] at hi
    unfold blkOf
    rw [blk_get hi, blkAt]
    split
    · exact .inr rfl
    · exact .inl (hb i hi)
  · have hc := cnt_wiped (G := z.Groups.getD g.toNat []) (row := row.toNat) (m := (z.Groups.getD g.toNat []).length) (fun i hi _ => by rw [hb i hi]; omega) (z.Groups.getD g.toNat []).length (Nat.le_refl _)
    have hh := have_cnt (xs := blkOf z g row) (n := z.Shape.Data.toNat) (blkOf z g row).length
    rw [hlen] at hh
    unfold decOk deadF wipedL
    rw [hlen, hh]
    change cntBl (blkOf z g row) _ + _ = _ at hc
    rw [← decide_not]
    exact decide_eq_decide.2 (by omega)
def rowB (z : Wld) (g row : Int) : List UInt8 := decL z.Shape.Data.toNat (blkOf z g row)
end
end Go.Wk
namespace Go.Wk
open Go.Proofs Rp
set_option maxRecDepth 10000
theorem Tryz_impl_Shape_row {w : World} {s : Shape} (hs : s.ok = true) : Ret Tryz.prog 175 #[s.v] w fun v w' => Ext No w w' ∧ (v = .agg #[.int .i64 (s.Data.toNat : Nat), .int .i64 (s.Spare.toNat : Nat)]) := by
 have sbd := shape_bd hs
 refine ret_Q (vs := [s.v]) Tryz.func175 rfl Tryz.ntmps175 rfl (fun Q hQ hN => ?_)
 have H0 := Sep.start (w := w) (F := []) (by simp)
 refine W_sr (s_box (wn rfl) rfl rfl H0 (fun b1 w1 e1 g1 H1 => ?_))
 refine s_var (wn rfl) rfl Tryz.zeroValue167 H1 (fun b2 w2 e2 g2 H2 => ?_)
 refine s_nil (W_sr (sV rfl (py_field tu34 rfl ts2 rfl rfl) (sV rfl (py_load tu2 rfl rfl (cell_atL (H2.box 0 rfl) rfl)) (sV rfl (py_field tu34 rfl ts2 rfl rfl) (sV rfl (py_load tu2 rfl rfl (cell_atL (H2.box 0 rfl) rfl)) (sV rfl (py_buildS Tryz_pl167 rfl rfl) (s_stoS (wn rfl) ts167 rfl rfl rfl rfl H2 1 rfl rfl (fun w3 e3 H3 => ?_))))))))
 dsimp only [lNA, lCA, lSZ, lSS, layL] at H3
 refine s_nil (W_ret (hQ _ _ (finC Tryz.results175 rfl (run_loadVarS tu167 rfl ts167 rfl (At.whole (H3.box 1 rfl))) (⟨H3.ext, ?_⟩))))
 rw [Int.toNat_of_nonneg (by omega), Int.toNat_of_nonneg (by omega)]
 rfl
theorem Tryz_impl_World_blocks {w : World} {zb zC9 zC10 zC11 : Nat} {z : Wld} {zA9 zA10 zA11 : Option Addr} {zF9 zF10 zF11 : List Nat} {g row : Int} (zB : w.heap[zb]? = some (.cells [.int .i64 z.Shape.Groups, .int .i64 z.Shape.Column, .int .i64 z.Shape.Data, .int .i64 z.Shape.Spare, .int .i64 z.Shape.Rows, .int .i64 z.Shape.Cap, .int .i64 z.Shape.Batch, .int .i64 z.Shape.Queue, .int .i64 z.Shape.Stage, .slice zA9 z.Groups.length zC9, .slice zA10 z.On.length zC10, .slice zA11 z.Tapes.length zC11, .int .i64 z.Writes, .int .i64 z.Stop, .bool z.Down].toArray 38)) (zK : z.Ok) (zO9 : own false w [.slice zA9 z.Groups.length zC9] z.Groups zF9) (zO10 : own false w [.slice zA10 z.On.length zC10] z.On zF10) (zO11 : own false w [.slice zA11 z.Tapes.length zC11] z.Tapes zF11) (hs : z.Shape.ok = true) (hG : groupsOK z = true) (hg : ins g 0 (z.Shape.Groups + z.Shape.Column - 1) = true) (hr : ins row 0 (z.Shape.Rows - 1) = true) : Ret Tryz.prog 177 #[.pointer (some ⟨zb, 0, none⟩), .int .i64 g, .int .i64 row] w fun v w' => Ext No w w' ∧ (∃ fp, own false w' [v] (blkOf z g row) fp ∧ ∀ b ∈ fp, b ∈ zF9 ∨ w.heap.size ≤ b) := by
 have zK2 := zK
 unfold Wld.Ok Shape.Ok at zK2
 try unfold I64ok at zK2
 try unfold maxLen at zK2
 have zL9 := oL zO9
 have zL10 := oL zO10
 have zL11 := oL zO11
 have sbd := shape_bd hs
 have hgg := groups_get hG
 have hgl := hgg.1
 have hgi := ins_iff.1 hg
 obtain ⟨hdl, hdd⟩ := hgg.2 g.toNat (by omega)
 have hri := ins_iff.1 hr
 refine ret_Q (vs := [.pointer (some ⟨zb, 0, none⟩), .int .i64 g, .int .i64 row]) Tryz.func177 rfl Tryz.ntmps177 rfl (fun Q hQ hN => ?_)
 have H0 := Sep.start (w := w) (F := [box zb (.cells [.int .i64 z.Shape.Groups, .int .i64 z.Shape.Column, .int .i64 z.Shape.Data, .int .i64 z.Shape.Spare, .int .i64 z.Shape.Rows, .int .i64 z.Shape.Cap, .int .i64 z.Shape.Batch, .int .i64 z.Shape.Queue, .int .i64 z.Shape.Stage, .slice zA9 z.Groups.length zC9, .slice zA10 z.On.length zC10, .slice zA11 z.Tapes.length zC11, .int .i64 z.Writes, .int .i64 z.Stop, .bool z.Down].toArray 38), seen false [.slice zA9 z.Groups.length zC9] z.Groups zF9, seen false [.slice zA10 z.On.length zC10] z.On zF10, seen false [.slice zA11 z.Tapes.length zC11] z.Tapes zF11]) (all_cons (by exact zB) (all_cons zO9 (all_cons zO10 (all_cons zO11 (by simp)))))
 refine W_sr (sA rfl rfl (s_nil (W_sr (s_lit0 (α := View) (wn rfl) rfl tu112 Tryz_ty45 H0 (fun b1 w1 e1 g1 H1 => ?_)))))
 refine sA rfl rfl (s_nil (W_seq (W_seq ?_)))
 obtain ⟨eb1, eo1, ea1, ek1, ef1, ee1, ec1, eO1, eH1⟩ := elem_sl (H1.seen 1 rfl) g.toNat (by omega)
 have eP1 := H1.look1 1 rfl eO1 eH1
 refine W_reg (sM rfl rfl (sV rfl (py_nil rfl) (sV rfl (py_field tu38 rfl ts35 rfl rfl) (sV rfl (py_load tu35 rfl rfl (cell_atL (eP1.fbox 0 rfl) rfl)) (sM rfl rfl (sV rfl (py_elz tu35 ts142 rfl rfl ee1 g.toNat (by omega) (by omega)) (sV rfl (py_load tu142 rfl rfl ec1) (sV rfl (py_len tu142 rfl) (sM rfl rfl (s_nil (W_block ?_)))))))))))
 have H3 := eP1.noRows (β := UInt8)
 try dsimp only [lNA, lCA, lSZ, lSS] at H3
 refine W_loopV (β := UInt8) (γ := Nat) (fun k => blkTo (z.Groups.getD g.toNat []) row.toNat k) 0 H3 0 rfl 5 rfl rfl 7 rfl (fun gg => ∀ b ∈ gg, b ∈ zF9) (by simp) [(2, _), (6, _), (17, _), (18, _)] ⟨rfl, rfl, rfl, rfl, trivial⟩ (fun k => [(19, .int .i64 k)]) (fun k => k ≤ (z.Groups.getD g.toNat []).length ∧ True) (fun k => (z.Groups.getD g.toNat []).length - k) ⟨rfl, trivial⟩ ⟨by omega, trivial⟩ (fun k vA1 fA1 vs1 gA1 w2 H2 vl vg ⟨hk, _⟩ => ?_)
 dsimp only [lCA, lNA, lSZ, lSS] at H2 ⊢
 refine W_sr (sV rfl (py_lss rfl rfl) (s_nil (W_seq (W_ifd rfl (fun c1 => ?_) (fun c1 => ?_)))))
 ·refine W_skip (W_seq (W_block (W_seq ?_)))
  obtain ⟨eb2, eo2, es1, ef2, ee2, ec2, eO2, eH2, em1⟩ := elem_st (H2.seen 4 rfl) k (by omega)
  obtain ⟨ea2, ek2, eg1, rfl, eq1, eK1, eo3⟩ := own_Drive eO2
  have eP2 := H2.look1 4 rfl eo3 (fun b hb => eH2 b (by rw [eq1]; simp [hb]))
  have eL1 := oL eo3
  refine W_reg (sV rfl (py_elz tu142 ts180 rfl rfl ee2 k (by omega) (by omega)) (sV rfl (py_loadS tu180 rfl ts180 rfl rfl ec2) (s_var (wn rfl) rfl Tryz.zeroValue180 eP2 (fun b2 w3 e2 g2 H4 => ?_))))
  refine s_stoS (wn rfl) ts180 rfl rfl rfl rfl H4 1 rfl rfl (fun w4 e3 H5 => ?_)
  dsimp only [lNA, lCA, lSZ, lSS, layL] at H5
  refine s_nil (W_sr (sV rfl (py_field tu180 rfl ts4 rfl rfl) (sV rfl (py_load tu4 rfl rfl (cell_atL (H5.box 1 rfl) rfl)) (s_nil (W_if rfl (fun c2 => ?_) (fun c2 => ?_))))))
  ·have bl := blk_len (G := (z.Groups.getD g.toNat [])) (row := row.toNat) (k := k)
   refine W_reg (sM rfl rfl (s_lit1 (wn rfl) rfl tu112 Tryz_ty45 rfl rfl rfl rfl H5 (fun b3 w5 e4 g3 H6 => ?_)))
   have H8 := H6.nilF (β := UInt8)
   try dsimp only [lNA, lCA, lSZ, lSS] at H8
   refine s_app1 (α := View) (u := ⟨_, _, _⟩) (wn rfl) rfl tu112 Tryz_ty45 rfl rfl rfl H8 0 2 rfl rfl ⟨rfl, rfl⟩ (by unfold maxLen; omega) (by omega) (fun v1 w6 fp1 H7 => ?_)
   try dsimp only [lNA, lCA, lSZ, lSS] at H7
   obtain ⟨rg1, H9, rh1⟩ := H7.rowApp (y := ([] : List UInt8)) 5 7 rfl rfl (by first | assumption | omega)
   try dsimp only [lNA, lCA, lSZ, lSS] at H9
   refine sA rfl rfl (s_nil (W_reg (sV rfl (py_add rfl rfl (in64 ⟨by omega, by omega⟩)) (sM rfl rfl (s_nil ?_)))))
   have bq := blk_wiped (row := row.toNat) c2
   rw [← bq] at H9
   exact ⟨(k + 1, _, _, _, _), ⟨rfl, rfl, rfl, rfl, rfl, rfl, trivial⟩, ⟨((H9.ftake 6).dtake 1), by rw [bq, List.length_append, List.length_append, vl]; rfl, (fun b hb => (rh1 b hb).elim (vg b) (fun h => absurd h (by simp))), by omega, trivial⟩, by dsimp only; omega⟩
  ·have bl := blk_len (G := (z.Groups.getD g.toNat [])) (row := row.toNat) (k := k)
   have hbl := hdd k (by omega)
   obtain ⟨eb3, eo4, es2, ef3, ee3, ec3, eO3, eH3, em2⟩ := elem_st (H5.seen 6 rfl) row.toNat (by omega)
   obtain ⟨ea3, ek3, eg2, rfl, eq2, eK2, eo5⟩ := own_Block eO3
   have eK2U := eK2
   unfold Block.Ok at eK2U
   try unfold I64ok at eK2U
   try unfold maxLen at eK2U
   have eP3 := H5.look1 6 rfl eo5 (fun b hb => eH3 b (by rw [eq2]; simp [hb]))
   have eL2 := oL eo5
   refine W_reg (sM rfl rfl (sV rfl (py_field tu180 rfl ts178 rfl rfl) (sV rfl (py_load tu178 rfl rfl (cell_atL (eP3.box 1 rfl) rfl)) (sM rfl rfl (sV rfl (py_elz tu178 ts182 rfl rfl ee3 row.toNat (by omega) (by omega)) (sV rfl (py_field tu182 rfl ts45 rfl rfl) (sV rfl (py_load tu45 rfl rfl (at_cell ec3 1 rfl)) (s_lit1 (wn rfl) rfl tu112 Tryz_ty45 rfl rfl rfl rfl eP3 (fun b4 w7 e5 g4 H10 => ?_)))))))))
   refine s_app1 (α := View) (u := ⟨_, _, _⟩) (wn rfl) rfl tu112 Tryz_ty45 rfl rfl rfl H10 0 2 rfl rfl ⟨rfl, rfl⟩ (by unfold maxLen; omega) (by omega) (fun v2 w8 fp2 H11 => ?_)
   try dsimp only [lNA, lCA, lSZ, lSS] at H11
   obtain ⟨rg2, H12, rh2⟩ := H11.rowApp 5 7 rfl rfl (by first | assumption | omega)
   try dsimp only [lNA, lCA, lSZ, lSS] at H12
   refine sA rfl rfl (s_nil (W_reg (sV rfl (py_add rfl rfl (in64 ⟨by omega, by omega⟩)) (sM rfl rfl (s_nil ?_)))))
   have bq := blk_live (row := row.toNat) c2
   rw [← bq] at H12
   exact ⟨(k + 1, _, _, _, _), ⟨rfl, rfl, rfl, rfl, rfl, rfl, trivial⟩, ⟨((H12.ftake 6).dtake 1), by rw [bq, List.length_append, List.length_append, vl]; rfl, (fun b hb => (rh2 b hb).elim (vg b) (fun h => eH1 _ (eH2 _ (by rw [eq1]; exact eH3 _ (by rw [eq2]; exact h))))), by omega, trivial⟩, by dsimp only; omega⟩
 ·refine W_exit (W_sr (sM rfl rfl (sA rfl rfl (s_nil (rT hQ Tryz.results177 rfl ?_)))))
  obtain rfl : k = (z.Groups.getD g.toNat []).length := by omega
  obtain ⟨fpV, HV, hfV⟩ := H2.viewsIn 0 5 rfl rfl vl
  exact ⟨H2.ext, fpV, (HV.seen 6 rfl), fun b hb => (hfV b hb).elim (fun h => .inr (H2.freshD 0 rfl b h)) (fun h => .inl (vg b h))⟩
theorem Tryz_impl_World_rowBytes {w : World} {zb zC9 zC10 zC11 : Nat} {z : Wld} {zA9 zA10 zA11 : Option Addr} {zF9 zF10 zF11 : List Nat} {g row : Int} (zB : w.heap[zb]? = some (.cells [.int .i64 z.Shape.Groups, .int .i64 z.Shape.Column, .int .i64 z.Shape.Data, .int .i64 z.Shape.Spare, .int .i64 z.Shape.Rows, .int .i64 z.Shape.Cap, .int .i64 z.Shape.Batch, .int .i64 z.Shape.Queue, .int .i64 z.Shape.Stage, .slice zA9 z.Groups.length zC9, .slice zA10 z.On.length zC10, .slice zA11 z.Tapes.length zC11, .int .i64 z.Writes, .int .i64 z.Stop, .bool z.Down].toArray 38)) (zK : z.Ok) (zO9 : own false w [.slice zA9 z.Groups.length zC9] z.Groups zF9) (zO10 : own false w [.slice zA10 z.On.length zC10] z.On zF10) (zO11 : own false w [.slice zA11 z.Tapes.length zC11] z.Tapes zF11) (hs : z.Shape.ok = true) (hG : groupsOK z = true) (hg : ins g 0 (z.Shape.Groups + z.Shape.Column - 1) = true) (hr : ins row 0 (z.Shape.Rows - 1) = true) : Ret Tryz.prog 102 #[.pointer (some ⟨zb, 0, none⟩), .int .i64 g, .int .i64 row] w fun v w' => Ext No w w' ∧ (Res w w' [v] (rowB z g row)) := by
 have zK2 := zK
 unfold Wld.Ok Shape.Ok at zK2
 try unfold I64ok at zK2
 try unfold maxLen at zK2
 have zL9 := oL zO9
 have zL10 := oL zO10
 have zL11 := oL zO11
 have sbd := shape_bd hs
 have hgg := groups_get hG
 have hgl := hgg.1
 have hgi := ins_iff.1 hg
 obtain ⟨hdl, hdd⟩ := hgg.2 g.toNat (by omega)
 have hri := ins_iff.1 hr
 obtain ⟨pl, pp, pd⟩ := blk_part (row := row) hs hG hg hr
 refine ret_Q (vs := [.pointer (some ⟨zb, 0, none⟩), .int .i64 g, .int .i64 row]) Tryz.func102 rfl Tryz.ntmps102 rfl (fun Q hQ hN => ?_)
 have H0 := Sep.start (w := w) (F := [box zb (.cells [.int .i64 z.Shape.Groups, .int .i64 z.Shape.Column, .int .i64 z.Shape.Data, .int .i64 z.Shape.Spare, .int .i64 z.Shape.Rows, .int .i64 z.Shape.Cap, .int .i64 z.Shape.Batch, .int .i64 z.Shape.Queue, .int .i64 z.Shape.Stage, .slice zA9 z.Groups.length zC9, .slice zA10 z.On.length zC10, .slice zA11 z.Tapes.length zC11, .int .i64 z.Writes, .int .i64 z.Stop, .bool z.Down].toArray 38), seen false [.slice zA9 z.Groups.length zC9] z.Groups zF9, seen false [.slice zA10 z.On.length zC10] z.On zF10, seen false [.slice zA11 z.Tapes.length zC11] z.Tapes zF11]) (all_cons (by exact zB) (all_cons zO9 (all_cons zO10 (all_cons zO11 (by simp)))))
 refine W_sr (sA rfl rfl (s_nil (W_sr (sM rfl rfl (sV rfl (py_nil rfl) (sV rfl (py_field tu38 rfl ts34 rfl rfl) (sV rfl (py_loadS tu34 rfl ts34 rfl rfl (At.sub (H0.fbox 0 rfl) 9)) (s_call (wn rfl) rfl rfl (pc_call Tryz.func175 rfl Tryz_nm175 rfl) (Tryz_impl_Shape_row (by assumption)) (fun v1 w1 r1 => ?_)))))))))
 obtain ⟨e1, rfl⟩ := r1
 have H1 := H0.to e1
 refine sM rfl rfl (sM rfl rfl (sM rfl rfl (s_call (wn rfl) rfl rfl (pc_call Tryz.func177 rfl Tryz_nm177 rfl) (Tryz_impl_World_blocks (H1.fbox 0 rfl) (by assumption) (own_weak (H1.seen 1 rfl)) (own_weak (H1.seen 2 rfl)) (own_weak (H1.seen 3 rfl)) (by assumption) (by assumption) (by assumption) (by assumption)) (fun v2 w2 r2 => ?_))))
 obtain ⟨e2, fpS1, oS1, hS1⟩ := r2
 have H2 := H1.lookS e2 1 rfl oS1 hS1
 obtain ⟨a1, k1, q1⟩ := own_slice (H2.seen 4 rfl)
 cases q1
 refine s_call (wn rfl) rfl rfl (pc_call Tryz.func176 rfl Tryz_nm176 rfl) (Tryz_impl_rowCode_decode (n := z.Shape.Data.toNat) (s := z.Shape.Spare.toNat) (by omega) pl pp (H2.sees 4 rfl)) (fun v3 w3 r3 => ?_)
 obtain ⟨e3, sa1, sk1, rfl, r3⟩ := r3
 obtain ⟨fp1, H3⟩ := H2.res e3 r3
 refine sM rfl rfl (sV rfl (py_extr rfl rfl) (sV rfl (py_extr rfl rfl) (sA rfl rfl (sA rfl rfl (s_nil (W_sr (sM rfl rfl (sA rfl rfl (s_nil (rT hQ Tryz.results102 rfl ?_))))))))))
 exact ⟨H3.ext, H3.out 0 rfl⟩
theorem Tryz_spec_l7Bytes {w : World} {zb zC9 zC10 zC11 : Nat} {z : Wld} {zA9 zA10 zA11 : Option Addr} {g row : Int} (zB : w.heap[zb]? = some (.cells [.int .i64 z.Shape.Groups, .int .i64 z.Shape.Column, .int .i64 z.Shape.Data, .int .i64 z.Shape.Spare, .int .i64 z.Shape.Rows, .int .i64 z.Shape.Cap, .int .i64 z.Shape.Batch, .int .i64 z.Shape.Queue, .int .i64 z.Shape.Stage, .slice zA9 z.Groups.length zC9, .slice zA10 z.On.length zC10, .slice zA11 z.Tapes.length zC11, .int .i64 z.Writes, .int .i64 z.Stop, .bool z.Down].toArray 38)) (zK : z.Ok) (zS9 : Sees w [.slice zA9 z.Groups.length zC9] z.Groups) (zS10 : Sees w [.slice zA10 z.On.length zC10] z.On) (zS11 : Sees w [.slice zA11 z.Tapes.length zC11] z.Tapes) (hs : z.Shape.ok = true) (hG : groupsOK z = true) (hg : ins g 0 (z.Shape.Groups + z.Shape.Column - 1) = true) (hr : ins row 0 (z.Shape.Rows - 1) = true) : Ret Tryz.prog 166 #[.pointer (some ⟨zb, 0, none⟩), .int .i64 g, .int .i64 row] w fun v w' => Ext No w w' ∧ (∃ A C, v = .tuple #[.slice A (rowB z g row).length C, .bool (!deadF z g)] ∧ Res w w' [.slice A (rowB z g row).length C] (rowB z g row)) := by
 have zK2 := zK
 unfold Wld.Ok Shape.Ok at zK2
 try unfold I64ok at zK2
 try unfold maxLen at zK2
 have zL9 := sL zS9
 obtain ⟨zF9, zO9⟩ := zS9
 have zL10 := sL zS10
 obtain ⟨zF10, zO10⟩ := zS10
 have zL11 := sL zS11
 obtain ⟨zF11, zO11⟩ := zS11
 have sbd := shape_bd hs
 have hgg := groups_get hG
 have hgl := hgg.1
 have hgi := ins_iff.1 hg
 obtain ⟨hdl, hdd⟩ := hgg.2 g.toNat (by omega)
 have hri := ins_iff.1 hr
 obtain ⟨pl, pp, pd⟩ := blk_part (row := row) hs hG hg hr
 refine ret_Q (vs := [.pointer (some ⟨zb, 0, none⟩), .int .i64 g, .int .i64 row]) Tryz.func166 rfl Tryz.ntmps166 rfl (fun Q hQ hN => ?_)
 have H0 := Sep.start (w := w) (F := [box zb (.cells [.int .i64 z.Shape.Groups, .int .i64 z.Shape.Column, .int .i64 z.Shape.Data, .int .i64 z.Shape.Spare, .int .i64 z.Shape.Rows, .int .i64 z.Shape.Cap, .int .i64 z.Shape.Batch, .int .i64 z.Shape.Queue, .int .i64 z.Shape.Stage, .slice zA9 z.Groups.length zC9, .slice zA10 z.On.length zC10, .slice zA11 z.Tapes.length zC11, .int .i64 z.Writes, .int .i64 z.Stop, .bool z.Down].toArray 38), seen false [.slice zA9 z.Groups.length zC9] z.Groups zF9, seen false [.slice zA10 z.On.length zC10] z.On zF10, seen false [.slice zA11 z.Tapes.length zC11] z.Tapes zF11]) (all_cons (by exact zB) (all_cons zO9 (all_cons zO10 (all_cons zO11 (by simp)))))
 refine W_sr (sA rfl rfl (sA rfl rfl (s_nil (W_sr (s_lit0 (α := View) (wn rfl) rfl tu112 Tryz_ty45 H0 (fun b1 w1 e1 g1 H1 => ?_))))))
 refine sA rfl rfl (s_nil (W_seq (W_sr (sA rfl rfl (s_nil (W_block ?_))))))
 have H3 := H1.noRows (β := UInt8)
 try dsimp only [lNA, lCA, lSZ, lSS] at H3
 refine W_loopV (β := UInt8) (γ := Nat) (fun k => blkTo (z.Groups.getD g.toNat []) row.toNat k) 0 H3 0 rfl 4 rfl rfl 8 rfl (fun _ => True) trivial [(0, _), (1, _), (2, _), (6, _), (7, _)] ⟨rfl, rfl, rfl, rfl, rfl, trivial⟩ (fun k => [(9, .int .i64 k)]) (fun k => k ≤ (z.Groups.getD g.toNat []).length ∧ True) (fun k => (z.Groups.getD g.toNat []).length - k) ⟨rfl, trivial⟩ ⟨by omega, trivial⟩ (fun k vA1 fA1 vs1 gA1 w2 H2 vl vg ⟨hk, _⟩ => ?_)
 dsimp only [lCA, lNA, lSZ, lSS] at H2 ⊢
 refine W_seq (W_seq ?_)
 obtain ⟨eb1, eo1, ea1, ek1, ef1, ee1, ec1, eO1, eH1⟩ := elem_sl (H2.seen 1 rfl) g.toNat (by omega)
 have eP1 := H2.look1 1 rfl eO1 eH1
 refine W_reg (sM rfl rfl (sM rfl rfl (sV rfl (py_nil rfl) (sV rfl (py_field tu38 rfl ts35 rfl rfl) (sV rfl (py_load tu35 rfl rfl (cell_atL (eP1.fbox 0 rfl) rfl)) (sM rfl rfl (sV rfl (py_elz tu35 ts142 rfl rfl ee1 g.toNat (by omega) (by omega)) (sV rfl (py_load tu142 rfl rfl ec1) (sV rfl (py_len tu142 rfl) (sV rfl (py_lss rfl rfl) (s_nil (W_ifd rfl (fun c1 => ?_) (fun c1 => ?_)))))))))))))
 ·refine W_skip (W_seq (W_block (W_seq ?_)))
  obtain ⟨eb2, eo2, ea2, ek2, ef2, ee2, ec2, eO2, eH2⟩ := elem_sl (eP1.seen 1 rfl) g.toNat (by omega)
  have eP2 := eP1.look1 1 rfl eO2 eH2
  obtain ⟨eb3, eo3, es1, ef3, ee3, ec3, eO3, eH3, em1⟩ := elem_st (eP2.seen 6 rfl) k (by omega)
  obtain ⟨ea3, ek3, eg1, rfl, eq1, eK1, eo4⟩ := own_Drive eO3
  have eP3 := eP2.look1 6 rfl eo4 (fun b hb => eH3 b (by rw [eq1]; simp [hb]))
  have eL1 := oL eo4
  refine W_reg (sM rfl rfl (sV rfl (py_nil rfl) (sV rfl (py_field tu38 rfl ts35 rfl rfl) (sV rfl (py_load tu35 rfl rfl (cell_atL (eP3.fbox 0 rfl) rfl)) (sM rfl rfl (sV rfl (py_elz tu35 ts142 rfl rfl ee2 g.toNat (by omega) (by omega)) (sV rfl (py_load tu142 rfl rfl ec2) (sM rfl rfl (sV rfl (py_elz tu142 ts180 rfl rfl ee3 k (by omega) (by omega)) (sV rfl (py_field tu180 rfl ts4 rfl rfl) (sV rfl (py_load tu4 rfl rfl (at_cell ec3 0 rfl)) (s_nil (W_if rfl (fun c2 => ?_) (fun c2 => ?_))))))))))))))
  ·have bl := blk_len (G := (z.Groups.getD g.toNat [])) (row := row.toNat) (k := k)
   refine W_reg (sM rfl rfl (s_lit1 (wn rfl) rfl tu112 Tryz_ty45 rfl rfl rfl rfl eP3 (fun b2 w3 e2 g2 H4 => ?_)))
   have H6 := H4.nilF (β := UInt8)
   try dsimp only [lNA, lCA, lSZ, lSS] at H6
   refine s_app1 (α := View) (u := ⟨_, _, _⟩) (wn rfl) rfl tu112 Tryz_ty45 rfl rfl rfl H6 0 1 rfl rfl ⟨rfl, rfl⟩ (by unfold maxLen; omega) (by omega) (fun v1 w4 fp1 H5 => ?_)
   try dsimp only [lNA, lCA, lSZ, lSS] at H5
   obtain ⟨rg1, H7, rh1⟩ := H5.rowApp (y := ([] : List UInt8)) 4 8 rfl rfl (by first | assumption | omega)
   try dsimp only [lNA, lCA, lSZ, lSS] at H7
   refine sA rfl rfl (s_nil (W_reg (sM rfl rfl (sV rfl (py_add rfl rfl (in64 ⟨by omega, by omega⟩)) (sA rfl rfl (s_nil ?_))))))
   have bq := blk_wiped (row := row.toNat) c2
   rw [← bq] at H7
   exact ⟨(k + 1, _, _, _, _), ⟨rfl, rfl, rfl, rfl, rfl, rfl, rfl, trivial⟩, ⟨((H7.ftake 5).dtake 1), by rw [bq, List.length_append, List.length_append, vl]; rfl, trivial, by omega, trivial⟩, by dsimp only; omega⟩
  ·have bl := blk_len (G := (z.Groups.getD g.toNat [])) (row := row.toNat) (k := k)
   have hbl := hdd k (by omega)
   obtain ⟨eb4, eo5, ea4, ek4, ef4, ee4, ec4, eO4, eH4⟩ := elem_sl (eP3.seen 1 rfl) g.toNat (by omega)
   have eP4 := eP3.look1 1 rfl eO4 eH4
   obtain ⟨eb5, eo6, es2, ef5, ee5, ec5, eO5, eH5, em2⟩ := elem_st (eP4.seen 8 rfl) k (by omega)
   obtain ⟨ea5, ek5, eg2, rfl, eq2, eK2, eo7⟩ := own_Drive eO5
   have eP5 := eP4.look1 8 rfl eo7 (fun b hb => eH5 b (by rw [eq2]; simp [hb]))
   have eL2 := oL eo7
   obtain ⟨eb6, eo8, es3, ef6, ee6, ec6, eO6, eH6, em3⟩ := elem_st (eP5.seen 9 rfl) row.toNat (by omega)
   obtain ⟨ea6, ek6, eg3, rfl, eq3, eK3, eo9⟩ := own_Block eO6
   have eK3U := eK3
   unfold Block.Ok at eK3U
   try unfold I64ok at eK3U
   try unfold maxLen at eK3U
   have eP6 := eP5.look1 9 rfl eo9 (fun b hb => eH6 b (by rw [eq3]; simp [hb]))
   have eL3 := oL eo9
   refine W_reg (sM rfl rfl (sM rfl rfl (sV rfl (py_nil rfl) (sV rfl (py_field tu38 rfl ts35 rfl rfl) (sV rfl (py_load tu35 rfl rfl (cell_atL (eP6.fbox 0 rfl) rfl)) (sM rfl rfl (sV rfl (py_elz tu35 ts142 rfl rfl ee4 g.toNat (by omega) (by omega)) (sV rfl (py_load tu142 rfl rfl ec4) (sM rfl rfl (sV rfl (py_elz tu142 ts180 rfl rfl ee5 k (by omega) (by omega)) (sV rfl (py_field tu180 rfl ts178 rfl rfl) (sV rfl (py_load tu178 rfl rfl (at_cell ec5 1 rfl)) (sM rfl rfl (sV rfl (py_elz tu178 ts182 rfl rfl ee6 row.toNat (by omega) (by omega)) (sV rfl (py_field tu182 rfl ts45 rfl rfl) (sV rfl (py_load tu45 rfl rfl (at_cell ec6 1 rfl)) (s_lit1 (wn rfl) rfl tu112 Tryz_ty45 rfl rfl rfl rfl eP6 (fun b3 w5 e3 g3 H8 => ?_))))))))))))))))))
   refine s_app1 (α := View) (u := ⟨_, _, _⟩) (wn rfl) rfl tu112 Tryz_ty45 rfl rfl rfl H8 0 1 rfl rfl ⟨rfl, rfl⟩ (by unfold maxLen; omega) (by omega) (fun v2 w6 fp2 H9 => ?_)
   try dsimp only [lNA, lCA, lSZ, lSS] at H9
   obtain ⟨rg2, H10, rh2⟩ := H9.rowApp 4 10 rfl rfl (by first | assumption | omega)
   try dsimp only [lNA, lCA, lSZ, lSS] at H10
   refine sA rfl rfl (s_nil (W_reg (sM rfl rfl (sV rfl (py_add rfl rfl (in64 ⟨by omega, by omega⟩)) (sA rfl rfl (s_nil ?_))))))
   have bq := blk_live (row := row.toNat) c2
   rw [← bq] at H10
   exact ⟨(k + 1, _, _, _, _), ⟨rfl, rfl, rfl, rfl, rfl, rfl, rfl, trivial⟩, ⟨((H10.ftake 5).dtake 1), by rw [bq, List.length_append, List.length_append, vl]; rfl, trivial, by omega, trivial⟩, by dsimp only; omega⟩
 ·refine W_exit (W_seq ?_)
  obtain rfl : k = (z.Groups.getD g.toNat []).length := by omega
  obtain ⟨pA, pC, pq⟩ := own_slice (eP1.mine 0 rfl)
  rw [vl, show (blkTo (z.Groups.getD g.toNat []) row.toNat (z.Groups.getD g.toNat []).length).length = (blkOf z g row).length from by rw [blkOf]] at pq
  cases pq
  obtain ⟨tf, HV, _⟩ := eP1.viewsIn 0 4 rfl rfl vl
  try dsimp only [lNA, lCA, lSZ, lSS] at HV
  refine W_reg (sM rfl rfl (sV rfl (py_nil rfl) (sV rfl (py_field tu38 rfl ts34 rfl rfl) (sV rfl (py_field tu34 rfl ts2 rfl rfl) (sV rfl (py_load tu2 rfl rfl (cell_atL (HV.fbox 0 rfl) rfl)) (sM rfl rfl (s_call (wn rfl) rfl rfl (pc_call Tryz.func256 rfl Tryz_nm256 rfl) (by have hS : Sees _ [.slice pA (blkOf z g row).length pC] (blkOf z g row) := HV.sees 6 rfl; have lc := Tryz_spec_l2Decode (n := z.Shape.Data.toNat) (s := z.Shape.Spare.toNat) (xs := blkOf z g row) (by omega) pl pp hS; rw [Int.toNat_of_nonneg (show 0 ≤ z.Shape.Data by omega)] at lc; exact lc) (fun v3 w7 r1 => ?_))))))))
  obtain ⟨e4, sa1, sk1, rfl, r1⟩ := r1
  obtain ⟨fp3, H11⟩ := HV.res e4 r1
  refine sV rfl (py_extr rfl rfl) (sV rfl (py_extr rfl rfl) (sA rfl rfl (sA rfl rfl (s_nil (W_ret (hQ _ _ (fin2 Tryz.results166 rfl rfl ?_)))))))
  exact ⟨H11.ext, _, _, (by rw [← pd]; rfl), H11.out 1 rfl⟩
end Go.Wk
namespace Go.Wk
section
variable {z : Wld} {g row most : Int} {xs : List UInt8}
theorem rowB_len (hs : z.Shape.ok = true) (hG : groupsOK z = true) (hg : ins g 0 (z.Shape.Groups + z.Shape.Column - 1) = true) (hr : ins row 0 (z.Shape.Rows - 1) = true) (hd : deadF z g = false) : ((rowB z g row).length : Int) = z.Shape.Data * 4 := by
  have sbd := shape_bd hs
  obtain ⟨_, hp, hd2⟩ := blk_part hs hG hg hr
  have hk : decOk z.Shape.Data.toNat (blkOf z g row) = true := by rw [hd2, hd]; rfl
  unfold rowB decL
  rw [if_pos hk, decTo_len hp]
  omega
end
end Go.Wk
namespace Go.Wk
open Go.Proofs Rp
set_option maxRecDepth 10000
theorem Tryz_impl_factor {w : World} {i j : Int} (hj : 0 ≤ j ∧ j ≤ 900) : Ret Tryz.prog 288 #[.int .i64 i, .int .i64 j] w fun v w' => Ext No w w' ∧ (v = .int .u8 (cauchy (8 + j) i).toNat) := by
 refine ret_Q (vs := [.int .i64 i, .int .i64 j]) Tryz.func288 rfl Tryz.ntmps288 rfl (fun Q hQ hN => ?_)
 have H0 := Sep.start (w := w) (F := []) (by simp)
 refine W_sr (sA rfl rfl (s_nil (W_sr (sM rfl rfl (sV rfl (py_add rfl rfl (in64 ⟨by omega, by omega⟩)) (sV rfl (py_conv8 tu2 tu5 rfl) (sM rfl rfl (sV rfl (py_conv8 tu2 tu5 rfl) (sV rfl (py_xor8 rfl rfl) (s_call (wn rfl) rfl rfl (pc_call Tryz.func332 rfl Tryz_nm332 rfl) (Tryz_impl_div (a := 1)) (fun v1 w1 r1 => ?_)))))))))))
 obtain ⟨e1, rfl⟩ := r1
 have H1 := H0.to e1
 refine sA rfl rfl (s_nil (rT hQ Tryz.results288 rfl ?_))
 exact ⟨H1.ext, by rw [mul_one_l, cauchy, show (128 : Int) + (8 + j) = 136 + j by omega]⟩
theorem Tryz_impl_columnCode_weights {w : World} {n : Nat} {s p : Int} (hn : n ≤ 100 ∧ 0 ≤ p ∧ p ≤ 500) : Ret Tryz.prog 267 #[.agg #[.int .i64 n, .int .i64 s], .int .i64 p] w fun v w' => Ext No w w' ∧ (Res w w' [v] (genG n p 8)) := by
 refine ret_Q (vs := [.agg #[.int .i64 n, .int .i64 s], .int .i64 p]) Tryz.func267 rfl Tryz.ntmps267 rfl (fun Q hQ hN => ?_)
 have H0 := Sep.start (w := w) (F := []) (by simp)
 refine W_sr (s_box (wn rfl) rfl rfl H0 (fun b1 w1 e1 g1 H1 => ?_))
 refine sA rfl rfl (s_nil (W_sr (sV rfl (py_field tu116 rfl ts2 rfl rfl) (sV rfl (py_load tu2 rfl rfl (cell_atL (H1.box 0 rfl) rfl)) (s_make (wn rfl) rfl tu45 Tryz_ty5 own_z8 rfl (by omega) (by unfold maxLen; omega) H1 (fun b2 w2 e2 g2 H2 => ?_))))))
 refine sA rfl rfl (s_nil (W_seq (W_sr (sV rfl (py_field tu116 rfl ts2 rfl rfl) (sV rfl (py_load tu2 rfl rfl (cell_atL (H2.box 0 rfl) rfl)) (sM rfl rfl (s_nil (W_block (W_loop (γ := Nat × List Nat) (fun (k, f) => [(1, .int .i64 p), (2, .pointer (some ⟨b1, 0, none⟩)), (5, .slice (some ⟨b2, 0, none⟩) n n), (11, .int .i64 n), (12, .int .i64 k)]) (fun (k, f) w' => Sep No w [box b1 (.cells #[.int .i64 n, .int .i64 s] 116), mine [.slice (some ⟨b2, 0, none⟩) n n] (fillG (genAt n p 8) n k) f] [] w' ∧ k ≤ n) (fun (k, f) => n - k) (0, [b2]) ⟨rfl, rfl, rfl, rfl, rfl, trivial⟩ ⟨(by rw [fillG_zero]; exact H2), by omega⟩ (fun (k, f) w3 H3 => ?_))))))))))
 obtain ⟨H3, hk⟩ := H3
 refine W_sr (sV rfl (py_lss rfl rfl) (s_nil (W_seq (W_ifd rfl (fun c1 => ?_) (fun c1 => ?_)))))
 ·refine W_skip (W_seq (W_block (W_sr (sM rfl rfl (sA rfl rfl (s_nil (W_block (W_sr (sM rfl rfl (sV rfl (py_field tu116 rfl ts2 rfl rfl) (sV rfl (py_load tu2 rfl rfl (cell_atL (H3.box 0 rfl) rfl)) (sV rfl (py_geq rfl rfl) (sA rfl rfl (s_nil (W_ifd rfl (fun c2 => ?_) (fun c2 => ?_))))))))))))))))
  ·obtain ⟨eb1, eo1, ee1, ec1⟩ := elem_u8 (H3.mine 1 rfl) k (by rw [fillG_len (by omega)]; omega)
   refine W_reg (sM rfl rfl (sM rfl rfl (sM rfl rfl (sM rfl rfl (sV rfl (py_field tu116 rfl ts2 rfl rfl) (sV rfl (py_load tu2 rfl rfl (cell_atL (H3.box 0 rfl) rfl)) (sV rfl (py_sub rfl rfl (in64 ⟨by omega, by omega⟩)) (s_call (wn rfl) rfl rfl (pc_call Tryz.func288 rfl Tryz_nm288 rfl) (Tryz_impl_factor (by omega)) (fun v1 w4 r1 => ?_)))))))))
   obtain ⟨e3, rfl⟩ := r1
   have H4 := H3.to e3
   refine sV rfl (py_elz tu45 ts5 rfl rfl ee1 k (by omega) (by omega)) (s_elst (wn rfl) ts5 rfl H4 1 rfl k (by rw [fillG_len (by omega)]; omega) rfl ee1 rfl own_b8 (fun w5 fp1 e4 H5 => ?_))
   refine s_nil (W_reg (sV rfl (py_add rfl rfl (in64 ⟨by omega, by omega⟩)) (sM rfl rfl (s_nil ?_))))
   refine ⟨(k + 1, _), ⟨rfl, rfl, rfl, rfl, rfl, trivial⟩, ⟨by
    have h := H5
    rw [fillG_set (by omega) (by rw [genAt, if_pos (by omega)]; congr 1; omega)] at h
    exact h, by omega⟩, by dsimp only; omega⟩
  ·refine W_sr (sM rfl rfl (sM rfl rfl (sV rfl (py_eql rfl rfl) (sA rfl rfl (s_nil (W_ifd rfl (fun c3 => ?_) (fun c3 => ?_)))))))
   ·obtain ⟨eb2, eo2, ee2, ec2⟩ := elem_u8 (H3.mine 1 rfl) k (by rw [fillG_len (by omega)]; omega)
    refine W_reg (sM rfl rfl (sM rfl rfl (sV rfl (py_elz tu45 ts5 rfl rfl ee2 k (by omega) (by omega)) (s_elst (wn rfl) ts5 rfl H3 1 rfl k (by rw [fillG_len (by omega)]; omega) rfl ee2 rfl (own_b8 (x := 1)) (fun w6 fp2 e5 H6 => ?_)))))
    refine s_nil (W_reg (sV rfl (py_add rfl rfl (in64 ⟨by omega, by omega⟩)) (sM rfl rfl (s_nil ?_))))
    refine ⟨(k + 1, _), ⟨rfl, rfl, rfl, rfl, rfl, trivial⟩, ⟨by
     have h := H6
     rw [fillG_set (by omega) (by rw [genAt, if_neg (by omega), if_pos (by omega)])] at h
     exact h, by omega⟩, by dsimp only; omega⟩
   ·refine W_skip (W_reg (sV rfl (py_add rfl rfl (in64 ⟨by omega, by omega⟩)) (sM rfl rfl (s_nil ?_))))
    refine ⟨(k + 1, _), ⟨rfl, rfl, rfl, rfl, rfl, trivial⟩, ⟨by
     have h := H3
     rw [fillG_skip (by omega) (by rw [genAt, if_neg (by omega), if_neg (by omega)])] at h
     exact h, by omega⟩, by dsimp only; omega⟩
 ·refine W_exit (W_sr (sM rfl rfl (sA rfl rfl (s_nil (rT hQ Tryz.results267 rfl ?_)))))
  obtain rfl : k = n := by omega
  exact ⟨H3.ext, by
   have h := H3.out 1 rfl
   rwa [fillG_all] at h⟩
theorem Tryz_impl_Shape_columns {w : World} {s : Shape} (hs : s.ok = true) : Ret Tryz.prog 103 #[s.v] w fun v w' => Ext No w w' ∧ (v = .agg #[.int .i64 (s.Groups.toNat : Nat), .int .i64 s.Column]) := by
 have sbd := shape_bd hs
 refine ret_Q (vs := [s.v]) Tryz.func103 rfl Tryz.ntmps103 rfl (fun Q hQ hN => ?_)
 have H0 := Sep.start (w := w) (F := []) (by simp)
 refine W_sr (s_box (wn rfl) rfl rfl H0 (fun b1 w1 e1 g1 H1 => ?_))
 refine s_var (wn rfl) rfl Tryz.zeroValue116 H1 (fun b2 w2 e2 g2 H2 => ?_)
 refine s_nil (W_sr (sV rfl (py_field tu34 rfl ts2 rfl rfl) (sV rfl (py_load tu2 rfl rfl (cell_atL (H2.box 0 rfl) rfl)) (sV rfl (py_field tu34 rfl ts2 rfl rfl) (sV rfl (py_load tu2 rfl rfl (cell_atL (H2.box 0 rfl) rfl)) (sV rfl (py_buildS Tryz_pl116 rfl rfl) (s_stoS (wn rfl) ts116 rfl rfl rfl rfl H2 1 rfl rfl (fun w3 e3 H3 => ?_))))))))
 dsimp only [lNA, lCA, lSZ, lSS, layL] at H3
 refine s_nil (W_ret (hQ _ _ (finC Tryz.results103 rfl (run_loadVarS tu116 rfl ts116 rfl (At.whole (H3.box 1 rfl))) (⟨H3.ext, ?_⟩))))
 rw [Int.toNat_of_nonneg (by omega)]
 rfl
end Go.Wk
namespace Go.Wk
open Rp (sz own)
section
variable {α K : Type} {lt : K → K → Prop} {key : α → K}
theorem Ord.at [Inhabited α] {xs : List α} (h : Ord lt key xs) : ∀ {i j : Nat}, i < j → j < xs.length → ¬ lt (key (xs.getD j default)) (key (xs.getD i default)) := by
  induction h with
  | nil => intro i j _ h; simp at h
  | cons h1 h2 ih =>
    intro i j hij hj
    obtain ⟨j, rfl⟩ : ∃ k, j = k + 1 := ⟨j - 1, by omega⟩
    rw [List.length_cons] at hj
    rcases Nat.eq_zero_or_pos i with e | e
    · subst e
      rw [List.getD_cons_succ, List.getD_cons_zero, getD_el (by omega)]
      exact h1 _ (List.getElem_mem _)
    · obtain ⟨i, rfl⟩ : ∃ k, i = k + 1 := ⟨i - 1, by omega⟩
      rw [List.getD_cons_succ, List.getD_cons_succ]
      exact ih (by omega) (by omega)
end
end Go.Wk
namespace Go.Wk
open Rp (sz own)
def sumsTo (xs : List (List UInt8)) (n m : Nat) (j : Nat) : List (List UInt8) := (List.range j).map fun i : Nat => mixTo xs (genG n ((n : Int) + i) 8) m xs.length
def lenNe (m : Nat) (x : List UInt8) : Bool := decide ((x.length : Int) ≠ m)
def colFits (n s m : Nat) (rows : List (List UInt8)) : Bool := decide (sumsTo (cut rows 0 n) n m s = cut rows n rows.length)
section
variable {xs rows : List (List UInt8)} {n s m j k : Nat}
theorem sumsTo_len : (sumsTo xs n m j).length = j := by simp [sumsTo]
theorem sumsTo_step : sumsTo xs n m j ++ [mixTo xs (genG n ((n : Int) + j) 8) m xs.length] = sumsTo xs n m (j + 1) := by
  unfold sumsTo; rw [List.range_succ, List.map_append]; rfl
theorem alike_any (h : ∀ i, i < xs.length → (xs.getD i []).length = m) : xs.any (lenNe m) = false := by
  rw [List.any_eq_false]
  intro x hx
  obtain ⟨i, hi, e⟩ := List.getElem_of_mem hx
  have := h i hi
  rw [getD_el hi, e] at this
  unfold lenNe; simp [this]
theorem colFits_no (hl : rows.length = n + s) (hk : k < s) (h : rows.getD (n + k) [] ≠ (sumsTo (cut rows 0 n) n m s).getD k []) : colFits n s m rows = false := by
  unfold colFits
  rw [decide_eq_false]
  intro e
  apply h
  rw [e, cut_get (by omega)]
theorem colFits_yes (hl : rows.length = n + s) (h : ∀ k, k < s → rows.getD (n + k) [] = (sumsTo (cut rows 0 n) n m s).getD k []) : colFits n s m rows = true := by
  unfold colFits
  rw [decide_eq_true]
  refine getD_ext (d := []) (by rw [sumsTo_len, cut_len (by omega)]; omega) fun i hi => ?_
  rw [sumsTo_len] at hi
  rw [cut_get (by omega)]
  exact (h i hi).symm
end
def rwsTo (z : Wld) (row : Int) (k : Nat) : List (List UInt8) := (List.range k).map fun g : Nat => rowB z g row
def mvR (row : Int) (r : Rec) : Bool := decide (r.Kind = 2) && decide (r.Row = row)
def livTo (z : Wld) : Nat → Bool
  | 0 => true
  | k + 1 => livTo z k && !deadF z k
def colN (z : Wld) : Nat := (z.Shape.Groups + z.Shape.Column).toNat
noncomputable def colHolds (z : Wld) (row : Int) : Bool :=
  decide (worldF z = 0) && (ins row 0 (z.Shape.Rows - 1) && (!(cntL z).any (mvR row) && (livTo z (colN z) && colFits z.Shape.Groups.toNat z.Shape.Column.toNat (z.Shape.Data.toNat * 4) (rwsTo z row (colN z)))))
section
variable {z : Wld} {row : Int} {k n : Nat}
theorem rws_len : (rwsTo z row k).length = k := by simp [rwsTo]
theorem rws_step : rwsTo z row k ++ [rowB z k row] = rwsTo z row (k + 1) := by unfold rwsTo; rw [List.range_succ, List.map_append]; rfl
theorem rws_get (h : k < n) : (rwsTo z row n).getD k [] = rowB z k row := by unfold rwsTo; simp [List.getD, h]
theorem liv_no (h : k < n) (d : deadF z k = true) : livTo z n = false := by
  induction n with
  | zero => omega
  | succ n ih =>
    rw [livTo]
    by_cases e : k = n
    · subst e; rw [d]; simp
    · rw [ih (by omega), Bool.false_and]
theorem liv_all (h : ∀ i, i < n → deadF z i = false) : livTo z n = true := by
  induction n with
  | zero => rfl
  | succ n ih => rw [livTo, ih fun i hi => h i (by omega), h n (by omega)]; rfl
theorem col_bad (h : ¬ (worldF z = 0 ∧ ins row 0 (z.Shape.Rows - 1) = true)) : colHolds z row = false := by
  unfold colHolds
  by_cases c : worldF z = 0
  · rw [show ins row 0 (z.Shape.Rows - 1) = false by simpa using fun e => h ⟨c, e⟩]; simp
  · rw [decide_eq_false c, Bool.false_and]
theorem col_mv (h : (cntL z).any (mvR row) = true) : colHolds z row = false := by unfold colHolds; rw [h]; simp
theorem col_dead (h : k < colN z) (d : deadF z k = true) : colHolds z row = false := by unfold colHolds; rw [liv_no h d]; simp
theorem col_end (h : worldF z = 0) (hr : ins row 0 (z.Shape.Rows - 1) = true) (hm : ∀ i, i < (cntL z).length → mvR row ((cntL z).getD i default) = false) (hd : ∀ i, i < colN z → deadF z i = false) :
    colHolds z row = colFits z.Shape.Groups.toNat z.Shape.Column.toNat (z.Shape.Data.toNat * 4) (rwsTo z row (colN z)) := by
  unfold colHolds
  rw [decide_eq_true h, hr, anyR_none hm, liv_all hd]; rfl
end
end Go.Wk
namespace Go.Wk
open Go.Proofs Rp
set_option maxRecDepth 10000
theorem Tryz_impl_alike_1 {w : World} {x : List UInt8} {xA : Option Addr} {xC rb : Nat} {rows : List (List UInt8)} {rA : Option Addr} {rC m : Nat} (xS : Sees w [.slice xA x.length xC] x) (rB : w.heap[rb]? = some (.cells [.slice rA rows.length rC].toArray 112)) (rS : Sees w [.slice rA rows.length rC] rows) (h0 : 0 < rows.length) (hm : (rows.getD 0 []).length = m) : Ret Tryz.prog 266 #[.slice xA x.length xC, .pointer (some ⟨rb, 0, none⟩)] w fun v w' => Ext No w w' ∧ (v = .bool (lenNe m x)) := by
 obtain ⟨xF, xO⟩ := xS
 obtain ⟨rF, rO⟩ := rS
 refine ret_Q (vs := [.slice xA x.length xC, .pointer (some ⟨rb, 0, none⟩)]) Tryz.func266 rfl Tryz.ntmps266 rfl (fun Q hQ hN => ?_)
 have H0 := Sep.start (w := w) (F := [seen false [.slice xA x.length xC] x xF, box rb (.cells [.slice rA rows.length rC].toArray 112), seen false [.slice rA rows.length rC] rows rF]) (all_cons xO (all_cons (by exact rB) (all_cons rO (by simp))))
 refine W_sr (sA rfl rfl (s_nil (W_seq ?_)))
 obtain ⟨eb1, eo1, ea1, ek1, ef1, ee1, ec1, eO1, eH1⟩ := elem_sl (H0.seen 2 rfl) 0 (by omega)
 have eP1 := H0.look1 2 rfl eO1 eH1
 refine W_reg (sM rfl rfl (sV rfl (py_len tu45 rfl) (sV rfl (py_load tu112 rfl rfl (cell_atL (eP1.fbox 1 rfl) rfl)) (sV rfl (py_elz tu112 ts45 rfl rfl ee1 0 (by omega) (by omega)) (sV rfl (py_load tu45 rfl rfl ec1) (sV rfl (py_len tu45 rfl) (sV rfl (py_neq rfl rfl) (sA rfl rfl (s_nil (rT hQ Tryz.results266 rfl ?_))))))))))
 exact ⟨eP1.ext, congrArg Value.bool (by unfold lenNe; rw [hm])⟩
theorem Tryz_IndexFunc_bs {w : World} {xs : List (List UInt8)} {xsA : Option Addr} {xsC : Nat} {gf : FuncId} {gL : List Value} {gF : Func} (xsS : Sees w [.slice xsA xs.length xsC] xs) {p : (List UInt8) → Bool} (gH : Tryz.prog.funcs[gf]? = some gF) (gB : gF.body.isNone = false) (gN : NG gF) (gC : ∀ w1, Ext No w w1 → ∀ (i0 : Nat), i0 < xs.length → ∀ (A0 : Option Addr) (C0 : Nat) (_ : Sees w1 [.slice A0 (xs.getD i0 []).length C0] (xs.getD i0 [])), Ret Tryz.prog gf (([.slice A0 (xs.getD i0 []).length C0] : List Value) ++ gL).toArray w1 fun v w' => Ext No w1 w' ∧ v = .bool (p (xs.getD i0 []))) : Ret Tryz.prog 316 #[.slice xsA xs.length xsC, .func (.func gf) #[] gL.toArray] w fun v w' => Ext No w w' ∧ (v = .int .i64 (firstOf p xs)) := by
 have xsL := sL xsS
 obtain ⟨xsF, xsO⟩ := xsS
 refine ret_Q (vs := [.slice xsA xs.length xsC, .func (.func gf) #[] gL.toArray]) Tryz.func316 rfl Tryz.ntmps316 rfl (fun Q hQ hN => ?_)
 have H0 := Sep.start (w := w) (F := [seen false [.slice xsA xs.length xsC] xs xsF]) (all_cons xsO (by simp))
 refine W_sr (sA rfl rfl (s_nil (W_seq (W_sr (sM rfl rfl (sV rfl (py_len tu112 rfl) (sM rfl rfl (s_nil (W_block (W_loopS (γ := Nat) H0 [(0, _), (1, _), (7, _)] ⟨rfl, rfl, rfl, trivial⟩ (fun k => [(8, .int .i64 k)]) (fun k => k ≤ xs.length ∧ (∀ i, i < k → p (xs.getD i []) = false)) (fun k => xs.length - k) 0 ⟨rfl, trivial⟩ ⟨by omega, fun i hi => by omega⟩ (fun k w1 H1 ⟨hk, he⟩ => ?_)))))))))))
 dsimp only [lCA, lNA]
 refine W_sr (sV rfl (py_lss rfl rfl) (s_nil (W_seq (W_ifd rfl (fun c1 => ?_) (fun c1 => ?_)))))
 ·refine W_skip (W_seq (W_block (W_sr (sM rfl rfl (sA rfl rfl (s_nil (W_seq ?_)))))))
  obtain ⟨eb1, eo1, ea1, ek1, ef1, ee1, ec1, eO1, eH1⟩ := elem_sl (H1.seen 0 rfl) k (by omega)
  have eP1 := H1.look1 0 rfl eO1 eH1
  refine W_reg (sM rfl rfl (sM rfl rfl (sM rfl rfl (sV rfl (py_elz tu112 ts45 rfl rfl ee1 k (by omega) (by omega)) (sV rfl (py_load tu45 rfl rfl ec1) (s_call (wn rfl) rfl rfl (pc_callv (lb := gL) rfl gH gB gN rfl) (gC _ eP1.ext k (by omega) _ _ (eP1.sees 1 rfl)) (fun v1 w2 r1 => ?_)))))))
  obtain ⟨e1, rfl⟩ := r1
  have H2 := eP1.to e1
  refine s_nil (W_if rfl (fun c2 => ?_) (fun c2 => ?_))
  ·refine W_sr (sM rfl rfl (sA rfl rfl (s_nil (rT hQ Tryz.results316 rfl ?_))))
   exact ⟨H2.ext, congrArg (Value.int .i64) (firstOf_at (d := []) (by omega) (by assumption) he).symm⟩
  ·refine W_skip (W_reg (sV rfl (py_add rfl rfl (in64 ⟨by omega, by omega⟩)) (sM rfl rfl (s_nil (⟨k + 1, ⟨rfl, rfl, rfl, rfl, trivial⟩, ⟨(H2.ftake 1), by omega, fun i hi => ?_⟩, by dsimp only; omega⟩)))))
   by_cases e : i = k
   ·subst e
    assumption
   ·exact he i (by omega)
 ·refine W_exit (W_sr (sA rfl rfl (s_nil (rT hQ Tryz.results316 rfl ?_))))
  exact ⟨H1.ext, congrArg (Value.int .i64) (firstOf_no (d := []) (fun i hi => he i (by omega))).symm⟩
theorem Tryz_ContainsFunc_bs {w : World} {xs : List (List UInt8)} {xsA : Option Addr} {xsC : Nat} {gf : FuncId} {gL : List Value} {gF : Func} (xsS : Sees w [.slice xsA xs.length xsC] xs) {p : (List UInt8) → Bool} (gH : Tryz.prog.funcs[gf]? = some gF) (gB : gF.body.isNone = false) (gN : NG gF) (gC : ∀ w1, Ext No w w1 → ∀ (i0 : Nat), i0 < xs.length → ∀ (A0 : Option Addr) (C0 : Nat) (_ : Sees w1 [.slice A0 (xs.getD i0 []).length C0] (xs.getD i0 [])), Ret Tryz.prog gf (([.slice A0 (xs.getD i0 []).length C0] : List Value) ++ gL).toArray w1 fun v w' => Ext No w1 w' ∧ v = .bool (p (xs.getD i0 []))) : Ret Tryz.prog 265 #[.slice xsA xs.length xsC, .func (.func gf) #[] gL.toArray] w fun v w' => Ext No w w' ∧ (v = .bool (xs.any p)) := by
 have xsL := sL xsS
 obtain ⟨xsF, xsO⟩ := xsS
 refine ret_Q (vs := [.slice xsA xs.length xsC, .func (.func gf) #[] gL.toArray]) Tryz.func265 rfl Tryz.ntmps265 rfl (fun Q hQ hN => ?_)
 have H0 := Sep.start (w := w) (F := [seen false [.slice xsA xs.length xsC] xs xsF]) (all_cons xsO (by simp))
 refine W_sr (sA rfl rfl (s_nil (W_sr (sM rfl rfl (sM rfl rfl (s_call (wn rfl) rfl rfl (pc_call Tryz.func316 rfl Tryz_nm316 rfl) (Tryz_IndexFunc_bs (H0.sees 0 rfl) gH gB gN (fun w1 e1 => gC w1 (H0.ext.trans e1))) (fun v1 w1 r1 => ?_)))))))
 obtain ⟨e1, rfl⟩ := r1
 have H1 := H0.to e1
 refine sV rfl (py_geq rfl rfl) (sA rfl rfl (s_nil (rT hQ Tryz.results265 rfl ?_)))
 exact ⟨H1.ext, by rw [← firstOf_any]⟩
theorem Tryz_impl_alike {w : World} {rows : List (List UInt8)} {rowsA : Option Addr} {rowsC : Nat} (rowsS : Sees w [.slice rowsA rows.length rowsC] rows) {m : Nat} (h0 : 0 < rows.length) (hx : ∀ i, i < rows.length → (rows.getD i []).length = m) : Ret Tryz.prog 178 #[.slice rowsA rows.length rowsC] w fun v w' => Ext No w w' ∧ (v = .bool true) := by
 have rowsL := sL rowsS
 obtain ⟨rowsF, rowsO⟩ := rowsS
 refine ret_Q (vs := [.slice rowsA rows.length rowsC]) Tryz.func178 rfl Tryz.ntmps178 rfl (fun Q hQ hN => ?_)
 have H0 := Sep.start (w := w) (F := [seen false [.slice rowsA rows.length rowsC] rows rowsF]) (all_cons rowsO (by simp))
 refine W_sr (s_box (wn rfl) rfl rfl H0 (fun b1 w1 e1 g1 H1 => ?_))
 refine sA rfl rfl (s_nil (W_sr (sV rfl (py_load tu112 rfl rfl (cell_atL (H1.box 0 rfl) rfl)) (sV rfl (py_func rfl) (s_call (wn rfl) rfl rfl (pc_call Tryz.func265 rfl Tryz_nm265 rfl) (Tryz_ContainsFunc_bs (H1.sees 0 rfl) (p := (lenNe m)) Tryz.func266 rfl Tryz_nm266 (fun w1 e1 i0 hi0 _ _ o0 => Tryz_impl_alike_1 o0 ((H1.to e1).box 0 rfl) ((H1.to e1).sees 0 rfl) h0 (hx 0 h0))) (fun v1 w2 r1 => ?_))))))
 obtain ⟨e2, rfl⟩ := r1
 have H2 := H1.to e2
 refine sV rfl (py_not rfl) (sA rfl rfl (s_nil (rT hQ Tryz.results178 rfl ?_)))
 exact ⟨H2.ext, congrArg Value.bool (by rw [alike_any hx]; rfl)⟩
theorem Tryz_impl_columnCode_parity {w : World} {n s m : Nat} {xs : List (List UInt8)} {xsA : Option Addr} {xsC : Nat} (hl : xs.length = n) (hn : 1 ≤ n ∧ n ≤ 100) (hs : s ≤ 100) (hx : ∀ i, i < xs.length → (xs.getD i []).length = m) (hm : m ≤ 1048576) (xsS : Sees w [.slice xsA xs.length xsC] xs) : Ret Tryz.prog 180 #[.agg #[.int .i64 n, .int .i64 s], .slice xsA xs.length xsC] w fun v w' => Ext No w w' ∧ (Res w w' [v] (sumsTo xs n m s)) := by
 have xsL := sL xsS
 obtain ⟨xsF, xsO⟩ := xsS
 refine ret_Q (vs := [.agg #[.int .i64 n, .int .i64 s], .slice xsA xs.length xsC]) Tryz.func180 rfl Tryz.ntmps180 rfl (fun Q hQ hN => ?_)
 have H0 := Sep.start (w := w) (F := [seen false [.slice xsA xs.length xsC] xs xsF]) (all_cons xsO (by simp))
 refine W_sr (s_box (wn rfl) rfl rfl H0 (fun b1 w1 e1 g1 H1 => ?_))
 refine sA rfl rfl (s_nil (W_sr (s_lit0 (α := (List UInt8)) (wn rfl) rfl tu112 Tryz_ty45 H1 (fun b2 w2 e2 g2 H2 => ?_))))
 refine sA rfl rfl (s_nil (W_seq (W_sr (sV rfl (py_field tu116 rfl ts2 rfl rfl) (sV rfl (py_load tu2 rfl rfl (cell_atL (H2.box 0 rfl) rfl)) (sM rfl rfl (s_nil (W_block (W_loopA (α := (List UInt8)) (γ := Nat) (fun k => sumsTo xs n m k) 0 H2 1 rfl 5 rfl [(1, _), (2, _), (4, _), (9, _)] ⟨rfl, rfl, rfl, rfl, trivial⟩ (fun k => [(10, .int .i64 k)]) (fun k => k ≤ s ∧ True) (fun k => s - k) ⟨rfl, trivial⟩ ⟨by omega, trivial⟩ (fun k vA1 fA1 w3 H3 ⟨hk, _⟩ => ?_))))))))))
 dsimp only [lCA, lNA, lSZ, lSS] at H3 ⊢
 refine W_sr (sV rfl (py_lss rfl rfl) (s_nil (W_seq (W_ifd rfl (fun c1 => ?_) (fun c1 => ?_)))))
 ·refine W_skip (W_seq (W_block (W_sr (sM rfl rfl (sA rfl rfl (s_nil ?_))))))
  have gl : (genG n ((n : Int) + k) 8).length = n := genG_len
  have sl := sumsTo_len (xs := xs) (n := n) (m := m) (j := k)
  refine W_reg (sM rfl rfl (sM rfl rfl (sV rfl (py_loadS tu116 rfl ts116 rfl rfl (At.whole (H3.box 0 rfl))) (sV rfl (py_field tu116 rfl ts2 rfl rfl) (sV rfl (py_load tu2 rfl rfl (cell_atL (H3.box 0 rfl) rfl)) (sM rfl rfl (sV rfl (py_add rfl rfl (in64 ⟨by omega, by omega⟩)) (s_call (wn rfl) rfl rfl (pc_call Tryz.func267 rfl Tryz_nm267 rfl) (Tryz_impl_columnCode_weights (by omega)) (fun v1 w4 r1 => ?_)))))))))
  obtain ⟨e3, r1⟩ := r1
  obtain ⟨fp1, H4⟩ := H3.res e3 r1
  obtain ⟨a1, k1, q1⟩ := own_slice (H4.mine 2 rfl)
  cases q1
  refine s_call (wn rfl) rfl rfl (pc_call Tryz.func263 rfl Tryz_nm263 rfl) (Tryz_impl_mixed (H4.sees 0 rfl) (H4.msees 2 rfl) (by omega) (by omega) (by assumption) (by omega)) (fun v2 w5 r2 => ?_)
  obtain ⟨e4, r2⟩ := r2
  obtain ⟨fp2, H5⟩ := H4.res e4 r2
  obtain ⟨a2, k2, q2⟩ := own_slice (H5.mine 3 rfl)
  cases q2
  refine s_lit1 (wn rfl) rfl tu112 Tryz_ty45 rfl rfl rfl rfl H5 (fun b3 w6 e5 g3 H6 => ?_)
  refine s_app2 (wn rfl) rfl tu112 Tryz_ty45 rfl rfl rfl H6 1 4 3 rfl rfl rfl rfl (by unfold maxLen; omega) (by omega) (fun v3 w7 fp3 H7 => ?_)
  refine sA rfl rfl (s_nil (W_reg (sV rfl (py_add rfl rfl (in64 ⟨by omega, by omega⟩)) (sM rfl rfl (s_nil ?_)))))
  have hz := (H7.dtake 2)
  rw [sumsTo_step] at hz
  exact ⟨(k + 1, _, _), ⟨rfl, rfl, rfl, rfl, rfl, rfl, trivial⟩, ⟨hz, by omega, trivial⟩, by dsimp only; omega⟩
 ·refine W_exit (W_sr (sM rfl rfl (sA rfl rfl (s_nil (rT hQ Tryz.results180 rfl ?_)))))
  obtain rfl : k = s := by omega
  exact ⟨H3.ext, H3.out 1 rfl⟩
theorem Tryz_impl_columnCode_fits {w : World} {n s m : Nat} {xs : List (List UInt8)} {xsA : Option Addr} {xsC : Nat} (hl : xs.length = n + s) (hn : 1 ≤ n ∧ n ≤ 100) (hs : s ≤ 100) (hx : ∀ i, i < xs.length → (xs.getD i []).length = m) (hm : m ≤ 1048576) (xsS : Sees w [.slice xsA xs.length xsC] xs) : Ret Tryz.prog 104 #[.agg #[.int .i64 n, .int .i64 s], .slice xsA xs.length xsC] w fun v w' => Ext No w w' ∧ (v = .bool (colFits n s m xs)) := by
 have xsL := sL xsS
 obtain ⟨xsF, xsO⟩ := xsS
 have hcl : (cut xs 0 n).length = n := by rw [cut_len (by omega)]; omega
 have hcx : ∀ i, i < (cut xs 0 n).length → ((cut xs 0 n).getD i []).length = m := fun i hi => by rw [cut_get (by omega)]; exact hx (0 + i) (by omega)
 refine ret_Q (vs := [.agg #[.int .i64 n, .int .i64 s], .slice xsA xs.length xsC]) Tryz.func104 rfl Tryz.ntmps104 rfl (fun Q hQ hN => ?_)
 have H0 := Sep.start (w := w) (F := [seen false [.slice xsA xs.length xsC] xs xsF]) (all_cons xsO (by simp))
 refine W_sr (s_box (wn rfl) rfl rfl H0 (fun b1 w1 e1 g1 H1 => ?_))
 refine sA rfl rfl (s_nil (W_seq (W_drw (S := Ext No _) [(0, true), (1, false), (2, true), (3, true), (4, true), (5, true), (6, true), (7, true), (9, true), (10, true), (11, true), (12, true), (8, false), (13, false), (14, true), (15, false)] (by kernel_rfl) (by kernel_rfl) (by kernel_rfl) rfl (fun _ => Ext.refl.drawn _) (fun q1 => ?_))))
 have H2 := H1.drawn q1
 refine dM rfl rfl rfl (d_call rfl (wn rfl) rfl rfl (pc_call Tryz.func178 rfl Tryz_nm178 rfl) (Tryz_impl_alike (H2.sees 0 rfl) (by omega) (by first | assumption | omega)) (fun hS _ _ r _ => hS.trans r.1.no) (fun v1 w2 r1 => ?_))
 obtain ⟨e2, rfl⟩ := r1
 have H3 := H2.to e2
 refine dM rfl rfl rfl (d_case (t := 7) rfl (fun hg1 => ?_) (fun hg1 => ?_))
 ·try simp only [decide_eq_true_eq, decide_eq_false_iff_not] at hg1
  refine d_val rfl (wg rfl rfl rfl) rfl rfl (fun zw hx => py_loadS tu116 rfl ts116 rfl rfl (At.whole (hx.heap (H2.box 0 rfl)))) (d_val rfl (wg rfl rfl rfl) rfl rfl (fun zw hx => py_move rfl) (d_val rfl (wg rfl rfl rfl) rfl rfl (fun zw hx => py_field tu116 rfl ts2 rfl rfl) (d_val rfl (wg rfl rfl rfl) rfl rfl (fun zw hx => py_load tu2 rfl rfl (cell_atL (hx.heap (H2.box 0 rfl)) rfl)) ?_)))
  have sc1 := own_le_cap (H3.seen 0 rfl)
  obtain ⟨sf1, so1, ss1⟩ := own_cutL (H3.seen 0 rfl) (0) (n) _ (by omega) (by omega) (by omega) (Nat.le_refl _)
  have H4 := H3.look1 0 rfl so1 ss1
  have sl1 := cut_len (xs := xs) (l := 0) (h := n) (by omega)
  refine d_val rfl (wg rfl rfl rfl) rfl rfl (fun zw hx => py_slcHN tu112 ts45 rfl rfl (n) (by omega) (by omega) sl1) (d_val rfl (wg rfl rfl rfl) rfl rfl (fun zw hx => py_move rfl) (d_val rfl (wg rfl rfl rfl) rfl rfl (fun zw hx => py_field tu116 rfl ts2 rfl rfl) (d_val rfl (wg rfl rfl rfl) rfl rfl (fun zw hx => py_load tu2 rfl rfl (cell_atL (hx.heap (H2.box 0 rfl)) rfl)) ?_)))
  have sc2 := own_le_cap (H4.seen 0 rfl)
  obtain ⟨sf2, so2, ss2⟩ := own_cutL (H4.seen 0 rfl) (n) (xs.length) _ (by omega) (by omega) (by omega) (Nat.le_refl _)
  have H5 := H4.look1 0 rfl so2 ss2
  have sl2 := cut_len (xs := xs) (l := n) (h := xs.length) (by omega)
  refine d_val rfl (wg rfl rfl rfl) rfl rfl (fun zw hx => py_slcLN tu112 ts45 rfl rfl (n) (by omega) (by omega) sl2) (d_call rfl (wg rfl rfl rfl) rfl rfl (pc_call Tryz.func180 rfl Tryz_nm180 rfl) (Tryz_impl_columnCode_parity (by omega) (by omega) (by omega) (by first | assumption | omega) (by omega) (H5.sees 1 rfl)) (fun hS _ _ r _ => hS.trans r.1.no) (fun v2 w3 r2 => ?_))
  obtain ⟨e3, r2⟩ := r2
  obtain ⟨fp1, H6⟩ := H5.res e3 r2
  obtain ⟨a1, k1, q2⟩ := own_slice (H6.mine 1 rfl)
  cases q2
  refine d_call rfl (wg rfl rfl rfl) rfl rfl (pc_call Tryz.func179 rfl Tryz_nm179 rfl) (Tryz_slices_EqualFunc_byte_byte_byte_byte (H6.msees 1 rfl) (H6.sees 2 rfl)) (fun hS _ _ r _ => hS.trans r.1.no) (fun v3 w4 r3 => ?_)
  obtain ⟨e4, rfl⟩ := r3
  have H7 := H6.to e4
  refine dV rfl rfl (fun zw hx => py_pickT rfl rfl) (d_end rfl (wn rfl) rfl rfl (py_assign rfl) (d_nil (rT hQ Tryz.results104 rfl ?_)))
  exact ⟨H7.ext, congrArg Value.bool (by unfold colFits; rfl)⟩
 ·try simp only [decide_eq_true_eq, decide_eq_false_iff_not] at hg1
  refine dKf rfl rfl rfl rfl (dKf rfl rfl rfl rfl (dKf rfl rfl rfl rfl (dKf rfl rfl rfl rfl (dKf rfl rfl rfl rfl (dKf rfl rfl rfl rfl (dKf rfl rfl rfl rfl (dKf rfl rfl rfl rfl (dKf rfl rfl rfl rfl (d_skipA rfl (wog (b := false) rfl rfl rfl) rfl rfl (d_skipA rfl (wog (b := false) rfl rfl rfl) rfl rfl (dV rfl rfl (fun zw hx => py_pickF rfl rfl) (d_end rfl (wn rfl) rfl rfl (py_assign rfl) (d_nil (rT hQ Tryz.results104 rfl ?_))))))))))))))
  exact absurd hg1 (by simp)
theorem Tryz_spec_l3Even {w : World} {xs : List (List UInt8)} {xsA : Option Addr} {xsC : Nat} (xsS : Sees w [.slice xsA xs.length xsC] xs) {m : Nat} (hx : ∀ i, i < xs.length → (xs.getD i []).length = m) : Ret Tryz.prog 257 #[.slice xsA xs.length xsC] w fun v w' => Ext No w w' ∧ (v = .bool true) := by
 have xsL := sL xsS
 obtain ⟨xsF, xsO⟩ := xsS
 refine ret_Q (vs := [.slice xsA xs.length xsC]) Tryz.func257 rfl Tryz.ntmps257 rfl (fun Q hQ hN => ?_)
 have H0 := Sep.start (w := w) (F := [seen false [.slice xsA xs.length xsC] xs xsF]) (all_cons xsO (by simp))
 refine W_sr (sA rfl rfl (s_nil (W_seq (W_sr (sA rfl rfl (s_nil (W_block (W_loopS (γ := Nat) H0 [(0, _)] ⟨rfl, trivial⟩ (fun k => [(3, .int .i64 k)]) (fun k => k ≤ xs.length ∧ True) (fun k => xs.length - k) 0 ⟨rfl, trivial⟩ ⟨by omega, trivial⟩ (fun k w1 H1 ⟨hk, _⟩ => ?_)))))))))
 dsimp only [lCA, lNA]
 refine W_seq (W_sr (sM rfl rfl (sM rfl rfl (sV rfl (py_len tu112 rfl) (sV rfl (py_lss rfl rfl) (s_nil (W_ifd rfl (fun c1 => ?_) (fun c1 => ?_))))))))
 ·refine W_skip (W_seq (W_block (W_seq ?_)))
  have h1 := hx k (by omega)
  have h2 := hx 0 (by omega)
  obtain ⟨eb1, eo1, ea1, ek1, ef1, ee1, ec1, eO1, eH1⟩ := elem_sl (H1.seen 0 rfl) k (by omega)
  have eP1 := H1.look1 0 rfl eO1 eH1
  obtain ⟨eb2, eo2, ea2, ek2, ef2, ee2, ec2, eO2, eH2⟩ := elem_sl (eP1.seen 0 rfl) 0 (by omega)
  have eP2 := eP1.look1 0 rfl eO2 eH2
  refine W_drw (S := Ext No _) [(0, true), (1, true), (2, true), (3, true), (4, true), (5, true), (6, true), (7, true), (8, true), (9, false)] (by kernel_rfl) (by kernel_rfl) (by kernel_rfl) rfl (fun _ => Ext.refl.drawn _) (fun q1 => ?_)
  have H2 := eP2.drawn q1
  refine dM rfl rfl rfl (dM rfl rfl rfl (dV rfl rfl (fun zw hx => py_elz tu112 ts45 rfl rfl ee1 k (by omega) (by omega)) (dV rfl rfl (fun zw hx => py_load tu45 rfl rfl (hx.cell ec1)) (dV rfl rfl (fun zw hx => py_len tu45 rfl) (dM rfl rfl rfl (dV rfl rfl (fun zw hx => py_elz tu112 ts45 rfl rfl ee2 0 (by omega) (by omega)) (dV rfl rfl (fun zw hx => py_load tu45 rfl rfl (hx.cell ec2)) (dV rfl rfl (fun zw hx => py_len tu45 rfl) (d_end rfl (wn rfl) rfl rfl (py_neq rfl rfl) (d_nil (W_ifd rfl (fun c2 => ?_) (fun c2 => ?_))))))))))))
  ·exact absurd c2 (by omega)
  ·refine W_skip (W_reg (sM rfl rfl (sV rfl (py_add rfl rfl (in64 ⟨by omega, by omega⟩)) (sA rfl rfl (s_nil ?_)))))
   exact ⟨k + 1, ⟨rfl, rfl, trivial⟩, ⟨(H2.ftake 1), by omega, trivial⟩, by dsimp only; omega⟩
 ·refine W_exit (W_sr (sA rfl rfl (s_nil (rT hQ Tryz.results257 rfl ?_))))
  exact ⟨H1.ext, rfl⟩
theorem Tryz_spec_l3Encode {w : World} {n s m : Nat} {xs : List (List UInt8)} {xsA : Option Addr} {xsC : Nat} (hl : xs.length = n) (hn : 1 ≤ n ∧ n ≤ 100) (hs : s ≤ 100) (hx : ∀ i, i < xs.length → (xs.getD i []).length = m) (hm : m ≤ 1048576) (xsS : Sees w [.slice xsA xs.length xsC] xs) : Ret Tryz.prog 258 #[.slice xsA xs.length xsC, .int .i64 s] w fun v w' => Ext No w w' ∧ (Res w w' [v] (sumsTo xs n m s)) := by
 subst hl
 have xsL := sL xsS
 obtain ⟨xsF, xsO⟩ := xsS
 refine ret_Q (vs := [.slice xsA xs.length xsC, .int .i64 s]) Tryz.func258 rfl Tryz.ntmps258 rfl (fun Q hQ hN => ?_)
 have H0 := Sep.start (w := w) (F := [seen false [.slice xsA xs.length xsC] xs xsF]) (all_cons xsO (by simp))
 refine W_sr (sA rfl rfl (s_nil (W_sr (sM rfl rfl (sV rfl (py_len tu112 rfl) (sA rfl rfl (s_nil (W_sr (s_lit0 (α := (List UInt8)) (wn rfl) rfl tu112 Tryz_ty45 H0 (fun b1 w1 e1 g1 H1 => ?_))))))))))
 refine sA rfl rfl (s_nil (W_seq (W_sr (sA rfl rfl (s_nil (W_block (W_loopA (α := (List UInt8)) (γ := Nat) (fun k => sumsTo xs xs.length m k) 0 H1 0 rfl 6 rfl [(0, _), (1, _), (4, _), (5, _)] ⟨rfl, rfl, rfl, rfl, trivial⟩ (fun k => [(7, .int .i64 k)]) (fun k => k ≤ s ∧ True) (fun k => s - k) ⟨rfl, trivial⟩ ⟨by omega, trivial⟩ (fun k vA1 fA1 w2 H2 ⟨hk, _⟩ => ?_))))))))
 dsimp only [lCA, lNA, lSZ, lSS] at H2 ⊢
 refine W_seq (W_sr (sM rfl rfl (sM rfl rfl (sV rfl (py_lss rfl rfl) (s_nil (W_ifd rfl (fun c1 => ?_) (fun c1 => ?_)))))))
 ·refine W_skip (W_seq (W_block ?_))
  have gl : (genG xs.length ((xs.length : Int) + k) 8).length = xs.length := genG_len
  have sl := sumsTo_len (xs := xs) (n := xs.length) (m := m) (j := k)
  refine W_reg (sM rfl rfl (sM rfl rfl (sM rfl rfl (sM rfl rfl (sM rfl rfl (sV rfl (py_add rfl rfl (in64 ⟨by omega, by omega⟩)) (s_call (wn rfl) rfl rfl (pc_call Tryz.func274 rfl Tryz_nm274 rfl) (Tryz_spec_l2Gen (by omega)) (fun v1 w3 r1 => ?_))))))))
  obtain ⟨e2, r1⟩ := r1
  obtain ⟨fp1, H3⟩ := H2.res e2 r1
  obtain ⟨a1, k1, q1⟩ := own_slice (H3.mine 1 rfl)
  cases q1
  refine s_call (wn rfl) rfl rfl (pc_call Tryz.func273 rfl Tryz_nm273 rfl) (Tryz_spec_l1Mix (H3.sees 0 rfl) (H3.msees 1 rfl) (by omega) (by omega) (by assumption) (by omega)) (fun v2 w4 r2 => ?_)
  obtain ⟨e3, r2⟩ := r2
  obtain ⟨fp2, H4⟩ := H3.res e3 r2
  obtain ⟨a2, k2, q2⟩ := own_slice (H4.mine 2 rfl)
  cases q2
  refine s_lit1 (wn rfl) rfl tu112 Tryz_ty45 rfl rfl rfl rfl H4 (fun b2 w5 e4 g2 H5 => ?_)
  refine s_app2 (wn rfl) rfl tu112 Tryz_ty45 rfl rfl rfl H5 0 3 2 rfl rfl rfl rfl (by unfold maxLen; omega) (by omega) (fun v3 w6 fp3 H6 => ?_)
  refine sA rfl rfl (s_nil (W_reg (sM rfl rfl (sV rfl (py_add rfl rfl (in64 ⟨by omega, by omega⟩)) (sA rfl rfl (s_nil ?_))))))
  have hz := (H6.dtake 1)
  rw [sumsTo_step] at hz
  exact ⟨(k + 1, _, _), ⟨rfl, rfl, rfl, rfl, rfl, rfl, trivial⟩, ⟨hz, by omega, trivial⟩, by dsimp only; omega⟩
 ·refine W_exit (W_sr (sM rfl rfl (sA rfl rfl (s_nil (rT hQ Tryz.results258 rfl ?_)))))
  obtain rfl : k = s := by omega
  exact ⟨H2.ext, H2.out 0 rfl⟩
theorem Tryz_spec_ColumnFits {w : World} {n s m : Nat} {xs : List (List UInt8)} {xsA : Option Addr} {xsC : Nat} (hl : xs.length = n + s) (hn : 1 ≤ n ∧ n ≤ 4) (hs : s ≤ 2) (hx : ∀ i, i < xs.length → (xs.getD i []).length = m) (hm : m ≤ 1048576) (xsS : Sees w [.slice xsA xs.length xsC] xs) : Ret Tryz.prog 167 #[.slice xsA xs.length xsC, .int .i64 s] w fun v w' => Ext No w w' ∧ (v = .bool (colFits n s m xs)) := by
 have xsL := sL xsS
 obtain ⟨xsF, xsO⟩ := xsS
 have hcl : (cut xs 0 n).length = n := by rw [cut_len (by omega)]; omega
 have hcx : ∀ i, i < (cut xs 0 n).length → ((cut xs 0 n).getD i []).length = m := fun i hi => by rw [cut_get (by omega)]; exact hx (0 + i) (by omega)
 have hsl := sumsTo_len (xs := cut xs 0 n) (n := n) (m := m) (j := s)
 have hln : ((xs.length : Nat) : Int) - s = n := by omega
 refine ret_Q (vs := [.slice xsA xs.length xsC, .int .i64 s]) Tryz.func167 rfl Tryz.ntmps167 rfl (fun Q hQ hN => ?_)
 have H0 := Sep.start (w := w) (F := [seen false [.slice xsA xs.length xsC] xs xsF]) (all_cons xsO (by simp))
 refine W_sr (sA rfl rfl (s_nil (W_seq (W_sr (sM rfl rfl (s_call (wn rfl) rfl rfl (pc_call Tryz.func97 rfl Tryz_nm97 rfl) Tryz_spec_l1In (fun v1 w1 r1 => ?_)))))))
 obtain ⟨e1, rfl⟩ := r1
 have H1 := H0.to e1
 refine sV rfl (py_not rfl) (sM rfl rfl (s_grp 7 (j := 3) (want := false) (t := 18) rfl rfl rfl rfl (fun hg1 kk1 => s_val (wgE rfl rfl rfl hg1) rfl rfl (py_move rfl) (s_val (wgE rfl rfl rfl hg1) rfl rfl (py_len tu112 rfl) (s_val (wgE rfl rfl rfl hg1) rfl rfl (py_move rfl) (s_val (wgE rfl rfl rfl hg1) rfl rfl (py_sub rfl rfl (in64 ⟨by omega, by omega⟩)) (s_val (wgE rfl rfl rfl hg1) rfl rfl (py_move rfl) (s_callv (wgE rfl rfl rfl hg1) rfl rfl (pc_call Tryz.func254 rfl Tryz_nm254 rfl) Tryz_spec_l3Shape (fun w3 e3 => s_val (wgE rfl rfl rfl hg1) rfl rfl (py_not rfl) (kk1 _ _ (kx rfl (kx rfl (kx rfl (kx rfl (kx rfl (kx rfl (kx rfl k0))))))) rfl (Ext.refl.trans e3))))))))) (fun w2 e2 => ?_)))
 have H2 := H1.to e2
 refine sV rfl (py_bor rfl rfl) (sM rfl rfl (s_grp 3 (j := 12) (want := false) (t := 23) rfl rfl rfl rfl (fun hg2 kk2 => s_val (wgE rfl rfl rfl hg2) rfl rfl (py_move rfl) (s_callv (wgE rfl rfl rfl hg2) rfl rfl (pc_call Tryz.func257 rfl Tryz_nm257 rfl) (Tryz_spec_l3Even (H2.sees 0 rfl) (by first | assumption | omega)) (fun w5 e5 => s_val (wgE rfl rfl rfl hg2) rfl rfl (py_not rfl) (kk2 _ _ (kx rfl (kx rfl (kx rfl k0))) rfl (Ext.refl.trans e5))))) (fun w4 e4 => ?_)))
 have H3 := H2.to e4
 refine sV rfl (py_bor rfl rfl) (s_nil (W_if rfl (fun c1 => ?_) (fun c1 => ?_)))
 ·exfalso; revert c1; rw [hln]; simp [cOK, ins, hn, hs]; omega
 ·refine W_skip (W_sr (sM rfl rfl (sV rfl (py_len tu112 rfl) (sM rfl rfl (sV rfl (py_sub rfl rfl (in64 ⟨by omega, by omega⟩)) (sA rfl rfl (s_nil (W_sr (sM rfl rfl (sM rfl rfl ?_))))))))))
  have sc1 := own_le_cap (H3.seen 0 rfl)
  obtain ⟨sf1, so1, ss1⟩ := own_cutL (H3.seen 0 rfl) (0) (n) _ (by omega) (by omega) (by omega) (Nat.le_refl _)
  have H4 := H3.look1 0 rfl so1 ss1
  have sl1 := cut_len (xs := xs) (l := 0) (h := n) (by omega)
  refine sV rfl (py_slcHN tu112 ts45 rfl rfl (n) (by omega) (by omega) sl1) ((sM rfl rfl (s_call (wn rfl) rfl rfl (pc_call Tryz.func258 rfl Tryz_nm258 rfl) (Tryz_spec_l3Encode (by omega) (by omega) (by omega) (by first | assumption | omega) (by omega) (H4.sees 1 rfl) (n := n)) (fun v2 w6 r2 => ?_))))
  obtain ⟨e6, r2⟩ := r2
  obtain ⟨fp1, H5⟩ := H4.res e6 r2
  obtain ⟨a1, k1, q1⟩ := own_slice (H5.mine 0 rfl)
  cases q1
  refine sA rfl rfl (s_nil (W_seq (W_seq ?_)))
  have H6 := H5.share 0 rfl
  try dsimp only [lNA, lCA, lSZ, lSS] at H6
  refine W_reg (sA rfl rfl (s_nil (W_block (W_loopS (γ := Nat) H6 [(0, _), (1, _), (5, _), (6, _)] ⟨rfl, rfl, rfl, rfl, trivial⟩ (fun k => [(7, .int .i64 k)]) (fun k => k ≤ s ∧ (∀ i, i < k → xs.getD (n + i) [] = (sumsTo (cut xs 0 n) n m s).getD i [])) (fun k => s - k) 0 ⟨rfl, trivial⟩ ⟨by omega, fun i hi => by omega⟩ (fun k w7 H7 ⟨hk, he⟩ => ?_)))))
  dsimp only [lCA, lNA]
  refine W_seq (W_sr (sM rfl rfl (sM rfl rfl (sV rfl (py_lss rfl rfl) (s_nil (W_ifd rfl (fun c2 => ?_) (fun c2 => ?_)))))))
  ·refine W_skip (W_seq (W_block (W_seq ?_)))
   obtain ⟨eb1, eo1, ea1, ek1, ef1, ee1, ec1, eO1, eH1⟩ := elem_sl (H7.seen 0 rfl) (n + k) (by omega)
   have eP1 := H7.look1 0 rfl eO1 eH1
   obtain ⟨eb2, eo2, ea2, ek2, ef2, ee2, ec2, eO2, eH2⟩ := elem_sl (eP1.seen 2 rfl) k (by omega)
   have eP2 := eP1.look1 2 rfl eO2 eH2
   refine W_drw (S := Ext No _) [(0, true), (1, true), (2, true), (3, true), (4, true), (5, true), (6, true), (7, true), (8, true), (9, true), (10, false), (11, false)] (by kernel_rfl) (by kernel_rfl) (by kernel_rfl) rfl (fun _ => Ext.refl.drawn _) (fun q2 => ?_)
   have H8 := eP2.drawn q2
   refine dM rfl rfl rfl (dM rfl rfl rfl (dM rfl rfl rfl (dV rfl rfl (fun zw hx => py_add rfl rfl (in64 ⟨by omega, by omega⟩)) (dV rfl rfl (fun zw hx => py_elz tu112 ts45 rfl rfl ee1 (n + k) (by omega) (by omega)) (dV rfl rfl (fun zw hx => py_load tu45 rfl rfl (hx.cell ec1)) (dM rfl rfl rfl (dM rfl rfl rfl (dV rfl rfl (fun zw hx => py_elz tu112 ts45 rfl rfl ee2 k (by omega) (by omega)) (dV rfl rfl (fun zw hx => py_load tu45 rfl rfl (hx.cell ec2)) (d_call rfl (wn rfl) rfl rfl (pc_call Tryz.func259 rfl Tryz_nm259 rfl) (Tryz_spec_l2Same (H8.sees 3 rfl) (H8.sees 4 rfl)) (fun hS _ _ r _ => hS.trans r.1.no) (fun v3 w8 r3 => ?_)))))))))))
   obtain ⟨e7, rfl⟩ := r3
   have H9 := H8.to e7
   refine d_end rfl (wn rfl) rfl rfl (py_not rfl) (d_nil (W_if rfl (fun c3 => ?_) (fun c3 => ?_)))
   ·refine W_sr (sA rfl rfl (s_nil (rT hQ Tryz.results167 rfl ?_)))
    exact ⟨H9.ext, congrArg Value.bool (colFits_no (k := k) hl (by omega) (by simpa using c3)).symm⟩
   ·refine W_skip (W_reg (sM rfl rfl (sV rfl (py_add rfl rfl (in64 ⟨by omega, by omega⟩)) (sA rfl rfl (s_nil (⟨k + 1, ⟨rfl, rfl, rfl, rfl, rfl, trivial⟩, ⟨(H9.ftake 3), by omega, fun i hi => ?_⟩, by dsimp only; omega⟩))))))
    by_cases e : i = k
    ·subst e; simpa using c3
    ·exact he i (by omega)
  ·refine W_exit (W_sr (sA rfl rfl (s_nil (rT hQ Tryz.results167 rfl ?_))))
   exact ⟨H7.ext, congrArg Value.bool (colFits_yes hl (fun i hi => he i (by omega))).symm⟩
theorem Tryz_impl_ColumnHolds {w : World} {z : Wld} {zA9 zA10 zA11 : Option Addr} {zC9 zC10 zC11 : Nat} {row : Int} (zK : z.Ok) (zS9 : Sees w [.slice zA9 z.Groups.length zC9] z.Groups) (zS10 : Sees w [.slice zA10 z.On.length zC10] z.On) (zS11 : Sees w [.slice zA11 z.Tapes.length zC11] z.Tapes) : Ret Tryz.prog 37 #[z.val zA9 zC9 zA10 zC10 zA11 zC11, .int .i64 row] w fun v w' => Ext No w w' ∧ (v = .bool (colHolds z row)) := by
 have zK2 := zK
 unfold Wld.Ok Shape.Ok at zK2
 try unfold I64ok at zK2
 try unfold maxLen at zK2
 have zL9 := sL zS9
 obtain ⟨zF9, zO9⟩ := zS9
 have zL10 := sL zS10
 obtain ⟨zF10, zO10⟩ := zS10
 have zL11 := sL zS11
 obtain ⟨zF11, zO11⟩ := zS11
 have hw : worldF z = 0 → z.Shape.ok = true ∧ groupsOK z = true := fun h => ⟨(worldF_ok (w := z) h).1, (worldF_ok (w := z) h).2.1⟩
 refine ret_Q (vs := [z.val zA9 zC9 zA10 zC10 zA11 zC11, .int .i64 row]) Tryz.func37 rfl Tryz.ntmps37 rfl (fun Q hQ hN => ?_)
 have H0 := Sep.start (w := w) (F := [seen false [.slice zA9 z.Groups.length zC9] z.Groups zF9, seen false [.slice zA10 z.On.length zC10] z.On zF10, seen false [.slice zA11 z.Tapes.length zC11] z.Tapes zF11]) (all_cons zO9 (all_cons zO10 (all_cons zO11 (by simp))))
 refine W_sr (s_box (wn rfl) rfl rfl H0 (fun b1 w1 e1 g1 H1 => ?_))
 refine sA rfl rfl (s_nil (W_seq (W_sr (sV rfl (py_loadS tu38 rfl ts38 rfl rfl (At.whole (H1.box 0 rfl))) (s_call (wn rfl) rfl rfl (pc_call Tryz.func70 rfl Tryz_nm70 rfl) (Tryz_impl_WorldFault (by assumption) (H1.sees 0 rfl) (H1.sees 1 rfl) (H1.sees 2 rfl)) (fun v1 w2 r1 => ?_))))))
 obtain ⟨e2, rfl⟩ := r1
 have H2 := H1.to e2
 refine sV rfl (py_neq rfl rfl) (sM rfl rfl (s_grp 5 (j := 3) (want := false) (t := 17) rfl rfl rfl rfl (fun hg1 kk1 => s_val (wgE rfl rfl rfl hg1) rfl rfl (py_field tu38 rfl ts34 rfl rfl) (s_val (wgE rfl rfl rfl hg1) rfl rfl (py_loadS tu34 rfl ts34 rfl rfl (At.sub (H2.box 0 rfl) 9)) (s_val (wgE rfl rfl rfl hg1) rfl rfl (py_move rfl) (s_callv (wgE rfl rfl rfl hg1) rfl rfl (pc_call Tryz.func72 rfl Tryz_nm72 rfl) (Tryz_impl_Shape_isRow (by first | assumption | exact (hw (by simp_all)).1 | exact (hw (by simp_all)).2 | (have hws := (hw (by simp_all)).1; rw [← place_grp hws]; simp_all; done) | (simp_all; done))) (fun w4 e4 => s_val (wgE rfl rfl rfl hg1) rfl rfl (py_not rfl) (kk1 _ _ (kx rfl (kx rfl (kx rfl (kx rfl (kx rfl k0))))) rfl (Ext.refl.trans e4))))))) (fun w3 e3 => ?_)))
 have H3 := H2.to e3
 refine sV rfl (py_bor rfl rfl) (s_nil (W_if rfl (fun c1 => ?_) (fun c1 => ?_)))
 ·refine W_sr (sA rfl rfl (s_nil (rT hQ Tryz.results37 rfl ?_)))
  exact ⟨H3.ext, congrArg Value.bool (col_bad (fun hh => by have hc := c1; simp [hh.1, hh.2] at hc)).symm⟩
 ·refine W_skip (W_seq (W_seq ?_))
  obtain ⟨hw0, hr⟩ : worldF z = 0 ∧ ins row 0 (z.Shape.Rows - 1) = true := by have hc := c1; simp at hc; exact hc
  obtain ⟨hs, hG⟩ := hw hw0
  have hT := (worldF_ok hw0).2.2.2.1
  have hrl := recs_bd hw0
  have sbd := shape_bd hs
  have hcn : colN z = (z.Shape.Groups + z.Shape.Column).toNat := rfl
  refine W_reg (s_call (wn rfl) rfl rfl (pc_call Tryz.func99 rfl Tryz_nm99 rfl) (Tryz_impl_World_counted (H3.box 0 rfl) (by assumption) (own_weak (H3.seen 0 rfl)) (own_weak (H3.seen 1 rfl)) (own_weak (H3.seen 2 rfl)) (by first | assumption | omega) (by first | assumption | omega)) (fun v2 w5 r2 => ?_))
  obtain ⟨e5, vs1, r2, hR1, hM1⟩ := r2
  obtain ⟨fp1, H4⟩ := H3.res e5 r2
  obtain ⟨sa1, sk1, sq1⟩ := own_slice (H4.mine 1 rfl)
  cases sq1
  have hl1 : vs1.length = (cntL z).length := by rw [← hM1, List.length_map]
  have hb1 := cntL_bd (z := z) (by first | assumption | omega) (by assumption)
  have hRw1 : RdV w zF11 vs1 := hR1.back H4.ext (Rp.lt zO11)
  refine sV rfl (py_len tu30 rfl) (sM rfl rfl (s_nil (W_block (W_loopS (γ := Nat) H4 [(1, _), (2, _), (19, _), (20, _)] ⟨rfl, rfl, rfl, rfl, trivial⟩ (fun k => [(21, .int .i64 k)]) (fun k => k ≤ (cntL z).length ∧ (∀ i, i < k → mvR row ((cntL z).getD i default) = false)) (fun k => (cntL z).length - k) 0 ⟨rfl, trivial⟩ ⟨by omega, fun i hi => by omega⟩ (fun k w6 H5 ⟨hk, he⟩ => ?_)))))
  dsimp only [lCA, lNA]
  refine W_sr (sV rfl (py_lss rfl rfl) (s_nil (W_seq (W_ifd rfl (fun c2 => ?_) (fun c2 => ?_)))))
  ·refine W_skip (W_seq (W_block (W_seq ?_)))
   have hel : (vs1.getD k default).r = (cntL z).getD k default := map_getD hM1 (by omega)
   obtain ⟨eb1, eo1, ee1, ec1, eK1⟩ := H5.viewAt 1 rfl k (by omega)
   refine W_reg (sV rfl (py_elz tu30 ts68 rfl rfl ee1 k (by omega) (by omega)) (sV rfl (py_loadS tu68 rfl ts68 rfl rfl ec1) (s_var (wn rfl) rfl Tryz.zeroValue68 H5 (fun b2 w7 e6 g2 H6 => ?_))))
   refine s_stoS (wn rfl) ts68 rfl rfl rfl rfl H6 2 rfl rfl (fun w8 e7 H7 => ?_)
   dsimp only [lNA, lCA, lSZ, lSS, layL] at H7
   refine s_nil (W_sr (sV rfl (py_field tu68 rfl ts2 rfl rfl) (sV rfl (py_load tu2 rfl rfl (cell_atL (H7.box 2 rfl) rfl)) (sV rfl (py_eql rfl rfl) (sM rfl rfl (s_grp 4 (j := 3) (want := true) (t := 32) rfl rfl rfl rfl (fun hg2 kk2 => s_val (wgE rfl rfl rfl hg2) rfl rfl (py_field tu68 rfl ts2 rfl rfl) (s_val (wgE rfl rfl rfl hg2) rfl rfl (py_load tu2 rfl rfl (cell_atL (H7.box 2 rfl) rfl)) (s_val (wgE rfl rfl rfl hg2) rfl rfl (py_move rfl) (s_val (wgE rfl rfl rfl hg2) rfl rfl (py_eql rfl rfl) (kk2 _ _ (kx rfl (kx rfl (kx rfl (kx rfl k0)))) rfl Ext.refl))))) (fun w9 e8 => ?_)))))))
   have H8 := H7.to e8
   refine sV rfl (py_band rfl rfl) (s_nil (W_if rfl (fun c3 => ?_) (fun c3 => ?_)))
   ·refine W_sr (sA rfl rfl (s_nil (rT hQ Tryz.results37 rfl ?_)))
    exact ⟨H8.ext, congrArg Value.bool (col_mv (anyR_yes (k := k) (by omega) (by rw [← hel]; unfold mvR; simpa using c3))).symm⟩
   ·refine W_skip (W_reg (sV rfl (py_add rfl rfl (in64 ⟨by omega, by omega⟩)) (sM rfl rfl (s_nil (⟨k + 1, ⟨rfl, rfl, rfl, rfl, rfl, trivial⟩, ⟨(H8.dtake 2), by omega, fun i hi => ?_⟩, by dsimp only; omega⟩)))))
    by_cases e : i = k
    ·subst e; rw [← hel]; unfold mvR; simpa using c3
    ·exact he i (by omega)
  ·refine W_exit (W_sr (s_lit0 (α := (List UInt8)) (wn rfl) rfl tu112 Tryz_ty45 H5 (fun b3 w10 e9 g3 H9 => ?_)))
   refine sA rfl rfl (s_nil (W_seq (W_sr (sV rfl (py_field tu38 rfl ts34 rfl rfl) (sV rfl (py_loadS tu34 rfl ts34 rfl rfl (At.sub (H9.box 0 rfl) 9)) (s_call (wn rfl) rfl rfl (pc_call Tryz.func100 rfl Tryz_nm100 rfl) (Tryz_impl_Shape_all (by assumption)) (fun v3 w11 r3 => ?_)))))))
   obtain ⟨e10, rfl⟩ := r3
   have H10 := H9.to e10
   refine sM rfl rfl (s_nil (W_block (W_loopA (α := (List UInt8)) (γ := Nat) (fun k => rwsTo z row k) 0 H10 2 rfl 7 rfl [(1, _), (2, _), (38, _)] ⟨rfl, rfl, rfl, trivial⟩ (fun k => [(39, .int .i64 k)]) (fun k => k ≤ colN z ∧ (∀ i, i < k → deadF z i = false)) (fun k => colN z - k) ⟨rfl, trivial⟩ ⟨by omega, fun i hi => by omega⟩ (fun k vA1 fA1 w12 H11 ⟨hk2, hdd⟩ => ?_))))
   dsimp only [lCA, lNA, lSZ, lSS] at H11 ⊢
   refine W_sr (sV rfl (py_lss rfl rfl) (s_nil (W_seq (W_ifd rfl (fun c4 => ?_) (fun c4 => ?_)))))
   ·refine W_skip (W_seq (W_block (W_sr (sM rfl rfl (sA rfl rfl (s_nil (W_seq (W_seq ?_))))))))
    have hgk : ins (k : Int) 0 (z.Shape.Groups + z.Shape.Column - 1) = true := ins_iff.2 (by omega)
    have rwl := rws_len (z := z) (row := row) (k := k)
    refine W_reg (sM rfl rfl (s_call (wn rfl) rfl rfl (pc_call Tryz.func101 rfl Tryz_nm101 rfl) (Tryz_impl_World_dead (H11.box 0 rfl) (by assumption) (H11.sees 0 rfl) (H11.sees 1 rfl) (H11.sees 2 rfl) (by first | assumption | exact hgz (by simp_all)) (by first | assumption | exact hgz (by simp_all)) (by first | assumption | exact hgz (by simp_all))) (fun v4 w13 r4 => ?_)))
    obtain ⟨e11, rfl⟩ := r4
    have H12 := H11.to e11
    refine s_nil (W_if rfl (fun c5 => ?_) (fun c5 => ?_))
    ·refine W_sr (sA rfl rfl (s_nil (rT hQ Tryz.results37 rfl ?_)))
     exact ⟨H12.ext, congrArg Value.bool (col_dead (k := k) (by omega) (by simpa using c5)).symm⟩
    ·refine W_skip ?_
     have hdk : deadF z k = false := by simpa using c5
     refine W_reg (sM rfl rfl (sM rfl rfl (sM rfl rfl (s_call (wn rfl) rfl rfl (pc_call Tryz.func102 rfl Tryz_nm102 rfl) (Tryz_impl_World_rowBytes (H12.box 0 rfl) (by assumption) (own_weak (H12.seen 0 rfl)) (own_weak (H12.seen 1 rfl)) (own_weak (H12.seen 2 rfl)) (by assumption) (by assumption) (by assumption) (by assumption)) (fun v5 w14 r5 => ?_)))))
     obtain ⟨e12, r5⟩ := r5
     obtain ⟨fp2, H13⟩ := H12.res e12 r5
     obtain ⟨a1, k1, q1⟩ := own_slice (H13.mine 3 rfl)
     cases q1
     refine s_lit1 (wn rfl) rfl tu112 Tryz_ty45 rfl rfl rfl rfl H13 (fun b4 w15 e13 g4 H14 => ?_)
     refine s_app2 (wn rfl) rfl tu112 Tryz_ty45 rfl rfl rfl H14 2 4 3 rfl rfl rfl rfl (by unfold maxLen; omega) (by omega) (fun v6 w16 fp3 H15 => ?_)
     refine sA rfl rfl (s_nil (W_reg (sV rfl (py_add rfl rfl (in64 ⟨by omega, by omega⟩)) (sM rfl rfl (s_nil ?_)))))
     have hz := (H15.dtake 3)
     rw [rws_step] at hz
     exact ⟨(k + 1, _, _), ⟨rfl, rfl, rfl, rfl, rfl, trivial⟩, ⟨hz, by (try dsimp only); omega, fun i hi => by
      by_cases e : i = k
      ·rw [e]; exact hdk
      ·exact hdd i (by (try dsimp only at hi); omega)⟩, by dsimp only; omega⟩
   ·refine W_exit (W_seq ?_)
    obtain ⟨oa1, ok1, oq1⟩ := own_slice (H11.mine 2 rfl)
    cases oq1
    refine W_reg (sV rfl (py_field tu38 rfl ts34 rfl rfl) (sV rfl (py_loadS tu34 rfl ts34 rfl rfl (At.sub (H11.box 0 rfl) 9)) (s_call (wn rfl) rfl rfl (pc_call Tryz.func103 rfl Tryz_nm103 rfl) (Tryz_impl_Shape_columns (by assumption)) (fun v7 w17 r6 => ?_))))
    obtain ⟨e14, rfl⟩ := r6
    have H16 := H11.to e14
    refine sM rfl rfl ?_
    have hkk : k = colN z := by omega
    have hlx : ∀ i, i < (rwsTo z row k).length → ((rwsTo z row k).getD i []).length = z.Shape.Data.toNat * 4 := fun i hi => by rw [rws_len] at hi; rw [rws_get hi]; have := rowB_len hs hG (ins_iff.2 (by omega)) hr (hdd i (by omega)); omega
    have hrl2 := rws_len (z := z) (row := row) (k := k)
    have lc := Tryz_impl_columnCode_fits (n := z.Shape.Groups.toNat) (s := z.Shape.Column.toNat) (m := z.Shape.Data.toNat * 4) (xs := rwsTo z row k) (by omega) (by omega) (by omega) hlx (by omega) ⟨_, own_weak (H16.mine 2 rfl)⟩
    rw [Int.toNat_of_nonneg (show 0 ≤ z.Shape.Column by omega)] at lc
    refine s_call (wn rfl) rfl rfl (pc_call Tryz.func104 rfl Tryz_nm104 rfl) lc (fun v8 w18 r7 => ?_)
    obtain ⟨e15, rfl⟩ := r7
    have H17 := H16.to e15
    refine sA rfl rfl (s_nil (rT hQ Tryz.results37 rfl ?_))
    have hkc : k = colN z := by omega
    exact ⟨H17.ext, congrArg Value.bool (by rw [col_end hw0 hr (fun i hi => he i (by omega)) (fun i hi => hdd i (by omega)), hkc])⟩
theorem Tryz_spec_l10Column {w : World} {zb zC9 zC10 zC11 : Nat} {z : Wld} {zA9 zA10 zA11 : Option Addr} {zF9 zF10 zF11 : List Nat} {row : Int} (zB : w.heap[zb]? = some (.cells [.int .i64 z.Shape.Groups, .int .i64 z.Shape.Column, .int .i64 z.Shape.Data, .int .i64 z.Shape.Spare, .int .i64 z.Shape.Rows, .int .i64 z.Shape.Cap, .int .i64 z.Shape.Batch, .int .i64 z.Shape.Queue, .int .i64 z.Shape.Stage, .slice zA9 z.Groups.length zC9, .slice zA10 z.On.length zC10, .slice zA11 z.Tapes.length zC11, .int .i64 z.Writes, .int .i64 z.Stop, .bool z.Down].toArray 38)) (zK : z.Ok) (zO9 : own false w [.slice zA9 z.Groups.length zC9] z.Groups zF9) (zO10 : own false w [.slice zA10 z.On.length zC10] z.On zF10) (zO11 : own false w [.slice zA11 z.Tapes.length zC11] z.Tapes zF11) (hw0 : worldF z = 0) (hr : ins row 0 (z.Shape.Rows - 1) = true) : Ret Tryz.prog 98 #[.pointer (some ⟨zb, 0, none⟩), .int .i64 row] w fun v w' => Ext No w w' ∧ (v = .bool (colHolds z row)) := by
 have zK2 := zK
 unfold Wld.Ok Shape.Ok at zK2
 try unfold I64ok at zK2
 try unfold maxLen at zK2
 have zL9 := oL zO9
 have zL10 := oL zO10
 have zL11 := oL zO11
 have hw : worldF z = 0 → z.Shape.ok = true ∧ groupsOK z = true := fun h => ⟨(worldF_ok (w := z) h).1, (worldF_ok (w := z) h).2.1⟩
 obtain ⟨hs, hG⟩ := hw hw0
 have hT := (worldF_ok hw0).2.2.2.1
 have hrl := recs_bd hw0
 have sbd := shape_bd hs
 have hcn : colN z = (z.Shape.Groups + z.Shape.Column).toNat := rfl
 refine ret_Q (vs := [.pointer (some ⟨zb, 0, none⟩), .int .i64 row]) Tryz.func98 rfl Tryz.ntmps98 rfl (fun Q hQ hN => ?_)
 have H0 := Sep.start (w := w) (F := [box zb (.cells [.int .i64 z.Shape.Groups, .int .i64 z.Shape.Column, .int .i64 z.Shape.Data, .int .i64 z.Shape.Spare, .int .i64 z.Shape.Rows, .int .i64 z.Shape.Cap, .int .i64 z.Shape.Batch, .int .i64 z.Shape.Queue, .int .i64 z.Shape.Stage, .slice zA9 z.Groups.length zC9, .slice zA10 z.On.length zC10, .slice zA11 z.Tapes.length zC11, .int .i64 z.Writes, .int .i64 z.Stop, .bool z.Down].toArray 38), seen false [.slice zA9 z.Groups.length zC9] z.Groups zF9, seen false [.slice zA10 z.On.length zC10] z.On zF10, seen false [.slice zA11 z.Tapes.length zC11] z.Tapes zF11]) (all_cons (by exact zB) (all_cons zO9 (all_cons zO10 (all_cons zO11 (by simp)))))
 refine W_sr (sA rfl rfl (s_nil (W_sr (sM rfl rfl (s_call (wn rfl) rfl rfl (pc_call Tryz.func63 rfl Tryz_nm63 rfl) (Tryz_spec_l6Counted (H0.fbox 0 rfl) (by assumption) (own_weak (H0.seen 1 rfl)) (own_weak (H0.seen 2 rfl)) (own_weak (H0.seen 3 rfl)) (by first | assumption | omega) (by first | assumption | omega)) (fun v1 w1 r1 => ?_))))))
 obtain ⟨e1, vs1, r1, hR1, hM1⟩ := r1
 obtain ⟨fp1, H1⟩ := H0.res e1 r1
 obtain ⟨sa1, sk1, sq1⟩ := own_slice (H1.mine 0 rfl)
 cases sq1
 have hl1 : vs1.length = (cntL z).length := by rw [← hM1, List.length_map]
 have hb1 := cntL_bd (z := z) (by first | assumption | omega) (by assumption)
 have hRw1 : RdV w zF11 vs1 := hR1.back H1.ext (Rp.lt zO11)
 refine sA rfl rfl (s_nil (W_seq (W_sr (sA rfl rfl (s_nil (W_block (W_loopS (γ := Nat) H1 [(0, _), (1, _), (5, _)] ⟨rfl, rfl, rfl, trivial⟩ (fun k => [(6, .int .i64 k)]) (fun k => k ≤ (cntL z).length ∧ (∀ i, i < k → mvR row ((cntL z).getD i default) = false)) (fun k => (cntL z).length - k) 0 ⟨rfl, trivial⟩ ⟨by omega, fun i hi => by omega⟩ (fun k w2 H2 ⟨hk, he⟩ => ?_))))))))
 dsimp only [lCA, lNA]
 refine W_seq (W_sr (sM rfl rfl (sM rfl rfl (sV rfl (py_len tu30 rfl) (sV rfl (py_lss rfl rfl) (s_nil (W_ifd rfl (fun c1 => ?_) (fun c1 => ?_))))))))
 ·refine W_skip (W_seq (W_block (W_seq ?_)))
  have hel : (vs1.getD k default).r = (cntL z).getD k default := map_getD hM1 (by omega)
  obtain ⟨eb1, eo1, ee1, ec1, eK1⟩ := H2.viewAt 0 rfl k (by omega)
  refine W_reg (sM rfl rfl (sM rfl rfl (sV rfl (py_elz tu30 ts68 rfl rfl ee1 k (by omega) (by omega)) (sV rfl (py_field tu68 rfl ts2 rfl rfl) (sV rfl (py_load tu2 rfl rfl (at_cell ec1 0 rfl)) (sV rfl (py_eql rfl rfl) (sM rfl rfl (s_grp 7 (j := 6) (want := true) (t := 32) rfl rfl rfl rfl (fun hg1 kk1 => s_val (wgE rfl rfl rfl hg1) rfl rfl (py_move rfl) (s_val (wgE rfl rfl rfl hg1) rfl rfl (py_move rfl) (s_val (wgE rfl rfl rfl hg1) rfl rfl (py_elz tu30 ts68 rfl rfl ee1 k (by first | omega | (simp only [Bool.or_eq_false_iff, Bool.and_eq_true, Bool.and_eq_false_iff, Bool.or_eq_true, Bool.not_eq_true', Bool.not_eq_false', decide_eq_true_eq, decide_eq_false_iff_not] at hg1; omega)) (by omega)) (s_val (wgE rfl rfl rfl hg1) rfl rfl (py_field tu68 rfl ts2 rfl rfl) (s_val (wgE rfl rfl rfl hg1) rfl rfl (py_load tu2 rfl rfl (at_cell ec1 5 rfl)) (s_val (wgE rfl rfl rfl hg1) rfl rfl (py_move rfl) (s_val (wgE rfl rfl rfl hg1) rfl rfl (py_eql rfl rfl) (kk1 _ _ (kx rfl (kx rfl (kx rfl (kx rfl (kx rfl (kx rfl (kx rfl k0))))))) rfl Ext.refl)))))))) (fun w3 e2 => ?_)))))))))
  have H3 := H2.to e2
  refine sV rfl (py_band rfl rfl) (s_nil (W_if rfl (fun c2 => ?_) (fun c2 => ?_)))
  ·refine W_sr (sA rfl rfl (s_nil (rT hQ Tryz.results98 rfl ?_)))
   exact ⟨H3.ext, congrArg Value.bool (col_mv (anyR_yes (k := k) (by omega) (by rw [← hel]; unfold mvR; simpa using c2))).symm⟩
  ·refine W_skip (W_reg (sM rfl rfl (sV rfl (py_add rfl rfl (in64 ⟨by omega, by omega⟩)) (sA rfl rfl (s_nil (⟨k + 1, ⟨rfl, rfl, rfl, rfl, trivial⟩, ⟨H3, by omega, fun i hi => ?_⟩, by dsimp only; omega⟩))))))
   by_cases e : i = k
   ·subst e; rw [← hel]; unfold mvR; simpa using c2
   ·exact he i (by omega)
 ·refine W_exit (W_sr (s_lit0 (α := (List UInt8)) (wn rfl) rfl tu112 Tryz_ty45 H2 (fun b1 w4 e3 g1 H4 => ?_)))
  refine sA rfl rfl (s_nil (W_seq (W_sr (sA rfl rfl (s_nil (W_block (W_loopA (α := (List UInt8)) (γ := Nat) (fun k => rwsTo z row k) 0 H4 1 rfl 7 rfl [(0, _), (1, _)] ⟨rfl, rfl, trivial⟩ (fun k => [(8, .int .i64 k)]) (fun k => k ≤ colN z ∧ (∀ i, i < k → deadF z i = false)) (fun k => colN z - k) ⟨rfl, trivial⟩ ⟨by omega, fun i hi => by omega⟩ (fun k vA1 fA1 w5 H5 ⟨hk2, hdd⟩ => ?_))))))))
  dsimp only [lCA, lNA, lSZ, lSS] at H5 ⊢
  refine W_seq (W_sr (sM rfl rfl (sM rfl rfl (sV rfl (py_nil rfl) (sV rfl (py_field tu38 rfl ts34 rfl rfl) (sV rfl (py_loadS tu34 rfl ts34 rfl rfl (At.sub (H5.fbox 0 rfl) 9)) (s_call (wn rfl) rfl rfl (pc_call Tryz.func162 rfl Tryz_nm162 rfl) (Tryz_spec_l5All (by assumption)) (fun v2 w6 r2 => ?_))))))))
  obtain ⟨e4, rfl⟩ := r2
  have H6 := H5.to e4
  refine sV rfl (py_lss rfl rfl) (s_nil (W_ifd rfl (fun c3 => ?_) (fun c3 => ?_)))
  ·refine W_skip (W_seq (W_block (W_seq ?_)))
   have hgk : ins (k : Int) 0 (z.Shape.Groups + z.Shape.Column - 1) = true := ins_iff.2 (by omega)
   have rwl := rws_len (z := z) (row := row) (k := k)
   refine W_reg (sM rfl rfl (sM rfl rfl (sM rfl rfl (s_call (wn rfl) rfl rfl (pc_call Tryz.func166 rfl Tryz_nm166 rfl) (Tryz_spec_l7Bytes (H6.fbox 0 rfl) (by assumption) (H6.sees 1 rfl) (H6.sees 2 rfl) (H6.sees 3 rfl) (by assumption) (by assumption) (by assumption) (by assumption)) (fun v3 w7 r3 => ?_)))))
   obtain ⟨e5, sa2, sk2, rfl, r3⟩ := r3
   obtain ⟨fp2, H7⟩ := H6.res e5 r3
   refine sM rfl rfl (sV rfl (py_extr rfl rfl) (sV rfl (py_extr rfl rfl) (sA rfl rfl (sA rfl rfl (s_nil (W_seq (W_sr (sM rfl rfl (sV rfl (py_not rfl) (sM rfl rfl (s_grp 3 (j := 2) (want := false) (t := 56) rfl rfl rfl rfl (fun hg2 kk2 => s_val (wgE rfl rfl rfl hg2) rfl rfl (py_move rfl) (s_val (wgE rfl rfl rfl hg2) rfl rfl (py_move rfl) (s_callv (wgE rfl rfl rfl hg2) rfl rfl (pc_call Tryz.func158 rfl Tryz_nm158 rfl) (Tryz_spec_l7Dead (H7.fbox 0 rfl) (by assumption) (H7.sees 1 rfl) (H7.sees 2 rfl) (H7.sees 3 rfl) (by assumption) (by assumption) (by assumption)) (fun w9 e7 => kk2 _ _ (kx rfl (kx rfl (kx rfl k0))) rfl (Ext.refl.trans e7))))) (fun w8 e6 => ?_))))))))))))
   have H8 := H7.to e6
   refine sV rfl (py_bor rfl rfl) (s_nil (W_if rfl (fun c4 => ?_) (fun c4 => ?_)))
   ·refine W_sr (sA rfl rfl (s_nil (rT hQ Tryz.results98 rfl ?_)))
    exact ⟨H8.ext, congrArg Value.bool (col_dead (k := k) (by omega) (by simpa using c4)).symm⟩
   ·refine W_skip ?_
    have hdk : deadF z k = false := by simpa using c4
    refine W_reg (sM rfl rfl (sM rfl rfl (s_lit1 (wn rfl) rfl tu112 Tryz_ty45 rfl rfl rfl rfl H8 (fun b2 w10 e8 g2 H9 => ?_))))
    refine s_app2 (wn rfl) rfl tu112 Tryz_ty45 rfl rfl rfl H9 1 3 2 rfl rfl rfl rfl (by unfold maxLen; omega) (by omega) (fun v4 w11 fp3 H10 => ?_)
    refine sA rfl rfl (s_nil (W_reg (sM rfl rfl (sV rfl (py_add rfl rfl (in64 ⟨by omega, by omega⟩)) (sA rfl rfl (s_nil ?_))))))
    have hz := (H10.dtake 2)
    rw [rws_step] at hz
    exact ⟨(k + 1, _, _), ⟨rfl, rfl, rfl, rfl, trivial⟩, ⟨hz, by (try dsimp only); omega, fun i hi => by
     by_cases e : i = k
     ·rw [e]; exact hdk
     ·exact hdd i (by (try dsimp only at hi); omega)⟩, by dsimp only; omega⟩
  ·refine W_exit (W_seq ?_)
   obtain ⟨oa1, ok1, oq1⟩ := own_slice (H6.mine 1 rfl)
   cases oq1
   refine W_reg (sM rfl rfl (sM rfl rfl (sV rfl (py_nil rfl) (sV rfl (py_field tu38 rfl ts34 rfl rfl) (sV rfl (py_field tu34 rfl ts2 rfl rfl) (sV rfl (py_load tu2 rfl rfl (cell_atL (H6.fbox 0 rfl) rfl)) ?_))))))
   have hkk : k = colN z := by omega
   have hlx : ∀ i, i < (rwsTo z row k).length → ((rwsTo z row k).getD i []).length = z.Shape.Data.toNat * 4 := fun i hi => by rw [rws_len] at hi; rw [rws_get hi]; have := rowB_len hs hG (ins_iff.2 (by omega)) hr (hdd i (by omega)); omega
   have hrl2 := rws_len (z := z) (row := row) (k := k)
   have lc := Tryz_spec_ColumnFits (n := z.Shape.Groups.toNat) (s := z.Shape.Column.toNat) (m := z.Shape.Data.toNat * 4) (xs := rwsTo z row k) (by omega) (by omega) (by omega) hlx (by omega) ⟨_, own_weak (H6.mine 1 rfl)⟩
   rw [Int.toNat_of_nonneg (show 0 ≤ z.Shape.Column by omega)] at lc
   refine s_call (wn rfl) rfl rfl (pc_call Tryz.func167 rfl Tryz_nm167 rfl) lc (fun v5 w12 r4 => ?_)
   obtain ⟨e9, rfl⟩ := r4
   have H11 := H6.to e9
   refine sA rfl rfl (s_nil (rT hQ Tryz.results98 rfl ?_))
   have hkc : k = colN z := by omega
   exact ⟨H11.ext, congrArg Value.bool (by rw [col_end hw0 hr (fun i hi => he i (by omega)) (fun i hi => hdd i (by omega)), hkc])⟩
theorem Tryz_spec_ColumnHolds {w : World} {z : Wld} {zA9 zA10 zA11 : Option Addr} {zC9 zC10 zC11 : Nat} {row : Int} (zK : z.Ok) (zS9 : Sees w [.slice zA9 z.Groups.length zC9] z.Groups) (zS10 : Sees w [.slice zA10 z.On.length zC10] z.On) (zS11 : Sees w [.slice zA11 z.Tapes.length zC11] z.Tapes) : Ret Tryz.prog 36 #[z.val zA9 zC9 zA10 zC10 zA11 zC11, .int .i64 row] w fun v w' => Ext No w w' ∧ (v = .bool (colHolds z row)) := by
 have zK2 := zK
 unfold Wld.Ok Shape.Ok at zK2
 try unfold I64ok at zK2
 try unfold maxLen at zK2
 have zL9 := sL zS9
 obtain ⟨zF9, zO9⟩ := zS9
 have zL10 := sL zS10
 obtain ⟨zF10, zO10⟩ := zS10
 have zL11 := sL zS11
 obtain ⟨zF11, zO11⟩ := zS11
 have hw : worldF z = 0 → z.Shape.ok = true ∧ groupsOK z = true := fun h => ⟨(worldF_ok (w := z) h).1, (worldF_ok (w := z) h).2.1⟩
 refine ret_Q (vs := [z.val zA9 zC9 zA10 zC10 zA11 zC11, .int .i64 row]) Tryz.func36 rfl Tryz.ntmps36 rfl (fun Q hQ hN => ?_)
 have H0 := Sep.start (w := w) (F := [seen false [.slice zA9 z.Groups.length zC9] z.Groups zF9, seen false [.slice zA10 z.On.length zC10] z.On zF10, seen false [.slice zA11 z.Tapes.length zC11] z.Tapes zF11]) (all_cons zO9 (all_cons zO10 (all_cons zO11 (by simp))))
 refine W_sr (s_box (wn rfl) rfl rfl H0 (fun b1 w1 e1 g1 H1 => ?_))
 refine sA rfl rfl (s_nil (W_sr (sV rfl (py_loadS tu38 rfl ts38 rfl rfl (At.whole (H1.box 0 rfl))) (s_call (wn rfl) rfl rfl (pc_call Tryz.func93 rfl Tryz_nm93 rfl) (Tryz_spec_WorldFault (by assumption) (H1.sees 0 rfl) (H1.sees 1 rfl) (H1.sees 2 rfl)) (fun v1 w2 r1 => ?_)))))
 obtain ⟨e2, rfl⟩ := r1
 have H2 := H1.to e2
 refine sV rfl (py_eql rfl rfl) (sM rfl rfl (s_case (t := 8) rfl (fun hg1 => ?_) (fun hg1 => ?_)))
 ·have hw0 : worldF z = 0 := by simpa using hg1
  have sbd := shape_bd (hw hw0).1
  refine s_val (wg rfl rfl rfl) rfl rfl (py_move rfl) (s_val (wg rfl rfl rfl) rfl rfl (py_field tu38 rfl ts34 rfl rfl) (s_val (wg rfl rfl rfl) rfl rfl (py_field tu34 rfl ts2 rfl rfl) (s_val (wg rfl rfl rfl) rfl rfl (py_load tu2 rfl rfl (cell_atL (H2.box 0 rfl) rfl)) (s_val (wg rfl rfl rfl) rfl rfl (py_sub rfl rfl (in64 ⟨by omega, by omega⟩)) (s_call (wg rfl rfl rfl) rfl rfl (pc_call Tryz.func97 rfl Tryz_nm97 rfl) Tryz_spec_l1In (fun v2 w3 r2 => ?_))))))
  obtain ⟨e3, rfl⟩ := r2
  have H3 := H2.to e3
  refine sV rfl (py_pickT rfl rfl) (sM rfl rfl (s_case (t := 16) rfl (fun hg2 => ?_) (fun hg2 => ?_)))
  ·have hr : ins row 0 (z.Shape.Rows - 1) = true := by simpa using hg2
   refine s_val (wg rfl rfl rfl) rfl rfl (py_move rfl) (s_call (wg rfl rfl rfl) rfl rfl (pc_call Tryz.func98 rfl Tryz_nm98 rfl) (Tryz_spec_l10Column (H3.box 0 rfl) (by assumption) (own_weak (H3.seen 0 rfl)) (own_weak (H3.seen 1 rfl)) (own_weak (H3.seen 2 rfl)) (by first | assumption | (simp_all; done)) (by first | assumption | (simp_all; done))) (fun v3 w4 r3 => ?_))
   obtain ⟨e4, rfl⟩ := r3
   have H4 := H3.to e4
   refine sV rfl (py_pickT rfl rfl) (sA rfl rfl (s_nil (rT hQ Tryz.results36 rfl ?_)))
   exact ⟨H4.ext, congrArg Value.bool (by first | rfl | (rw [col_bad (fun hh => hbad hh.1)]; done) | (rw [col_bad (fun hh => hbad2 hh.2)]; done))⟩
  ·have hbad2 : ¬ ins row 0 (z.Shape.Rows - 1) = true := by simpa using hg2
   refine sKf rfl rfl rfl (sKf rfl rfl rfl (sV rfl (py_pickF rfl rfl) (sA rfl rfl (s_nil (rT hQ Tryz.results36 rfl ?_)))))
   exact ⟨H3.ext, congrArg Value.bool (by first | rfl | (rw [col_bad (fun hh => hbad hh.1)]; done) | (rw [col_bad (fun hh => hbad2 hh.2)]; done))⟩
 ·have hbad : ¬ worldF z = 0 := by simpa using hg1
  refine sKf rfl rfl rfl (sKf rfl rfl rfl (sKf rfl rfl rfl (sKf rfl rfl rfl (sKf rfl rfl rfl (sKf rfl rfl rfl (sV rfl (py_pickF rfl rfl) (sM rfl rfl (sKf rfl rfl rfl (sKf rfl rfl rfl (sV rfl (py_pickF rfl rfl) (sA rfl rfl (s_nil (rT hQ Tryz.results36 rfl ?_)))))))))))))
  exact ⟨H2.ext, congrArg Value.bool (by first | rfl | (rw [col_bad (fun hh => hbad hh.1)]; done) | (rw [col_bad (fun hh => hbad2 hh.2)]; done))⟩
end Go.Wk
namespace Go.Wk
open Go.Proofs Rp
set_option maxRecDepth 10000
theorem Tryz_laws_FnExactColumnHolds {w : World} {z : Wld} {zA9 zA10 zA11 : Option Addr} {zC9 zC10 zC11 : Nat} {row : Int} (zK : z.Ok) (zS9 : Sees w [.slice zA9 z.Groups.length zC9] z.Groups) (zS10 : Sees w [.slice zA10 z.On.length zC10] z.On) (zS11 : Sees w [.slice zA11 z.Tapes.length zC11] z.Tapes) : Ret Tryz.prog 7 #[z.val zA9 zC9 zA10 zC10 zA11 zC11, .int .i64 row] w fun v w' => Ext No w w' ∧ (v = .bool true) := by
 have zK2 := zK
 unfold Wld.Ok Shape.Ok at zK2
 try unfold I64ok at zK2
 try unfold maxLen at zK2
 have zL9 := sL zS9
 obtain ⟨zF9, zO9⟩ := zS9
 have zL10 := sL zS10
 obtain ⟨zF10, zO10⟩ := zS10
 have zL11 := sL zS11
 obtain ⟨zF11, zO11⟩ := zS11
 refine ret_Q (vs := [z.val zA9 zC9 zA10 zC10 zA11 zC11, .int .i64 row]) Tryz.func7 rfl Tryz.ntmps7 rfl (fun Q hQ hN => ?_)
 have H0 := Sep.start (w := w) (F := [seen false [.slice zA9 z.Groups.length zC9] z.Groups zF9, seen false [.slice zA10 z.On.length zC10] z.On zF10, seen false [.slice zA11 z.Tapes.length zC11] z.Tapes zF11]) (all_cons zO9 (all_cons zO10 (all_cons zO11 (by simp))))
 refine W_sr (s_box (wn rfl) rfl rfl H0 (fun b1 w1 e1 g1 H1 => ?_))
 refine sA rfl rfl (s_nil (W_sr (sA rfl rfl (s_nil (W_sr (sV rfl (py_loadS tu28 rfl ts28 rfl rfl (At.whole (H1.box 0 rfl))) (sM rfl rfl (s_call (wn rfl) rfl rfl (pc_call Tryz.func15 rfl Tryz_nm15 rfl) (Tryz_laws_szWorld (by assumption) (H1.sees 0 rfl) (H1.sees 1 rfl) (H1.sees 2 rfl) (by omega)) (fun v1 w2 r1 => ?_)))))))))
 obtain ⟨e2, rfl⟩ := r1
 have H2 := H1.to e2
 refine sA rfl rfl (s_nil (W_seq (W_sr (sM rfl rfl (sV rfl (py_lss rfl rfl) (s_nil (W_ifd rfl (fun c1 => ?_) (fun c1 => ?_))))))))
 ·refine W_sr (sA rfl rfl (s_nil (rT hQ Tryz.results7 rfl ?_)))
  exact ⟨H2.ext, rfl⟩
 ·refine W_skip (W_seq ?_)
  have hsz : szWld z ≤ 1048576 := by omega
  refine W_reg (sV rfl (py_loadS tu28 rfl ts28 rfl rfl (At.whole (H2.box 0 rfl))) (s_call (wn rfl) rfl rfl (pc_call Tryz.func17 rfl Tryz_nm17 rfl) (Tryz_laws_toWorld (by assumption) (H2.sees 0 rfl) (H2.sees 1 rfl) (H2.sees 2 rfl) (by assumption)) (fun v2 w3 r2 => ?_)))
  obtain ⟨e3, sa1, sk1, sa2, sk2, sa3, sk3, rfl, r2⟩ := r2
  obtain ⟨fp1, H3⟩ := H2.res e3 r2
  have H4 := H3.share 1 rfl
  obtain ⟨sf1, sf2, sf3, sq1, sok1, so1, so2, so3⟩ := own_WldC (H4.seen 3 rfl)
  have H6 := H4.look1 3 rfl so1 (fun b hb => by rw [sq1]; simp [hb])
  have H7 := H6.look1 3 rfl so2 (fun b hb => by rw [sq1]; simp [hb])
  have H8 := H7.look1 3 rfl so3 (fun b hb => by rw [sq1]; simp [hb])
  refine sM rfl rfl (s_call (wn rfl) rfl rfl (pc_call Tryz.func36 rfl Tryz_nm36 rfl) (Tryz_spec_ColumnHolds (by assumption) (H8.sees 4 rfl) (H8.sees 5 rfl) (H8.sees 6 rfl)) (fun v3 w4 r3 => ?_))
  obtain ⟨e4, rfl⟩ := r3
  have H9 := H8.to e4
  refine sA rfl rfl (s_nil (W_sr (sV rfl (py_loadS tu28 rfl ts28 rfl rfl (At.whole (H9.box 0 rfl))) (s_call (wn rfl) rfl rfl (pc_call Tryz.func17 rfl Tryz_nm17 rfl) (Tryz_laws_toWorld (by assumption) (H9.sees 0 rfl) (H9.sees 1 rfl) (H9.sees 2 rfl) (by assumption)) (fun v4 w5 r4 => ?_)))))
  obtain ⟨e5, sa4, sk4, sa5, sk5, sa6, sk6, rfl, r4⟩ := r4
  obtain ⟨fp2, H10⟩ := H9.res e5 r4
  refine s_var (wn rfl) rfl Tryz.zeroValue38 H10 (fun b2 w6 e6 g2 H11 => ?_)
  refine s_stoS (wn rfl) ts38 rfl rfl rfl rfl H11 3 rfl rfl (fun w7 e7 H12 => ?_)
  dsimp only [lNA, lCA, lSZ, lSS, layL] at H12
  refine s_nil (W_sr (sV rfl (py_loadS tu38 rfl ts38 rfl rfl (At.whole (H12.box 3 rfl))) (sM rfl rfl (s_call (wn rfl) rfl rfl (pc_call Tryz.func37 rfl Tryz_nm37 rfl) (Tryz_impl_ColumnHolds (by assumption) (Wld.see9 (H12.mine 2 rfl)) (Wld.see10 (H12.mine 2 rfl)) (Wld.see11 (H12.mine 2 rfl))) (fun v5 w8 r5 => ?_)))))
  obtain ⟨e8, rfl⟩ := r5
  have H13 := H12.to e8
  refine sA rfl rfl (s_nil (W_seq (W_sr (sM rfl rfl (sM rfl rfl (sV rfl (py_bneq tu4 rfl rfl) (s_nil (W_if rfl (fun c2 => ?_) (fun c2 => ?_)))))))))
  ·exfalso; simp_all
  ·refine W_skip (W_seq (W_seq (W_drw (S := Ext No _) [(0, true), (1, true), (2, false), (3, false), (4, false)] (by kernel_rfl) (by kernel_rfl) (by kernel_rfl) rfl (fun _ => Ext.refl.drawn _) (fun q1 => ?_))))
   have H14 := H13.drawn q1
   refine dV rfl rfl (fun zw hx => py_loadS tu38 rfl ts38 rfl rfl (At.whole (hx.heap (H14.box 3 rfl)))) (dV rfl rfl (fun zw hx => py_loadS tu28 rfl ts28 rfl rfl (At.whole (hx.heap (H14.box 0 rfl)))) (d_call rfl (wn rfl) rfl rfl (pc_call Tryz.func17 rfl Tryz_nm17 rfl) (Tryz_laws_toWorld (by assumption) (H14.sees 0 rfl) (H14.sees 1 rfl) (H14.sees 2 rfl) (by assumption)) (fun hS _ _ r _ => hS.trans r.1.no) (fun v6 w9 r6 => ?_)))
   obtain ⟨e9, sa7, sk7, sa8, sk8, sa9, sk9, rfl, r6⟩ := r6
   obtain ⟨fp3, H15⟩ := H14.res e9 r6
   have H16 := H15.share 4 rfl
   obtain ⟨sf4, sf5, sf6, sq2, sok2, so4, so5, so6⟩ := own_WldC (H16.seen 7 rfl)
   have H18 := H16.look1 7 rfl so4 (fun b hb => by rw [sq2]; simp [hb])
   have H19 := H18.look1 7 rfl so5 (fun b hb => by rw [sq2]; simp [hb])
   have H20 := H19.look1 7 rfl so6 (fun b hb => by rw [sq2]; simp [hb])
   refine d_call rfl (wn rfl) rfl rfl (pc_call Tryz.func20 rfl Tryz_nm20 rfl) (Tryz_laws_eqWorld (by assumption) (Wld.see9 (H20.mine 2 rfl)) (Wld.see10 (H20.mine 2 rfl)) (Wld.see11 (H20.mine 2 rfl)) (by assumption) (H20.sees 8 rfl) (H20.sees 9 rfl) (H20.sees 10 rfl)) (fun hS _ _ r _ => hS.trans r.1.no) (fun v7 w10 r7 => ?_)
   obtain ⟨e10, rfl⟩ := r7
   have H21 := H20.to e10
   refine d_end rfl (wn rfl) rfl rfl (py_not rfl) (d_nil (W_if rfl (fun c3 => ?_) (fun c3 => ?_)))
   ·exfalso; simp_all
   ·refine W_skip (W_sr (sA rfl rfl (s_nil (rT hQ Tryz.results7 rfl ?_))))
    exact ⟨H21.ext, rfl⟩
end Go.Wk
