/-
  The functions walked, each once. (Printed by a program of mine.)
-/
import Derived.Test.YtlcpnnnangneeaaDraw
import Derived.Test.YtlcpnnnangneeaaWlA
namespace Go.Wk
open Go.Proofs Rp
set_option maxRecDepth 10000
theorem Try_impl_scaled {w : World} {xs : List UInt8} {xsA : Option Addr} {xsC : Nat} {c : UInt8} (xsS : Sees w [.slice xsA xs.length xsC] xs) (hl : xs.length ≤ 100000) : Ret Try.prog 188 #[.slice xsA xs.length xsC, .int .u8 c.toNat] w fun v w' => Ext No w w' ∧ (Res w w' [v] (scaleG xs c)) := by
  have xsL := sees_len xsS
  unfold maxLen at xsL
  obtain ⟨xsF, xsO⟩ := xsS
  refine ret_Q (vs := [.slice xsA xs.length xsC, .int .u8 c.toNat]) Try.func188 rfl Try.ntmps188 rfl (fun Q hQ hN => ?_)
  have H0 := Sep.start (w := w) (F := [seen false [.slice xsA xs.length xsC] xs xsF]) (all_cons xsO (by simp))
  refine W_seq ?_
  refine W_reg ?_
  refine s_val (wn rfl) rfl rfl (py_assign rfl) ?_
  refine s_nil ?_
  refine W_seq ?_
  refine W_reg ?_
  refine s_val (wn rfl) rfl rfl (py_move rfl) (s_val (wn rfl) rfl rfl (py_len Try.underlying34 rfl) ?_)
  refine s_make (wn rfl) rfl Try.underlying34 Try_ty5 own_z8 rfl (by omega) (by unfold maxLen; omega) H0 (fun b1 w1 e1 g1 H1 => ?_)
  refine s_val (wn rfl) rfl rfl (py_assign rfl) ?_
  refine s_nil ?_
  refine W_seq ?_
  have rl : (List.replicate xs.length (0 : UInt8)).length = xs.length := List.length_replicate
  refine W_reg ?_
  refine s_val (wn rfl) rfl rfl (py_move rfl) (s_val (wn rfl) rfl rfl (py_move rfl) (s_val (wn rfl) rfl rfl (py_move rfl) ?_))
  refine s_call (wn rfl) rfl rfl (pc_call Try.func94 rfl Try_nm94 rfl) (Try_impl_put (H1.mine 0 rfl) (H1.nodup1 (i := 0) rfl) (own_weak (H1.seen 0 rfl)) (fun b hb => H1.off 0 rfl 0 rfl hb) (by first | assumption | omega)) (fun v1 w2 r1 => ?_)
  obtain ⟨fp1, H2⟩ := H1.mut 0 rfl r1
  refine s_nil ?_
  refine W_seq ?_
  refine W_reg ?_
  refine s_val (wn rfl) rfl rfl (py_move rfl) (s_val (wn rfl) rfl rfl (py_assign rfl) ?_)
  refine s_nil ?_
  refine W_ret (hQ _ _ (fin1 Try.results188 rfl ?_))
  exact ⟨H2.ext, by
    have h := H2.out 0 rfl
    rwa [addG_zero_l (scaleG_len xs c)] at h⟩
theorem Try_impl_reduce {w : World} {K l n : Nat} {m : Mat} {vs0 : List View} {VA : Option Addr} {VC : Nat} {fp g0 : List Nat} (o : own true w [.slice VA K VC] vs0 fp) (nd : fp.Nodup) (hr0 : ownL false w (vs0.map View.val) m g0) (hd : ∀ b ∈ g0, b ∉ fp) (vl0 : vs0.length = K) (hR0 : Rect m K l) (hn : n < l ∧ l ≤ 1000 ∧ 1 ≤ K ∧ K ≤ 1000) : Ret Try.prog 181 #[.slice VA K VC, .int .i64 n] w fun v w' => (v = .int .i64 ((redM m n).2 : Nat) ∧ RowsMut w w' fp (.slice VA K VC) K (redM m n).1) := by
  refine ret_Q (vs := [.slice VA K VC, .int .i64 n]) Try.func181 rfl Try.ntmps181 rfl (fun Q hQ hN => ?_)
  have H0 := Sep.beginRows o nd hr0 hd
  refine W_seq ?_
  refine W_reg ?_
  refine s_val (wn rfl) rfl rfl (py_assign rfl) ?_
  refine s_nil ?_
  refine W_seq ?_
  refine W_reg ?_
  refine s_val (wn rfl) rfl rfl (py_assign rfl) ?_
  refine s_nil ?_
  refine W_seq ?_
  refine W_seq ?_
  refine W_reg ?_
  refine s_val (wn rfl) rfl rfl (py_assign rfl) ?_
  refine s_nil ?_
  refine W_block ?_
  refine W_loop (γ := Nat × Mat × Nat × List View × List Nat × List Nat) (fun (c, M, r, vs, f, g) => [(0, .slice VA K VC), (1, .int .i64 n), (5, .int .i64 r), (6, .int .i64 c)]) (fun (c, M, r, vs, f, g) w' => Sep (· ∈ fp) w [mine [.slice VA K VC] vs f] [rows vs M g] w' ∧ c ≤ n ∧ redM m c = (M, r) ∧ Rect M K l ∧ r ≤ K ∧ vs.length = K) (fun (c, M, r, vs, f, g) => n - c) (0, m, 0, _, _, _) ⟨rfl, rfl, rfl, rfl, trivial⟩ ⟨H0, by omega, rfl, hR0, by omega, vl0⟩ (fun (c, M, r, vs, f, g) w1 H1 => ?_)
  obtain ⟨H1, hc, hred, hR, hrK, vl⟩ := H1
  refine W_seq ?_
  refine W_seq ?_
  refine W_reg ?_
  refine s_val (wn rfl) rfl rfl (py_move rfl) (s_val (wn rfl) rfl rfl (py_move rfl) (s_val (wn rfl) rfl rfl (py_lss rfl rfl) ?_))
  refine s_nil ?_
  refine W_ifd rfl (fun c1 => ?_) (fun c1 => ?_)
  · refine W_skip ?_
    refine W_seq ?_
    refine W_block ?_
    refine W_seq ?_
    refine W_reg ?_
    refine s_val (wn rfl) rfl rfl (py_assign rfl) ?_
    refine s_nil ?_
    refine W_seq ?_
    refine W_seq ?_
    have xl := hR.1
    refine W_reg ?_
    refine s_val (wn rfl) rfl rfl (py_move rfl) (s_val (wn rfl) rfl rfl (py_assign rfl) ?_)
    refine s_nil ?_
    refine W_block ?_
    refine W_loop (γ := Nat) (fun j => [(0, .slice VA K VC), (1, .int .i64 n), (5, .int .i64 r), (6, .int .i64 c), (7, .int .i64 (-1)), (8, .int .i64 j)]) (fun j w' => Sep (· ∈ fp) w _ _ w' ∧ r ≤ j ∧ j ≤ K ∧ ∀ i, r ≤ i → i < j → entry M i c = 0) (fun j => K - j) r ⟨rfl, rfl, rfl, rfl, rfl, rfl, trivial⟩ ⟨H1, by omega, by omega, fun i h1 h2 => by omega⟩ (fun j w2 H2 => ?_)
    obtain ⟨H2, hj1, hj2, hnz⟩ := H2
    refine W_seq ?_
    refine W_seq ?_
    refine W_reg ?_
    refine s_val (wn rfl) rfl rfl (py_move rfl) (s_val (wn rfl) rfl rfl (py_move rfl) (s_val (wn rfl) rfl rfl (py_len Try.underlying43 rfl) (s_val (wn rfl) rfl rfl (py_lss rfl rfl) ?_)))
    refine s_nil ?_
    refine W_ifd rfl (fun c2 => ?_) (fun c2 => ?_)
    · refine W_skip ?_
      refine W_seq ?_
      refine W_block ?_
      refine W_seq ?_
      have e1 := hR.2 j (by omega)
      obtain ⟨eb1, eo1, ea1, ek1, ef1, ee1, ec1, eO1, eH1, em1⟩ := elem_view (H2.mine 0 rfl) (H2.rowsAt 0 rfl) (by first | omega | (simp only [List.length_set]; omega)) j (by first | omega | (simp only [List.length_set]; omega))
      have eP1 := H2.lookR 0 rfl eO1 eH1
      obtain ⟨eb2, eo2, ee2, ec2⟩ := elem_u8 (eP1.seen 1 rfl) c (by omega)
      refine W_reg ?_
      refine s_val (wn rfl) rfl rfl (py_move rfl) (s_val (wn rfl) rfl rfl (py_move rfl) (s_val (wn rfl) rfl rfl (py_elz Try.underlying43 Try.sizeOf34 rfl rfl ee1 j (by omega) (by omega)) (s_val (wn rfl) rfl rfl (py_load Try.underlying34 rfl rfl ec1) (s_val (wn rfl) rfl rfl (py_move rfl) (s_val (wn rfl) rfl rfl (py_elz Try.underlying34 Try.sizeOf5 rfl rfl ee2 c (by omega) (by omega)) (s_val (wn rfl) rfl rfl (py_load Try.underlying5 rfl rfl ec2) (s_val (wn rfl) rfl rfl (py_neq rfl rfl) ?_)))))))
      refine s_nil ?_
      refine W_ifd rfl (fun c3 => ?_) (fun c3 => ?_)
      · refine W_seq ?_
        refine W_reg ?_
        refine s_val (wn rfl) rfl rfl (py_move rfl) (s_val (wn rfl) rfl rfl (py_assign rfl) ?_)
        refine s_nil ?_
        refine W_exit ?_
        refine W_seq ?_
        refine W_seq ?_
        have hpv : pivAt M c r = j := pivAt_eq (by omega) (by omega) hnz (.inr (fun e => c3 (by rw [entry] at e; rw [e]; rfl)))
        refine W_reg ?_
        refine s_val (wn rfl) rfl rfl (py_move rfl) (s_val (wn rfl) rfl rfl (py_lss rfl rfl) ?_)
        refine s_nil ?_
        refine W_ifd rfl (fun c4 => ?_) (fun c4 => ?_)
        · exact absurd c4 (by omega)
        · refine W_skip ?_
          refine W_seq ?_
          obtain ⟨eb3, eo3, ea2, ek2, ef2, ee3, ec3, eO2, eH2, em2⟩ := elem_view (eP1.mine 0 rfl) (eP1.rowsAt 0 rfl) (by first | omega | (simp only [List.length_set]; omega)) j (by first | omega | (simp only [List.length_set]; omega))
          have eP2 := eP1.lookR 0 rfl eO2 eH2
          obtain ⟨eb4, eo4, ea3, ek3, ef3, ee4, ec4, eO3, eH3, em3⟩ := elem_view (eP2.mine 0 rfl) (eP2.rowsAt 0 rfl) (by first | omega | (simp only [List.length_set]; omega)) r (by first | omega | (simp only [List.length_set]; omega))
          have eP3 := eP2.lookR 0 rfl eO3 eH3
          refine W_drw (S := fun zw => zw.cell? ⟨eb3, eo3 + j * 1, none⟩ = some (.slice ea2 (M.getD j []).length ek2)) [(0, true), (1, true), (2, true), (3, true), (4, true), (5, true), (6, true), (8, true), (9, true), (10, true), (7, true), (11, false), (12, false), (13, false), (14, false), (15, false)] (by kernel_rfl) (by kernel_rfl) (by kernel_rfl) rfl (fun _ => ec3) (fun q1 => ?_)
          have H3 := eP3.drawn q1
          refine d_val rfl (wn rfl) rfl rfl (fun zw hx => py_move rfl) (d_val rfl (wn rfl) rfl rfl (fun zw hx => py_move rfl) (d_val rfl (wn rfl) rfl rfl (fun zw hx => py_move rfl) (d_val rfl (wn rfl) rfl rfl (fun zw hx => py_move rfl) (d_val rfl (wn rfl) rfl rfl (fun zw hx => py_move rfl) (d_val rfl (wn rfl) rfl rfl (fun zw hx => py_move rfl) (d_val rfl (wn rfl) rfl rfl (fun zw hx => py_elz Try.underlying43 Try.sizeOf34 rfl rfl ee3 j (by omega) (by omega)) (d_val rfl (wn rfl) rfl rfl (fun zw hx => py_move rfl) (d_val rfl (wn rfl) rfl rfl (fun zw hx => py_move rfl) (d_val rfl (wn rfl) rfl rfl (fun zw hx => py_elz Try.underlying43 Try.sizeOf34 rfl rfl ee4 r (by omega) (by omega)) (d_val rfl (wn rfl) rfl rfl (fun zw hx => py_load Try.underlying34 rfl rfl hx) (d_end rfl (wn rfl) rfl rfl (py_load Try.underlying34 rfl rfl ec4) (d_end rfl (wn rfl) rfl rfl (py_elz Try.underlying43 Try.sizeOf34 rfl rfl ee4 r (by omega) (by omega)) ?_))))))))))))
          refine d_rowset rfl (wn rfl) Try.sizeOf34 H3 0 0 2 rfl rfl rfl (by first | omega | (simp only [List.length_set]; omega)) r (by first | omega | (simp only [List.length_set]; omega)) rfl ee4 rfl (fun b o cur T e1 hb hs hc _ => by   rw [ee3] at e1;   cases e1;   exact swap_cell hb hs hc) (fun w3 fp1 gp1 H4 => ?_)
          try dsimp only [List.nil_append, List.cons_append, List.set_cons_zero, List.set_cons_succ] at H4
          refine d_end rfl (wn rfl) rfl rfl (py_elz Try.underlying43 Try.sizeOf34 rfl rfl ee3 j (by omega) (by omega)) ?_
          refine d_rowset rfl (wn rfl) Try.sizeOf34 H4 0 0 3 rfl rfl rfl (by first | omega | (simp only [List.length_set]; omega)) j (by first | omega | (simp only [List.length_set]; omega)) rfl ee3 rfl (fun _ _ _ _ _ _ _ _ hr => absurd rfl hr) (fun w4 fp2 gp2 H5 => ?_)
          try dsimp only [List.nil_append, List.cons_append, List.set_cons_zero, List.set_cons_succ] at H5
          refine d_nil ?_
          refine W_seq ?_
          have hsR := hR.swap (r := r) (a := j) (by omega) (by omega)
          have e2 : (((M.set r (M.getD j [])).set j (M.getD r [])).getD r []).length = l := hsR.2 r (by omega)
          obtain ⟨eb5, eo5, ea4, ek4, ef4, ee5, ec5, eO4, eH4, em4⟩ := elem_view (H5.mine 0 rfl) (H5.rowsAt 0 rfl) (by first | omega | (simp only [List.length_set]; omega)) r (by first | omega | (simp only [List.length_set]; omega))
          have eP4 := H5.lookR 0 rfl eO4 eH4
          obtain ⟨eb6, eo6, ee6, ec6⟩ := elem_u8 (eP4.seen 4 rfl) c (by omega)
          refine W_drw (S := Ext No _) [(0, true), (1, true), (2, true), (3, true), (4, true), (5, true), (6, true), (7, true), (8, true), (9, true), (10, true), (11, true), (12, true), (13, false), (14, false), (15, true), (16, false)] (by kernel_rfl) (by kernel_rfl) (by kernel_rfl) rfl (fun _ => Ext.refl.drawn _) (fun q2 => ?_)
          have H6 := eP4.drawn q2
          refine d_val rfl (wn rfl) rfl rfl (fun zw hx => py_move rfl) (d_val rfl (wn rfl) rfl rfl (fun zw hx => py_move rfl) (d_val rfl (wn rfl) rfl rfl (fun zw hx => py_move rfl) (d_val rfl (wn rfl) rfl rfl (fun zw hx => py_move rfl) (d_val rfl (wn rfl) rfl rfl (fun zw hx => py_elz Try.underlying43 Try.sizeOf34 rfl rfl ee5 r (by omega) (by omega)) (d_val rfl (wn rfl) rfl rfl (fun zw hx => py_load Try.underlying34 rfl rfl (hx.cell ec5)) (d_val rfl (wn rfl) rfl rfl (fun zw hx => py_move rfl) (d_val rfl (wn rfl) rfl rfl (fun zw hx => py_move rfl) (d_val rfl (wn rfl) rfl rfl (fun zw hx => py_elz Try.underlying43 Try.sizeOf34 rfl rfl ee5 r (by omega) (by omega)) (d_val rfl (wn rfl) rfl rfl (fun zw hx => py_load Try.underlying34 rfl rfl (hx.cell ec5)) (d_val rfl (wn rfl) rfl rfl (fun zw hx => py_move rfl) (d_val rfl (wn rfl) rfl rfl (fun zw hx => py_elz Try.underlying34 Try.sizeOf5 rfl rfl ee6 c (by omega) (by omega)) (d_val rfl (wn rfl) rfl rfl (fun zw hx => py_load Try.underlying5 rfl rfl (hx.cell ec6)) ?_))))))))))))
          refine d_call rfl (wn rfl) rfl rfl (pc_call Try.func187 rfl Try_nm187 rfl) (Try_impl_div (a := 1)) (fun hS _ _ r _ => hS.trans r.1.no) (fun v1 w5 r1 => ?_)
          obtain ⟨e3, rfl⟩ := r1
          have H7 := H6.to e3
          refine d_call rfl (wn rfl) rfl rfl (pc_call Try.func188 rfl Try_nm188 rfl) (Try_impl_scaled (H7.sees 4 rfl) (by omega)) (fun hS _ _ r _ => hS.trans r.1.no) (fun v2 w6 r2 => ?_)
          obtain ⟨e4, r2⟩ := r2
          obtain ⟨fp3, H8⟩ := H7.res e4 r2
          obtain ⟨a1, k1, q3⟩ := own_slice (H8.mine 1 rfl)
          cases q3
          refine d_val rfl (wn rfl) rfl rfl (fun zw hx => py_elz Try.underlying43 Try.sizeOf34 rfl rfl ee5 r (by omega) (by omega)) ?_
          have H10 := H8.share 1 rfl
          try dsimp only [List.nil_append, List.cons_append, List.set_cons_zero, List.set_cons_succ] at H10
          refine d_rowset rfl (wn rfl) Try.sizeOf34 H10 0 0 5 rfl rfl rfl (by first | omega | (simp only [List.length_set]; omega)) r (by first | omega | (simp only [List.length_set]; omega)) rfl ee5 rfl (fun _ _ _ _ _ _ _ _ hr => absurd rfl hr) (fun w7 fp4 gp3 H9 => ?_)
          try dsimp only [List.nil_append, List.cons_append, List.set_cons_zero, List.set_cons_succ] at H9
          refine d_nil ?_
          refine W_seq ?_
          refine W_seq ?_
          have HN := H9
          rw [norm_of (by omega) (by omega)] at HN
          refine W_reg ?_
          refine s_val (wn rfl) rfl rfl (py_move rfl) (s_val (wn rfl) rfl rfl (py_len Try.underlying43 rfl) (s_val (wn rfl) rfl rfl (py_move rfl) ?_))
          refine s_nil ?_
          refine W_block ?_
          refine W_loop (γ := Nat × List View × List Nat × List Nat) (fun (i, vs2, f2, g2) => [(0, .slice VA K VC), (1, .int .i64 n), (5, .int .i64 r), (6, .int .i64 c), (63, .slice VA K VC), (64, .int .i64 K), (65, .int .i64 i)]) (fun (i, vs2, f2, g2) w' => Sep (· ∈ fp) w [mine [.slice VA K VC] vs2 f2] [rows vs2 (elimTo (normM M c r j) c r i) g2] w' ∧ i ≤ K ∧ vs2.length = K) (fun (i, vs2, f2, g2) => K - i) (0, _, _, _) ⟨rfl, rfl, rfl, rfl, rfl, rfl, rfl, trivial⟩ ⟨by rw [elimTo_zero]; exact ((HN.ftake 1).dtake 1), by omega, by simp only [List.length_set]; omega⟩ (fun (i, vs2, f2, g2) w8 H11 => ?_)
          obtain ⟨H11, hi, vl2⟩ := H11
          refine W_seq ?_
          refine W_reg ?_
          refine s_val (wn rfl) rfl rfl (py_lss rfl rfl) ?_
          refine s_nil ?_
          refine W_seq ?_
          refine W_ifd rfl (fun c5 => ?_) (fun c5 => ?_)
          · refine W_skip ?_
            refine W_seq ?_
            refine W_block ?_
            refine W_seq ?_
            refine W_reg ?_
            refine s_val (wn rfl) rfl rfl (py_move rfl) (s_val (wn rfl) rfl rfl (py_assign rfl) ?_)
            refine s_nil ?_
            refine W_seq ?_
            have nR := hR.norm (c := c) (r := r) (a := j) (by omega) (by omega)
            have eR := nR.elim (c := c) (r := r) (k := i) (by omega)
            have xl2 := eR.1
            have e3 := eR.2 i (by omega)
            have e4 := eR.2 r (by omega)
            obtain ⟨eb7, eo7, ea5, ek5, ef5, ee7, ec7, eO5, eH5, em5⟩ := elem_view (H11.mine 0 rfl) (H11.rowsAt 0 rfl) (by first | omega | (simp only [List.length_set]; omega)) i (by first | omega | (simp only [List.length_set]; omega))
            have eP5 := H11.lookR 0 rfl eO5 eH5
            obtain ⟨eb8, eo8, ee8, ec8⟩ := elem_u8 (eP5.seen 1 rfl) c (by omega)
            refine W_reg ?_
            refine s_val (wn rfl) rfl rfl (py_move rfl) (s_val (wn rfl) rfl rfl (py_move rfl) (s_val (wn rfl) rfl rfl (py_neq rfl rfl) (s_val (wn rfl) rfl rfl (py_move rfl) ?_)))
            refine s_grp 8 (j := 3) (want := true) (t := 79) rfl rfl rfl rfl (fun hg1 kk1 => s_val (wgE rfl rfl rfl hg1) rfl rfl (py_move rfl) (s_val (wgE rfl rfl rfl hg1) rfl rfl (py_move rfl) (s_val (wgE rfl rfl rfl hg1) rfl rfl (py_elz Try.underlying43 Try.sizeOf34 rfl rfl ee7 i (by first | omega | (simp only [Bool.or_eq_false_iff, Bool.and_eq_true, Bool.and_eq_false_iff, Bool.or_eq_true, Bool.not_eq_true', Bool.not_eq_false', decide_eq_true_eq, decide_eq_false_iff_not] at hg1; omega)) (by omega)) (s_val (wgE rfl rfl rfl hg1) rfl rfl (py_load Try.underlying34 rfl rfl ec7) (s_val (wgE rfl rfl rfl hg1) rfl rfl (py_move rfl) (s_val (wgE rfl rfl rfl hg1) rfl rfl (py_elz Try.underlying34 Try.sizeOf5 rfl rfl ee8 c (by first | omega | (simp only [Bool.or_eq_false_iff, Bool.and_eq_true, Bool.and_eq_false_iff, Bool.or_eq_true, Bool.not_eq_true', Bool.not_eq_false', decide_eq_true_eq, decide_eq_false_iff_not] at hg1; omega)) (by omega)) (s_val (wgE rfl rfl rfl hg1) rfl rfl (py_load Try.underlying5 rfl rfl ec8) (s_val (wgE rfl rfl rfl hg1) rfl rfl (py_neq rfl rfl) (kk1 _ _ (kx rfl (kx rfl (kx rfl (kx rfl (kx rfl (kx rfl (kx rfl (kx rfl k0)))))))) rfl Ext.refl))))))))) (fun w9 e6 => ?_)
            have H12 := eP5.to e6
            refine s_val (wn rfl) rfl rfl (py_band rfl rfl) ?_
            refine s_nil ?_
            refine W_if rfl (fun c6 => ?_) (fun c6 => ?_)
            · obtain ⟨eb9, eo9, ea6, ek6, ef6, ee9, ec9, eO6, eH6, em6⟩ := elem_view (H12.mine 0 rfl) (H12.rowsAt 0 rfl) (by first | omega | (simp only [List.length_set]; omega)) i (by first | omega | (simp only [List.length_set]; omega))
              have eP6 := H12.lookR 0 rfl eO6 eH6
              obtain ⟨eb10, eo10, ea7, ek7, ef7, ee10, ec10, eO7, eH7, em7⟩ := elem_view (eP6.mine 0 rfl) (eP6.rowsAt 0 rfl) (by first | omega | (simp only [List.length_set]; omega)) r (by first | omega | (simp only [List.length_set]; omega))
              have eP7 := eP6.lookR 0 rfl eO7 eH7
              obtain ⟨eb11, eo11, ee11, ec11⟩ := elem_u8 (eP7.seen 2 rfl) c (by omega)
              refine W_drw (S := Ext No _) [(0, true), (1, true), (2, true), (3, true), (4, true), (5, true), (6, true), (7, true), (8, true), (9, true), (10, true), (11, true), (12, true), (13, true), (14, true), (15, true), (16, true), (17, false), (18, true), (19, false)] (by kernel_rfl) (by kernel_rfl) (by kernel_rfl) rfl (fun _ => Ext.refl.drawn _) (fun q4 => ?_)
              have H13 := eP7.drawn q4
              refine d_val rfl (wn rfl) rfl rfl (fun zw hx => py_move rfl) (d_val rfl (wn rfl) rfl rfl (fun zw hx => py_move rfl) (d_val rfl (wn rfl) rfl rfl (fun zw hx => py_move rfl) (d_val rfl (wn rfl) rfl rfl (fun zw hx => py_move rfl) (d_val rfl (wn rfl) rfl rfl (fun zw hx => py_elz Try.underlying43 Try.sizeOf34 rfl rfl ee9 i (by omega) (by omega)) (d_val rfl (wn rfl) rfl rfl (fun zw hx => py_load Try.underlying34 rfl rfl (hx.cell ec9)) (d_val rfl (wn rfl) rfl rfl (fun zw hx => py_move rfl) (d_val rfl (wn rfl) rfl rfl (fun zw hx => py_move rfl) (d_val rfl (wn rfl) rfl rfl (fun zw hx => py_elz Try.underlying43 Try.sizeOf34 rfl rfl ee10 r (by omega) (by omega)) (d_val rfl (wn rfl) rfl rfl (fun zw hx => py_load Try.underlying34 rfl rfl (hx.cell ec10)) (d_val rfl (wn rfl) rfl rfl (fun zw hx => py_move rfl) (d_val rfl (wn rfl) rfl rfl (fun zw hx => py_move rfl) (d_val rfl (wn rfl) rfl rfl (fun zw hx => py_elz Try.underlying43 Try.sizeOf34 rfl rfl ee9 i (by omega) (by omega)) (d_val rfl (wn rfl) rfl rfl (fun zw hx => py_load Try.underlying34 rfl rfl (hx.cell ec9)) (d_val rfl (wn rfl) rfl rfl (fun zw hx => py_move rfl) (d_val rfl (wn rfl) rfl rfl (fun zw hx => py_elz Try.underlying34 Try.sizeOf5 rfl rfl ee11 c (by omega) (by omega)) (d_val rfl (wn rfl) rfl rfl (fun zw hx => py_load Try.underlying5 rfl rfl (hx.cell ec11)) ?_))))))))))))))))
              refine d_call rfl (wn rfl) rfl rfl (pc_call Try.func95 rfl Try_nm95 rfl) (Try_impl_sum (H13.sees 2 rfl) (H13.sees 3 rfl) (by first | assumption | omega)) (fun hS _ _ r _ => hS.trans r.1.no) (fun v3 w10 r3 => ?_)
              obtain ⟨e7, r3⟩ := r3
              obtain ⟨fp5, H14⟩ := H13.res e7 r3
              obtain ⟨a2, k2, q5⟩ := own_slice (H14.mine 1 rfl)
              cases q5
              refine d_val rfl (wn rfl) rfl rfl (fun zw hx => py_elz Try.underlying43 Try.sizeOf34 rfl rfl ee9 i (by omega) (by omega)) ?_
              have H16 := H14.share 1 rfl
              try dsimp only [List.nil_append, List.cons_append, List.set_cons_zero, List.set_cons_succ] at H16
              refine d_rowset rfl (wn rfl) Try.sizeOf34 H16 0 0 4 rfl rfl rfl (by first | omega | (simp only [List.length_set]; omega)) i (by first | omega | (simp only [List.length_set]; omega)) rfl ee9 rfl (fun _ _ _ _ _ _ _ _ hr => absurd rfl hr) (fun w11 fp6 gp4 H15 => ?_)
              try dsimp only [List.nil_append, List.cons_append, List.set_cons_zero, List.set_cons_succ] at H15
              refine d_nil ?_
              refine W_reg ?_
              refine s_val (wn rfl) rfl rfl (py_add rfl rfl (in64 ⟨by omega, by omega⟩)) (s_val (wn rfl) rfl rfl (py_move rfl) ?_)
              refine s_nil ?_
              have hz := ((H15.ftake 1).dtake 1)
              rw [elimTo_set (by rw [nR.1]; omega) (elim_ne (N := [[]]) (c := c) c6) (by rw [elimTo_at (by rw [nR.1]; omega), elimTo_r (by rw [nR.1]; omega)]; rfl)] at hz
              refine ⟨(i + 1, _, _, _), ⟨rfl, rfl, rfl, rfl, rfl, rfl, rfl, trivial⟩, ⟨hz, by omega, by simp only [List.length_set]; omega⟩, by dsimp only; omega⟩
            · refine W_skip ?_
              refine W_reg ?_
              refine s_val (wn rfl) rfl rfl (py_add rfl rfl (in64 ⟨by omega, by omega⟩)) (s_val (wn rfl) rfl rfl (py_move rfl) ?_)
              refine s_nil ?_
              have hz := (H12.ftake 1)
              rw [elim_next nR (by omega) (by omega) c6] at hz
              refine ⟨(i + 1, _, _, _), ⟨rfl, rfl, rfl, rfl, rfl, rfl, rfl, trivial⟩, ⟨hz, by omega, vl2⟩, by dsimp only; omega⟩
          · refine W_exit ?_
            refine W_reg ?_
            refine s_val (wn rfl) rfl rfl (py_move rfl) (s_val (wn rfl) rfl rfl (py_add rfl rfl (in64 ⟨by omega, by omega⟩)) (s_val (wn rfl) rfl rfl (py_assign rfl) ?_))
            refine s_nil ?_
            refine W_reg ?_
            refine s_val (wn rfl) rfl rfl (py_move rfl) (s_val (wn rfl) rfl rfl (py_add rfl rfl (in64 ⟨by omega, by omega⟩)) (s_val (wn rfl) rfl rfl (py_assign rfl) ?_))
            refine s_nil ?_
            have hz := H11
            rw [show i = K by omega] at hz
            refine ⟨(c + 1, elimTo (normM M c r j) c r K, r + 1, _, _, _), ⟨rfl, rfl, rfl, rfl, trivial⟩, ⟨hz, by omega, (step_some hred hpv (by omega)).trans (by rw [xl]), (hR.norm (by omega) (by omega)).elim (by omega), by omega, vl2⟩, by dsimp only; omega⟩
      · refine W_skip ?_
        refine W_reg ?_
        refine s_val (wn rfl) rfl rfl (py_move rfl) (s_val (wn rfl) rfl rfl (py_add rfl rfl (in64 ⟨by omega, by omega⟩)) (s_val (wn rfl) rfl rfl (py_assign rfl) ?_))
        refine s_nil ?_
        refine ⟨j + 1, ⟨rfl, rfl, rfl, rfl, rfl, rfl, trivial⟩, ⟨(eP1.ftake 1), by omega, by omega, fun i h1 h2 => ?_⟩, by dsimp only; omega⟩
        by_cases e : i = j
        · subst e; show (M.getD i []).getD c 0 = 0; exact u8_zero (by omega)
        · exact hnz i h1 (by omega)
    · refine W_exit ?_
      refine W_seq ?_
      refine W_seq ?_
      have hpv : pivAt M c r = M.length := pivAt_eq (by omega) (Nat.le_refl _) (fun i h1 h2 => hnz i h1 (by omega)) (.inl rfl)
      refine W_reg ?_
      refine s_val (wn rfl) rfl rfl (py_move rfl) (s_val (wn rfl) rfl rfl (py_lss rfl rfl) ?_)
      refine s_nil ?_
      refine W_ifd rfl (fun c7 => ?_) (fun c7 => ?_)
      · refine W_exit ?_
        refine W_reg ?_
        refine s_val (wn rfl) rfl rfl (py_move rfl) (s_val (wn rfl) rfl rfl (py_add rfl rfl (in64 ⟨by omega, by omega⟩)) (s_val (wn rfl) rfl rfl (py_assign rfl) ?_))
        refine s_nil ?_
        refine ⟨(c + 1, M, r, _, _, _), ⟨rfl, rfl, rfl, rfl, trivial⟩, ⟨H2, by omega, step_none hred (Nat.le_of_eq hpv.symm), hR, hrK, vl⟩, by dsimp only; omega⟩
      · exact absurd (by omega) c7
  · refine W_exit ?_
    refine W_seq ?_
    refine W_reg ?_
    refine s_val (wn rfl) rfl rfl (py_move rfl) (s_val (wn rfl) rfl rfl (py_assign rfl) ?_)
    refine s_nil ?_
    refine W_ret (hQ _ _ (fin1 Try.results181 rfl ?_))
    have hz := H1.rowsOut vl
    have e9 : redM m n = (M, r) := by
      obtain rfl : c = n := by omega
      exact hred
    rw [e9]
    exact ⟨rfl, hz⟩
theorem Try_spec_l1Step {w : World} {K l n : Nat} {m : Mat} {vs0 : List View} {VA : Option Addr} {VC : Nat} {fp g0 : List Nat} (o : own true w [.slice VA K VC] vs0 fp) (nd : fp.Nodup) (hr0 : ownL false w (vs0.map View.val) m g0) (hd : ∀ b ∈ g0, b ∉ fp) (vl0 : vs0.length = K) (hR0 : Rect m K l) (hn : n < l ∧ l ≤ 1000 ∧ 1 ≤ K ∧ K ≤ 1000) : Ret Try.prog 180 #[.slice VA K VC, .int .i64 n] w fun v w' => (v = .int .i64 ((redM m n).2 : Nat) ∧ RowsMut w w' fp (.slice VA K VC) K (redM m n).1) := by
  refine ret_Q (vs := [.slice VA K VC, .int .i64 n]) Try.func180 rfl Try.ntmps180 rfl (fun Q hQ hN => ?_)
  have H0 := Sep.beginRows o nd hr0 hd
  refine W_seq ?_
  refine W_reg ?_
  refine s_val (wn rfl) rfl rfl (py_assign rfl) ?_
  refine s_nil ?_
  refine W_seq ?_
  refine W_reg ?_
  refine s_val (wn rfl) rfl rfl (py_assign rfl) ?_
  refine s_nil ?_
  refine W_seq ?_
  refine W_seq ?_
  refine W_reg ?_
  refine s_val (wn rfl) rfl rfl (py_assign rfl) ?_
  refine s_nil ?_
  refine W_block ?_
  refine W_loop (γ := Nat × Mat × Nat × List View × List Nat × List Nat) (fun (c, M, r, vs, f, g) => [(0, .slice VA K VC), (1, .int .i64 n), (5, .int .i64 r), (6, .int .i64 c)]) (fun (c, M, r, vs, f, g) w' => Sep (· ∈ fp) w [mine [.slice VA K VC] vs f] [rows vs M g] w' ∧ c ≤ n ∧ redM m c = (M, r) ∧ Rect M K l ∧ r ≤ K ∧ vs.length = K) (fun (c, M, r, vs, f, g) => n - c) (0, m, 0, _, _, _) ⟨rfl, rfl, rfl, rfl, trivial⟩ ⟨H0, by omega, rfl, hR0, by omega, vl0⟩ (fun (c, M, r, vs, f, g) w1 H1 => ?_)
  obtain ⟨H1, hc, hred, hR, hrK, vl⟩ := H1
  refine W_seq ?_
  refine W_seq ?_
  refine W_reg ?_
  refine s_val (wn rfl) rfl rfl (py_move rfl) (s_val (wn rfl) rfl rfl (py_move rfl) (s_val (wn rfl) rfl rfl (py_lss rfl rfl) (s_val (wn rfl) rfl rfl (py_move rfl) ?_)))
  refine s_grp 4 (j := 3) (want := true) (t := 17) rfl rfl rfl rfl (fun hg1 kk1 => s_val (wgE rfl rfl rfl hg1) rfl rfl (py_move rfl) (s_val (wgE rfl rfl rfl hg1) rfl rfl (py_move rfl) (s_val (wgE rfl rfl rfl hg1) rfl rfl (py_len Try.underlying43 rfl) (s_val (wgE rfl rfl rfl hg1) rfl rfl (py_lss rfl rfl) (kk1 _ _ (kx rfl (kx rfl (kx rfl (kx rfl k0)))) rfl Ext.refl))))) (fun w2 e1 => ?_)
  have H2 := H1.to e1
  refine s_val (wn rfl) rfl rfl (py_band rfl rfl) ?_
  refine s_nil ?_
  refine W_if rfl (fun c1 => ?_) (fun c1 => ?_)
  · refine W_skip ?_
    refine W_seq ?_
    refine W_block ?_
    refine W_seq ?_
    simp only [Bool.and_eq_true, decide_eq_true_eq] at c1
    have xl := hR.1
    refine W_reg ?_
    refine s_val (wn rfl) rfl rfl (py_move rfl) (s_val (wn rfl) rfl rfl (py_assign rfl) ?_)
    refine s_nil ?_
    refine W_seq ?_
    refine W_block ?_
    refine W_loop (γ := Nat) (fun j => [(0, .slice VA K VC), (1, .int .i64 n), (5, .int .i64 r), (6, .int .i64 c), (7, .int .i64 j)]) (fun j w' => Sep (· ∈ fp) w _ _ w' ∧ r ≤ j ∧ j ≤ K ∧ ∀ i, r ≤ i → i < j → entry M i c = 0) (fun j => K - j) r ⟨rfl, rfl, rfl, rfl, rfl, trivial⟩ ⟨H2, by omega, by omega, fun i h1 h2 => by omega⟩ (fun j w3 H3 => ?_)
    obtain ⟨H3, hj1, hj2, hnz⟩ := H3
    refine W_seq ?_
    refine W_seq ?_
    obtain ⟨jj, hjj, hjk⟩ : ∃ jj, jj < K ∧ (j < K → jj = j) := ⟨if j < K then j else 0, by split <;> omega, fun h => if_pos h⟩
    have e1 := hR.2 jj hjj
    obtain ⟨eb1, eo1, ea1, ek1, ef1, ee1, ec1, eO1, eH1, em1⟩ := elem_view (H3.mine 0 rfl) (H3.rowsAt 0 rfl) (by first | omega | (simp only [List.length_set]; omega)) jj (by first | omega | (simp only [List.length_set]; omega))
    have eP1 := H3.lookR 0 rfl eO1 eH1
    obtain ⟨eb2, eo2, ee2, ec2⟩ := elem_u8 (eP1.seen 1 rfl) c (by omega)
    refine W_reg ?_
    refine s_val (wn rfl) rfl rfl (py_move rfl) (s_val (wn rfl) rfl rfl (py_move rfl) (s_val (wn rfl) rfl rfl (py_len Try.underlying43 rfl) (s_val (wn rfl) rfl rfl (py_lss rfl rfl) (s_val (wn rfl) rfl rfl (py_move rfl) ?_))))
    refine s_grp 8 (j := 4) (want := true) (t := 34) rfl rfl rfl rfl (fun hg2 kk2 => s_val (wgE rfl rfl rfl hg2) rfl rfl (py_move rfl) (s_val (wgE rfl rfl rfl hg2) rfl rfl (py_move rfl) (s_val (wgE rfl rfl rfl hg2) rfl rfl (py_elz Try.underlying43 Try.sizeOf34 rfl rfl ee1 jj (by first | omega | (simp only [Bool.or_eq_false_iff, Bool.and_eq_true, Bool.and_eq_false_iff, Bool.or_eq_true, Bool.not_eq_true', Bool.not_eq_false', decide_eq_true_eq, decide_eq_false_iff_not] at hg2; omega)) (by omega)) (s_val (wgE rfl rfl rfl hg2) rfl rfl (py_load Try.underlying34 rfl rfl ec1) (s_val (wgE rfl rfl rfl hg2) rfl rfl (py_move rfl) (s_val (wgE rfl rfl rfl hg2) rfl rfl (py_elz Try.underlying34 Try.sizeOf5 rfl rfl ee2 c (by first | omega | (simp only [Bool.or_eq_false_iff, Bool.and_eq_true, Bool.and_eq_false_iff, Bool.or_eq_true, Bool.not_eq_true', Bool.not_eq_false', decide_eq_true_eq, decide_eq_false_iff_not] at hg2; omega)) (by omega)) (s_val (wgE rfl rfl rfl hg2) rfl rfl (py_load Try.underlying5 rfl rfl ec2) (s_val (wgE rfl rfl rfl hg2) rfl rfl (py_eql rfl rfl) (kk2 _ _ (kx rfl (kx rfl (kx rfl (kx rfl (kx rfl (kx rfl (kx rfl (kx rfl k0)))))))) rfl Ext.refl))))))))) (fun w4 e2 => ?_)
    have H4 := eP1.to e2
    refine s_val (wn rfl) rfl rfl (py_band rfl rfl) ?_
    refine s_nil ?_
    refine W_if rfl (fun c2 => ?_) (fun c2 => ?_)
    · refine W_skip ?_
      refine W_block ?_
      refine W_reg ?_
      refine s_val (wn rfl) rfl rfl (py_move rfl) (s_val (wn rfl) rfl rfl (py_add rfl rfl (in64 ⟨by omega, by omega⟩)) (s_val (wn rfl) rfl rfl (py_assign rfl) ?_))
      refine s_nil ?_
      simp only [Bool.and_eq_true, decide_eq_true_eq] at c2
      have ez : entry M j c = 0 := by
        rw [← hjk (by omega)]
        show (M.getD jj []).getD c 0 = 0
        exact u8_zero (by omega)
      refine ⟨j + 1, ⟨rfl, rfl, rfl, rfl, rfl, trivial⟩, ⟨H4.ftake 1, by omega, by omega, fun i h1 h2 => ?_⟩, by dsimp only; omega⟩
      by_cases e : i = j
      · subst e; exact ez
      · exact hnz i h1 (by omega)
    · refine W_exit ?_
      refine W_seq ?_
      refine W_seq ?_
      refine W_reg ?_
      refine s_val (wn rfl) rfl rfl (py_move rfl) (s_val (wn rfl) rfl rfl (py_move rfl) (s_val (wn rfl) rfl rfl (py_len Try.underlying43 rfl) (s_val (wn rfl) rfl rfl (py_eql rfl rfl) ?_)))
      refine s_nil ?_
      refine W_ifd rfl (fun c3 => ?_) (fun c3 => ?_)
      · refine W_exit ?_
        refine W_reg ?_
        refine s_val (wn rfl) rfl rfl (py_move rfl) (s_val (wn rfl) rfl rfl (py_add rfl rfl (in64 ⟨by omega, by omega⟩)) (s_val (wn rfl) rfl rfl (py_assign rfl) ?_))
        refine s_nil ?_
        have hpv : pivAt M c r = M.length := pivAt_eq (by omega) (Nat.le_refl _) (fun i h1 h2 => hnz i h1 (by omega)) (.inl rfl)
        refine ⟨(c + 1, M, r, _, _, _), ⟨rfl, rfl, rfl, rfl, trivial⟩, ⟨(H4.ftake 1), by omega, step_none hred (Nat.le_of_eq hpv.symm), hR, hrK, vl⟩, by dsimp only; omega⟩
      · refine W_skip ?_
        refine W_seq ?_
        have hpv : pivAt M c r = j := pivAt_eq (by omega) (by omega) hnz (.inr (fun e => by
          have ej := hjk (by omega)
          rw [entry, ← ej] at e
          simp only [Bool.and_eq_false_iff, decide_eq_false_iff_not] at c2
          rcases c2 with h | h
          · omega
          · exact h (by rw [e]; rfl)))
        have e5 := hR.2 j (by omega)
        obtain ⟨eb3, eo3, ea2, ek2, ef2, ee3, ec3, eO2, eH2, em2⟩ := elem_view (H4.mine 0 rfl) (H4.rowsAt 0 rfl) (by first | omega | (simp only [List.length_set]; omega)) j (by first | omega | (simp only [List.length_set]; omega))
        have eP2 := H4.lookR 0 rfl eO2 eH2
        refine W_reg ?_
        refine s_val (wn rfl) rfl rfl (py_move rfl) (s_val (wn rfl) rfl rfl (py_move rfl) (s_val (wn rfl) rfl rfl (py_elz Try.underlying43 Try.sizeOf34 rfl rfl ee3 j (by omega) (by omega)) (s_val (wn rfl) rfl rfl (py_load Try.underlying34 rfl rfl ec3) (s_val (wn rfl) rfl rfl (py_assign rfl) ?_))))
        refine s_nil ?_
        refine W_seq ?_
        obtain ⟨eb4, eo4, ea3, ek3, ef3, ee4, ec4, eO3, eH3, em3⟩ := elem_view (eP2.mine 0 rfl) (eP2.rowsAt 0 rfl) (by first | omega | (simp only [List.length_set]; omega)) r (by first | omega | (simp only [List.length_set]; omega))
        have eP3 := eP2.lookR 0 rfl eO3 eH3
        obtain ⟨eb5, eo5, ea4, ek4, ef4, ee5, ec5, eO4, eH4, em4⟩ := elem_view (eP3.mine 0 rfl) (eP3.rowsAt 0 rfl) (by first | omega | (simp only [List.length_set]; omega)) j (by first | omega | (simp only [List.length_set]; omega))
        have eP4 := eP3.lookR 0 rfl eO4 eH4
        refine W_reg ?_
        refine s_val (wn rfl) rfl rfl (py_move rfl) (s_val (wn rfl) rfl rfl (py_move rfl) (s_val (wn rfl) rfl rfl (py_move rfl) (s_val (wn rfl) rfl rfl (py_move rfl) (s_val (wn rfl) rfl rfl (py_elz Try.underlying43 Try.sizeOf34 rfl rfl ee4 r (by omega) (by omega)) (s_val (wn rfl) rfl rfl (py_load Try.underlying34 rfl rfl ec4) (s_val (wn rfl) rfl rfl (py_elz Try.underlying43 Try.sizeOf34 rfl rfl ee5 j (by omega) (by omega)) ?_))))))
        refine s_rowset (wn rfl) Try.sizeOf34 eP4 0 0 3 rfl rfl rfl (by first | omega | (simp only [List.length_set]; omega)) j (by first | omega | (simp only [List.length_set]; omega)) rfl ee5 rfl (fun w5 fp1 gp1 H5 => ?_)
        try dsimp only [List.nil_append, List.cons_append, List.set_cons_zero, List.set_cons_succ] at H5
        refine s_nil ?_
        refine W_seq ?_
        obtain ⟨eb6, eo6, ee6, ec6⟩ := elem_u8 (H5.seen 2 rfl) c (by omega)
        obtain ⟨eb7, eo7, ea5, ek5, ef5, ee7, ec7, eO5, eH5, em5⟩ := elem_view (H5.mine 0 rfl) (H5.rowsAt 0 rfl) (by first | omega | (simp only [List.length_set]; omega)) r (by first | omega | (simp only [List.length_set]; omega))
        have eP5 := H5.lookR 0 rfl eO5 eH5
        refine W_reg ?_
        refine s_val (wn rfl) rfl rfl (py_move rfl) (s_val (wn rfl) rfl rfl (py_move rfl) (s_val (wn rfl) rfl rfl (py_move rfl) (s_val (wn rfl) rfl rfl (py_move rfl) (s_val (wn rfl) rfl rfl (py_move rfl) (s_val (wn rfl) rfl rfl (py_elz Try.underlying34 Try.sizeOf5 rfl rfl ee6 c (by omega) (by omega)) (s_val (wn rfl) rfl rfl (py_load Try.underlying5 rfl rfl ec6) ?_))))))
        refine s_call (wn rfl) rfl rfl (pc_call Try.func186 rfl Try_nm186 rfl) Try_spec_l1Inv (fun v1 w6 r1 => ?_)
        obtain ⟨e4, rfl⟩ := r1
        have H6 := eP5.to e4
        refine s_call (wn rfl) rfl rfl (pc_call Try.func173 rfl Try_nm173 rfl) (Try_spec_l1Scale (H6.sees 2 rfl) (by omega)) (fun v2 w7 r2 => ?_)
        obtain ⟨e5, r2⟩ := r2
        obtain ⟨fp2, H7⟩ := H6.res e5 r2
        obtain ⟨a1, k1, q1⟩ := own_slice (H7.mine 1 rfl)
        cases q1
        refine s_val (wn rfl) rfl rfl (py_elz Try.underlying43 Try.sizeOf34 rfl rfl ee7 r (by omega) (by omega)) ?_
        have H9 := H7.share 1 rfl
        try dsimp only [List.nil_append, List.cons_append, List.set_cons_zero, List.set_cons_succ] at H9
        refine s_rowset (wn rfl) Try.sizeOf34 H9 0 0 6 rfl rfl rfl (by first | omega | (simp only [List.length_set]; omega)) r (by first | omega | (simp only [List.length_set]; omega)) rfl ee7 rfl (fun w8 fp3 gp2 H8 => ?_)
        try dsimp only [List.nil_append, List.cons_append, List.set_cons_zero, List.set_cons_succ] at H8
        refine s_nil ?_
        refine W_seq ?_
        refine W_seq ?_
        have HN := H8
        rw [show (M.set j (M.getD r [])).set r (scaleG (M.getD j []) (invG ((M.getD j []).getD c 0))) = normM M c r j from rfl] at HN
        refine W_reg ?_
        refine s_val (wn rfl) rfl rfl (py_assign rfl) ?_
        refine s_nil ?_
        refine W_block ?_
        refine W_loop (γ := Nat × List View × List Nat × List Nat) (fun (i, vs2, f2, g2) => [(0, .slice VA K VC), (1, .int .i64 n), (5, .int .i64 r), (6, .int .i64 c), (9, .int .i64 i)]) (fun (i, vs2, f2, g2) w' => Sep (· ∈ fp) w [mine [.slice VA K VC] vs2 f2] [rows vs2 (elimTo (normM M c r j) c r i) g2] w' ∧ i ≤ K ∧ vs2.length = K) (fun (i, vs2, f2, g2) => K - i) (0, _, _, _) ⟨rfl, rfl, rfl, rfl, rfl, trivial⟩ ⟨by rw [elimTo_zero]; exact ((HN.ftake 1).dtake 1), by omega, by simp only [List.length_set]; omega⟩ (fun (i, vs2, f2, g2) w9 H10 => ?_)
        obtain ⟨H10, hi, vl2⟩ := H10
        refine W_seq ?_
        refine W_seq ?_
        refine W_reg ?_
        refine s_val (wn rfl) rfl rfl (py_move rfl) (s_val (wn rfl) rfl rfl (py_move rfl) (s_val (wn rfl) rfl rfl (py_len Try.underlying43 rfl) (s_val (wn rfl) rfl rfl (py_lss rfl rfl) ?_)))
        refine s_nil ?_
        refine W_ifd rfl (fun c4 => ?_) (fun c4 => ?_)
        · refine W_skip ?_
          refine W_seq ?_
          refine W_block ?_
          refine W_seq ?_
          refine W_reg ?_
          refine s_val (wn rfl) rfl rfl (py_move rfl) (s_val (wn rfl) rfl rfl (py_move rfl) (s_val (wn rfl) rfl rfl (py_neq rfl rfl) ?_))
          refine s_nil ?_
          refine W_ifd rfl (fun c5 => ?_) (fun c5 => ?_)
          · have nR := hR.norm (c := c) (r := r) (a := j) (by omega) (by omega)
            have eR := nR.elim (c := c) (r := r) (k := i) (by omega)
            have xl2 := eR.1
            have e3 := eR.2 i (by omega)
            have e4 := eR.2 r (by omega)
            have sl := scaleG_len ((elimTo (normM M c r j) c r i).getD r []) (((elimTo (normM M c r j) c r i).getD i []).getD c 0)
            obtain ⟨eb8, eo8, ea6, ek6, ef6, ee8, ec8, eO6, eH6, em6⟩ := elem_view (H10.mine 0 rfl) (H10.rowsAt 0 rfl) (by first | omega | (simp only [List.length_set]; omega)) i (by first | omega | (simp only [List.length_set]; omega))
            have eP6 := H10.lookR 0 rfl eO6 eH6
            obtain ⟨eb9, eo9, ea7, ek7, ef7, ee9, ec9, eO7, eH7, em7⟩ := elem_view (eP6.mine 0 rfl) (eP6.rowsAt 0 rfl) (by first | omega | (simp only [List.length_set]; omega)) r (by first | omega | (simp only [List.length_set]; omega))
            have eP7 := eP6.lookR 0 rfl eO7 eH7
            obtain ⟨eb10, eo10, ee10, ec10⟩ := elem_u8 (eP7.seen 1 rfl) c (by omega)
            refine W_drw (S := Ext No _) [(0, true), (1, true), (2, true), (3, true), (4, true), (5, true), (6, true), (7, true), (8, true), (9, true), (10, true), (11, true), (12, true), (13, true), (14, true), (15, true), (16, true), (17, false), (18, false), (19, true), (20, false)] (by kernel_rfl) (by kernel_rfl) (by kernel_rfl) rfl (fun _ => Ext.refl.drawn _) (fun q2 => ?_)
            have H11 := eP7.drawn q2
            refine d_val rfl (wn rfl) rfl rfl (fun zw hx => py_move rfl) (d_val rfl (wn rfl) rfl rfl (fun zw hx => py_move rfl) (d_val rfl (wn rfl) rfl rfl (fun zw hx => py_move rfl) (d_val rfl (wn rfl) rfl rfl (fun zw hx => py_move rfl) (d_val rfl (wn rfl) rfl rfl (fun zw hx => py_elz Try.underlying43 Try.sizeOf34 rfl rfl ee8 i (by omega) (by omega)) (d_val rfl (wn rfl) rfl rfl (fun zw hx => py_load Try.underlying34 rfl rfl (hx.cell ec8)) (d_val rfl (wn rfl) rfl rfl (fun zw hx => py_move rfl) (d_val rfl (wn rfl) rfl rfl (fun zw hx => py_move rfl) (d_val rfl (wn rfl) rfl rfl (fun zw hx => py_elz Try.underlying43 Try.sizeOf34 rfl rfl ee9 r (by omega) (by omega)) (d_val rfl (wn rfl) rfl rfl (fun zw hx => py_load Try.underlying34 rfl rfl (hx.cell ec9)) (d_val rfl (wn rfl) rfl rfl (fun zw hx => py_move rfl) (d_val rfl (wn rfl) rfl rfl (fun zw hx => py_move rfl) (d_val rfl (wn rfl) rfl rfl (fun zw hx => py_elz Try.underlying43 Try.sizeOf34 rfl rfl ee8 i (by omega) (by omega)) (d_val rfl (wn rfl) rfl rfl (fun zw hx => py_load Try.underlying34 rfl rfl (hx.cell ec8)) (d_val rfl (wn rfl) rfl rfl (fun zw hx => py_move rfl) (d_val rfl (wn rfl) rfl rfl (fun zw hx => py_elz Try.underlying34 Try.sizeOf5 rfl rfl ee10 c (by omega) (by omega)) (d_val rfl (wn rfl) rfl rfl (fun zw hx => py_load Try.underlying5 rfl rfl (hx.cell ec10)) ?_))))))))))))))))
            refine d_call rfl (wn rfl) rfl rfl (pc_call Try.func173 rfl Try_nm173 rfl) (Try_spec_l1Scale (H11.sees 2 rfl) (by omega)) (fun hS _ _ r _ => hS.trans r.1.no) (fun v3 w10 r3 => ?_)
            obtain ⟨e7, r3⟩ := r3
            obtain ⟨fp4, H12⟩ := H11.res e7 r3
            obtain ⟨a2, k2, q3⟩ := own_slice (H12.mine 1 rfl)
            cases q3
            refine d_call rfl (wn rfl) rfl rfl (pc_call Try.func102 rfl Try_nm102 rfl) (Try_spec_l1Add (H12.sees 1 rfl) (H12.msees 1 rfl) (by omega)) (fun hS _ _ r _ => hS.trans r.1.no) (fun v4 w11 r4 => ?_)
            obtain ⟨e8, r4⟩ := r4
            obtain ⟨fp5, H13⟩ := H12.res e8 r4
            obtain ⟨a3, k3, q4⟩ := own_slice (H13.mine 2 rfl)
            cases q4
            refine d_val rfl (wn rfl) rfl rfl (fun zw hx => py_elz Try.underlying43 Try.sizeOf34 rfl rfl ee8 i (by omega) (by omega)) ?_
            have H15 := H13.share 2 rfl
            try dsimp only [List.nil_append, List.cons_append, List.set_cons_zero, List.set_cons_succ] at H15
            refine d_rowset rfl (wn rfl) Try.sizeOf34 H15 0 0 3 rfl rfl rfl (by first | omega | (simp only [List.length_set]; omega)) i (by first | omega | (simp only [List.length_set]; omega)) rfl ee8 rfl (fun _ _ _ _ _ _ _ _ hr => absurd rfl hr) (fun w12 fp6 gp3 H14 => ?_)
            try dsimp only [List.nil_append, List.cons_append, List.set_cons_zero, List.set_cons_succ] at H14
            refine d_nil ?_
            refine W_reg ?_
            refine s_val (wn rfl) rfl rfl (py_move rfl) (s_val (wn rfl) rfl rfl (py_add rfl rfl (in64 ⟨by omega, by omega⟩)) (s_val (wn rfl) rfl rfl (py_assign rfl) ?_))
            refine s_nil ?_
            have nR := hR.norm (c := c) (r := r) (a := j) (by omega) (by omega)
            have hz := ((H14.ftake 1).dtake 1)
            rw [elimTo_set (by rw [nR.1]; omega) (by omega) (by rw [elimTo_at (by rw [nR.1]; omega), elimTo_r (by rw [nR.1]; omega)]; rfl)] at hz
            refine ⟨(i + 1, _, _, _), ⟨rfl, rfl, rfl, rfl, rfl, trivial⟩, ⟨hz, by omega, by simp only [List.length_set]; omega⟩, by dsimp only; omega⟩
          · refine W_skip ?_
            refine W_reg ?_
            refine s_val (wn rfl) rfl rfl (py_move rfl) (s_val (wn rfl) rfl rfl (py_add rfl rfl (in64 ⟨by omega, by omega⟩)) (s_val (wn rfl) rfl rfl (py_assign rfl) ?_))
            refine s_nil ?_
            have nR := hR.norm (c := c) (r := r) (a := j) (by omega) (by omega)
            have hz := H10
            rw [elimTo_skip (.inl (by omega))] at hz
            refine ⟨(i + 1, _, _, _), ⟨rfl, rfl, rfl, rfl, rfl, trivial⟩, ⟨hz, by omega, vl2⟩, by dsimp only; omega⟩
        · refine W_exit ?_
          refine W_reg ?_
          refine s_val (wn rfl) rfl rfl (py_move rfl) (s_val (wn rfl) rfl rfl (py_add rfl rfl (in64 ⟨by omega, by omega⟩)) (s_val (wn rfl) rfl rfl (py_assign rfl) ?_))
          refine s_nil ?_
          refine W_reg ?_
          refine s_val (wn rfl) rfl rfl (py_move rfl) (s_val (wn rfl) rfl rfl (py_add rfl rfl (in64 ⟨by omega, by omega⟩)) (s_val (wn rfl) rfl rfl (py_assign rfl) ?_))
          refine s_nil ?_
          have hz := H10
          rw [show i = K by omega] at hz
          refine ⟨(c + 1, elimTo (normM M c r j) c r K, r + 1, _, _, _), ⟨rfl, rfl, rfl, rfl, trivial⟩, ⟨hz, by omega, (step_some hred hpv (by omega)).trans (by rw [xl]), (hR.norm (by omega) (by omega)).elim (by omega), by omega, vl2⟩, by dsimp only; omega⟩
  · refine W_exit ?_
    refine W_seq ?_
    refine W_reg ?_
    refine s_val (wn rfl) rfl rfl (py_move rfl) (s_val (wn rfl) rfl rfl (py_assign rfl) ?_)
    refine s_nil ?_
    refine W_ret (hQ _ _ (fin1 Try.results180 rfl ?_))
    have hz := H2.rowsOut vl
    have e9 : redM m n = (M, r) := by
      simp only [Bool.and_eq_false_iff, decide_eq_false_iff_not] at c1
      by_cases hq : c = n
      · rw [← hq]; exact hred
      · rw [red_full (c := c) (by rw [hred]; show r = M.length; rw [hR.1]; omega) n hc]; exact hred
    rw [e9]
    exact ⟨rfl, hz⟩
theorem Try_impl_solve {w : World} {m : List (List UInt8)} {mA : Option Addr} {mN mC : Nat} {b : List UInt8} {bA : Option Addr} {bN bC : Nat} (mS : Sees w [.slice mA mN mC] m) (bS : Sees w [.slice bA bN bC] b) (hR : Rect m m.length m.length) (hb : b.length = m.length) (hml : 1 ≤ m.length ∧ m.length ≤ 100) : Ret Try.prog 157 #[.slice mA mN mC, .slice bA bN bC] w fun v w' => Ext No w w' ∧ (∃ A C, v = .tuple #[.slice A (solL m b).length C, .bool (solOk m b)] ∧ Res w w' [.slice A (solL m b).length C] (solL m b)) := by
  obtain ⟨mF, mO⟩ := mS
  obtain rfl := own_n mO
  have mL := sees_len ⟨_, mO⟩
  unfold maxLen at mL
  obtain ⟨bF, bO⟩ := bS
  obtain rfl := own_n bO
  have bL := sees_len ⟨_, bO⟩
  unfold maxLen at bL
  refine ret_Q (vs := [.slice mA m.length mC, .slice bA b.length bC]) Try.func157 rfl Try.ntmps157 rfl (fun Q hQ hN => ?_)
  have H0 := Sep.start (w := w) (F := [seen false [.slice mA m.length mC] m mF, seen false [.slice bA b.length bC] b bF]) (all_cons mO (all_cons bO (by simp)))
  refine W_seq ?_
  refine W_reg ?_
  refine s_val (wn rfl) rfl rfl (py_assign rfl) (s_val (wn rfl) rfl rfl (py_assign rfl) ?_)
  refine s_nil ?_
  refine W_seq ?_
  refine W_reg ?_
  refine s_val (wn rfl) rfl rfl (py_move rfl) (s_val (wn rfl) rfl rfl (py_len Try.underlying43 rfl) ?_)
  refine s_make (wn rfl) rfl Try.underlying43 Try_ty34 (own_zs (α := UInt8)) rfl (by omega) (by unfold maxLen; omega) H0 (fun b1 w1 e1 g1 H1 => ?_)
  refine s_val (wn rfl) rfl rfl (py_assign rfl) ?_
  refine s_nil ?_
  refine W_seq ?_
  refine W_seq ?_
  refine W_reg ?_
  refine s_val (wn rfl) rfl rfl (py_move rfl) (s_val (wn rfl) rfl rfl (py_len Try.underlying43 rfl) (s_val (wn rfl) rfl rfl (py_move rfl) ?_))
  refine s_nil ?_
  refine W_block ?_
  refine W_loop (γ := Nat × List Nat) (fun (k, f) => [(0, .slice mA m.length mC), (1, .slice bA b.length bC), (6, .slice (some ⟨b1, 0, none⟩) m.length m.length), (15, .slice mA m.length mC), (16, .int .i64 m.length), (17, .int .i64 k)]) (fun (k, f) w' => Sep No w [mine [.slice (some ⟨b1, 0, none⟩) m.length m.length] (augIn m b k) f] [seen false [.slice mA m.length mC] m mF, seen false [.slice bA b.length bC] b bF] w' ∧ k ≤ m.length) (fun (k, f) => m.length - k) (0, _) ⟨rfl, rfl, rfl, rfl, rfl, rfl, trivial⟩ ⟨by rw [augIn_zero]; exact H1, by omega⟩ (fun (k, f) w2 H2 => ?_)
  obtain ⟨H2, hk⟩ := H2
  refine W_seq ?_
  refine W_reg ?_
  refine s_val (wn rfl) rfl rfl (py_lss rfl rfl) ?_
  refine s_nil ?_
  refine W_seq ?_
  refine W_ifd rfl (fun c1 => ?_) (fun c1 => ?_)
  · refine W_skip ?_
    refine W_seq ?_
    refine W_block ?_
    refine W_seq ?_
    obtain ⟨eb1, eo1, ea1, ek1, ef1, ee1, ec1, eO1, eH1⟩ := elem_sl (H2.seen 0 rfl) k (by omega)
    have eP1 := H2.look1 0 rfl eO1 eH1
    refine W_reg ?_
    refine s_val (wn rfl) rfl rfl (py_move rfl) (s_val (wn rfl) rfl rfl (py_elz Try.underlying43 Try.sizeOf34 rfl rfl ee1 k (by omega) (by omega)) (s_val (wn rfl) rfl rfl (py_load Try.underlying34 rfl rfl ec1) (s_val (wn rfl) rfl rfl (py_assign rfl) (s_val (wn rfl) rfl rfl (py_assign rfl) ?_))))
    refine s_nil ?_
    have e3 := hR.2 k (by omega)
    obtain ⟨eb2, eo2, ee2, ec2⟩ := elem_u8 (eP1.seen 1 rfl) k (by omega)
    obtain ⟨eb3, eo3, ee3⟩ := own_addr (eP1.mine 0 rfl) k (by rw [augIn_len (by omega)]; omega)
    refine W_drw (S := Ext No _) [(0, true), (1, true), (2, true), (4, true), (5, true), (6, true), (7, true), (1005, false), (3, false), (8, false), (9, false), (10, true), (11, false), (8, false), (3, false), (9, false), (10, true), (11, false)] (by kernel_rfl) (by kernel_rfl) (by kernel_rfl) rfl (fun _ => Ext.refl.drawn _) (fun q1 => ?_)
    have H3 := eP1.drawn q1
    refine d_val rfl (wn rfl) rfl rfl (fun zw hx => py_move rfl) (d_val rfl (wn rfl) rfl rfl (fun zw hx => py_move rfl) (d_val rfl (wn rfl) rfl rfl (fun zw hx => py_move rfl) (d_val rfl (wn rfl) rfl rfl (fun zw hx => py_move rfl) (d_val rfl (wn rfl) rfl rfl (fun zw hx => py_move rfl) (d_val rfl (wn rfl) rfl rfl (fun zw hx => py_elz Try.underlying34 Try.sizeOf5 rfl rfl ee2 k (by omega) (by omega)) (d_val rfl (wn rfl) rfl rfl (fun zw hx => py_load Try.underlying5 rfl rfl (hx.cell ec2)) ?_))))))
    refine d_fork (l1 := [(3, false), (8, false), (9, false), (10, true), (11, false)]) (l2 := [(8, false), (3, false), (9, false), (10, true), (11, false)]) rfl rfl rfl rfl ?_ ?_
    · refine d_S (fun hs1 => ?_) (by simp)
      refine d_call rfl (wn rfl) rfl rfl (pc_call Try.func154 rfl Try_nm154 rfl) (Try_slices_Clone_byte_byte (H3.sees 2 rfl) (by omega)) (fun hS _ _ r _ => hS.trans r.1.no) (fun v1 w3 r1 => ?_)
      obtain ⟨e2, r1⟩ := r1
      obtain ⟨fp1, H4, fr1⟩ := H3.resN e2 r1
      obtain ⟨a1, k1, q2⟩ := own_slice (H4.mine 1 rfl)
      cases q2
      refine d_lit1 rfl (wn rfl) rfl Try.underlying34 Try_ty5 rfl rfl rfl rfl H4 (fun _ h e => h.trans e.no) (fun b2 w4 e3 g2 H5 => ?_)
      refine d_S (fun hs2 => ?_) (by simp)
      refine d_app1S rfl (wn rfl) rfl Try.underlying34 Try_ty5 rfl rfl rfl H5 1 2 rfl rfl own_b8 (by (try simp only [List.length_nil]); unfold maxLen; omega) (by (try simp only [List.length_nil]); omega) (fun b hb => Nat.le_trans hs1.size (fr1 b hb)) (fun v2 w5 fp2 sb1 H6 => ?_)
      try dsimp only [List.nil_append, List.cons_append, List.set_cons_zero, List.set_cons_succ] at H6
      refine d_val rfl (wn rfl) rfl rfl (fun zw hx => py_elz Try.underlying43 Try.sizeOf34 rfl rfl ee3 k (by omega) (by omega)) ?_
      refine d_elst2 rfl (wn rfl) Try.sizeOf34 rfl H6 0 1 rfl rfl rfl k (by rw [augIn_len (by omega)]; omega) rfl ee3 rfl (fun w6 fp3 H7 => ?_)
      refine d_nil ?_
      refine W_reg ?_
      refine s_val (wn rfl) rfl rfl (py_add rfl rfl (in64 ⟨by omega, by omega⟩)) (s_val (wn rfl) rfl rfl (py_move rfl) ?_)
      refine s_nil ?_
      have hz := ((H7.ftake 2).dtake 1)
      rw [augIn_set (by omega)] at hz
      refine ⟨(k + 1, _), ⟨rfl, rfl, rfl, rfl, rfl, rfl, trivial⟩, ⟨hz, by omega⟩, by dsimp only; omega⟩
    · refine d_lit1 rfl (wn rfl) rfl Try.underlying34 Try_ty5 rfl rfl rfl rfl H3 (fun _ h e => h.trans e.no) (fun b3 w7 e5 g3 H8 => ?_)
      refine d_S (fun hs3 => ?_) (by simp)
      refine d_call rfl (wn rfl) rfl rfl (pc_call Try.func154 rfl Try_nm154 rfl) (Try_slices_Clone_byte_byte (H8.sees 2 rfl) (by omega)) (fun hS _ _ r _ => hS.trans r.1.no) (fun v3 w8 r2 => ?_)
      obtain ⟨e6, r2⟩ := r2
      obtain ⟨fp4, H9, fr2⟩ := H8.resN e6 r2
      obtain ⟨a2, k2, q3⟩ := own_slice (H9.mine 2 rfl)
      cases q3
      refine d_S (fun hs4 => ?_) (by simp)
      refine d_app1S rfl (wn rfl) rfl Try.underlying34 Try_ty5 rfl rfl rfl H9 2 1 rfl rfl own_b8 (by (try simp only [List.length_nil]); unfold maxLen; omega) (by (try simp only [List.length_nil]); omega) (fun b hb => Nat.le_trans hs3.size (fr2 b hb)) (fun v4 w9 fp5 sb2 H10 => ?_)
      try dsimp only [List.nil_append, List.cons_append, List.set_cons_zero, List.set_cons_succ] at H10
      refine d_val rfl (wn rfl) rfl rfl (fun zw hx => py_elz Try.underlying43 Try.sizeOf34 rfl rfl ee3 k (by omega) (by omega)) ?_
      refine d_elst2 rfl (wn rfl) Try.sizeOf34 rfl H10 0 2 rfl rfl rfl k (by rw [augIn_len (by omega)]; omega) rfl ee3 rfl (fun w10 fp6 H11 => ?_)
      refine d_nil ?_
      refine W_reg ?_
      refine s_val (wn rfl) rfl rfl (py_add rfl rfl (in64 ⟨by omega, by omega⟩)) (s_val (wn rfl) rfl rfl (py_move rfl) ?_)
      refine s_nil ?_
      have hz := ((H11.ftake 2).dtake 1)
      rw [augIn_set (by omega)] at hz
      refine ⟨(k + 1, _), ⟨rfl, rfl, rfl, rfl, rfl, rfl, trivial⟩, ⟨hz, by omega⟩, by dsimp only; omega⟩
  · refine W_exit ?_
    refine W_seq ?_
    refine W_seq ?_
    obtain rfl : k = m.length := by omega
    obtain ⟨vs, f2, g2, vl, HP⟩ := H2.parted 0 rfl
    try dsimp only [List.nil_append, List.cons_append, List.set_cons_zero, List.set_cons_succ] at HP
    rw [augIn_all] at HP
    rw [augIn_all] at vl
    have hRa := aug_rect (b := b) hR
    have hRM := (hRa.red m.length).1
    have hM1 := hRM.1
    have vl1 : vs.length = m.length := vl.trans hRa.1
    refine W_reg ?_
    refine s_val (wn rfl) rfl rfl (py_move rfl) (s_val (wn rfl) rfl rfl (py_move rfl) (s_val (wn rfl) rfl rfl (py_len Try.underlying43 rfl) ?_))
    refine s_call (wn rfl) rfl rfl (pc_call Try.func181 rfl Try_nm181 rfl) (Try_impl_reduce (HP.mine 0 rfl) (HP.nodup1 (i := 0) rfl) (HP.rowsAt 2 rfl) (fun b hb => HP.off 2 rfl 0 rfl hb) (by first | assumption | omega) (by assumption) (by omega)) (fun v5 w11 r3 => ?_)
    obtain ⟨rfl, rm1⟩ := r3
    obtain ⟨rv1, rf1, rg1, rl1, H12⟩ := HP.rowsMut 0 rfl (by simp [blocks, mine, gone]) rm1
    try dsimp only [List.nil_append, List.cons_append, List.set_cons_zero, List.set_cons_succ] at H12
    refine s_val (wn rfl) rfl rfl (py_move rfl) (s_val (wn rfl) rfl rfl (py_len Try.underlying43 rfl) (s_val (wn rfl) rfl rfl (py_lss rfl rfl) ?_))
    refine s_nil ?_
    refine W_ifd rfl (fun c2 => ?_) (fun c2 => ?_)
    · refine W_seq ?_
      refine W_reg ?_
      refine s_val (wn rfl) rfl rfl (py_assign rfl) (s_val (wn rfl) rfl rfl (py_assign rfl) ?_)
      refine s_nil ?_
      refine W_ret (hQ _ _ (fin2 Try.results157 rfl rfl ?_))
      obtain ⟨e1, e2⟩ := sol_no (m := m) (b := b) (by omega)
      exact ⟨H12.ext, none, 0, (by rw [e1, e2]; rfl), (by rw [e2]; exact ⟨[], .inr (.inl ⟨rfl, rfl, rfl⟩), .nil, by simp⟩)⟩
    · refine W_skip ?_
      refine W_seq ?_
      refine W_reg ?_
      refine s_lit0 (α := UInt8) (wn rfl) rfl Try.underlying34 Try_ty5 H12 (fun b4 w12 e9 g4 H13 => ?_)
      refine s_val (wn rfl) rfl rfl (py_assign rfl) ?_
      refine s_nil ?_
      refine W_seq ?_
      refine W_seq ?_
      refine W_reg ?_
      refine s_val (wn rfl) rfl rfl (py_move rfl) (s_val (wn rfl) rfl rfl (py_len Try.underlying43 rfl) (s_val (wn rfl) rfl rfl (py_move rfl) ?_))
      refine s_nil ?_
      refine W_block ?_
      refine W_loop (γ := Nat × Value × List Nat) (fun (k, vo, f) => [(0, .slice mA m.length mC), (9, vo), (42, .slice (some ⟨b1, 0, none⟩) m.length m.length), (43, .int .i64 m.length), (44, .int .i64 k)]) (fun (k, vo, f) w' => Sep No w [mine [.slice (some ⟨b1, 0, none⟩) m.length m.length] rv1 rf1, mine [vo] (colTo (redM (aug m b) m.length).1 m.length k) f] _ w' ∧ k ≤ m.length) (fun (k, vo, f) => m.length - k) (0, _, _) ⟨rfl, rfl, rfl, rfl, rfl, trivial⟩ ⟨H13.sub (.cons_cons _ (.cons_cons _ List.Sublist.slnil)), by omega⟩ (fun (k, vo, f) w13 H14 => ?_)
      obtain ⟨H14, hk⟩ := H14
      refine W_seq ?_
      refine W_reg ?_
      refine s_val (wn rfl) rfl rfl (py_lss rfl rfl) ?_
      refine s_nil ?_
      refine W_seq ?_
      refine W_ifd rfl (fun c3 => ?_) (fun c3 => ?_)
      · refine W_skip ?_
        refine W_seq ?_
        refine W_block ?_
        refine W_seq ?_
        obtain ⟨eb4, eo4, ea2, ek2, ef2, ee4, ec4, eO2, eH2, em1⟩ := elem_view (H14.mine 0 rfl) (H14.rowsAt 3 rfl) (by first | omega | (simp only [List.length_set]; omega)) k (by first | omega | (simp only [List.length_set]; omega))
        have eP2 := H14.lookR 3 rfl eO2 eH2
        refine W_reg ?_
        refine s_val (wn rfl) rfl rfl (py_elz Try.underlying43 Try.sizeOf34 rfl rfl ee4 k (by omega) (by omega)) (s_val (wn rfl) rfl rfl (py_load Try.underlying34 rfl rfl ec4) (s_val (wn rfl) rfl rfl (py_assign rfl) ?_))
        refine s_nil ?_
        have e5 := hRM.2 k (by omega)
        have ctl := colTo_len (m := (redM (aug m b) m.length).1) (c := m.length) (k := k)
        obtain ⟨eb5, eo5, ee5, ec5⟩ := elem_u8 (eP2.seen 4 rfl) m.length (by omega)
        refine W_reg ?_
        refine s_val (wn rfl) rfl rfl (py_move rfl) (s_val (wn rfl) rfl rfl (py_move rfl) (s_val (wn rfl) rfl rfl (py_move rfl) (s_val (wn rfl) rfl rfl (py_len Try.underlying43 rfl) (s_val (wn rfl) rfl rfl (py_elz Try.underlying34 Try.sizeOf5 rfl rfl ee5 m.length (by omega) (by omega)) (s_val (wn rfl) rfl rfl (py_load Try.underlying5 rfl rfl ec5) ?_)))))
        refine s_lit1 (wn rfl) rfl Try.underlying34 Try_ty5 rfl rfl rfl rfl eP2 (fun b5 w14 e10 g5 H15 => ?_)
        refine s_app1 (wn rfl) rfl Try.underlying34 Try_ty5 rfl rfl rfl H15 1 2 rfl rfl own_b8 (by unfold maxLen; omega) (by omega) (fun v6 w15 fp7 H16 => ?_)
        refine s_val (wn rfl) rfl rfl (py_assign rfl) ?_
        refine s_nil ?_
        refine W_reg ?_
        refine s_val (wn rfl) rfl rfl (py_add rfl rfl (in64 ⟨by omega, by omega⟩)) (s_val (wn rfl) rfl rfl (py_move rfl) ?_)
        refine s_nil ?_
        have hz := H16.ftake 4 |>.sub (.cons_cons _ (.cons_cons _ (.cons _ List.Sublist.slnil)))
        rw [colTo_step] at hz
        refine ⟨(k + 1, _, _), ⟨rfl, rfl, rfl, rfl, rfl, trivial⟩, ⟨hz, by omega⟩, by dsimp only; omega⟩
      · refine W_exit ?_
        refine W_seq ?_
        refine W_reg ?_
        refine s_val (wn rfl) rfl rfl (py_move rfl) (s_val (wn rfl) rfl rfl (py_assign rfl) (s_val (wn rfl) rfl rfl (py_assign rfl) ?_))
        refine s_nil ?_
        refine W_ret (hQ _ _ (fin2 Try.results157 rfl rfl ?_))
        obtain rfl : k = m.length := by omega
        obtain ⟨e1, e2⟩ := sol_yes (m := m) (b := b) (by omega)
        obtain ⟨qa, qc, qq⟩ := own_slice (H14.mine 1 rfl)
        cases qq
        exact ⟨H14.ext, qa, qc, (by rw [e1, e2]), (by rw [e2]; exact H14.out 1 rfl)⟩
theorem Try_spec_l1Solve {w : World} {m : List (List UInt8)} {mA : Option Addr} {mN mC : Nat} {b : List UInt8} {bA : Option Addr} {bN bC : Nat} (mS : Sees w [.slice mA mN mC] m) (bS : Sees w [.slice bA bN bC] b) (hR : Rect m m.length m.length) (hb : b.length = m.length) (hml : 1 ≤ m.length ∧ m.length ≤ 100) : Ret Try.prog 156 #[.slice mA mN mC, .slice bA bN bC] w fun v w' => Ext No w w' ∧ (∃ A C, v = .tuple #[.slice A (solL m b).length C, .bool (solOk m b)] ∧ Res w w' [.slice A (solL m b).length C] (solL m b)) := by
  obtain ⟨mF, mO⟩ := mS
  obtain rfl := own_n mO
  have mL := sees_len ⟨_, mO⟩
  unfold maxLen at mL
  obtain ⟨bF, bO⟩ := bS
  obtain rfl := own_n bO
  have bL := sees_len ⟨_, bO⟩
  unfold maxLen at bL
  refine ret_Q (vs := [.slice mA m.length mC, .slice bA b.length bC]) Try.func156 rfl Try.ntmps156 rfl (fun Q hQ hN => ?_)
  have H0 := Sep.start (w := w) (F := [seen false [.slice mA m.length mC] m mF, seen false [.slice bA b.length bC] b bF]) (all_cons mO (all_cons bO (by simp)))
  refine W_seq ?_
  refine W_reg ?_
  refine s_val (wn rfl) rfl rfl (py_assign rfl) (s_val (wn rfl) rfl rfl (py_assign rfl) ?_)
  refine s_nil ?_
  refine W_seq ?_
  refine W_reg ?_
  refine s_lit0 (α := (List UInt8)) (wn rfl) rfl Try.underlying43 Try_ty34 H0 (fun b1 w1 e1 g1 H1 => ?_)
  refine s_val (wn rfl) rfl rfl (py_assign rfl) ?_
  refine s_nil ?_
  refine W_seq ?_
  refine W_seq ?_
  refine W_reg ?_
  refine s_val (wn rfl) rfl rfl (py_assign rfl) ?_
  refine s_nil ?_
  refine W_block ?_
  refine W_loop (γ := Nat × Value × List Nat) (fun (k, vo, f) => [(0, .slice mA m.length mC), (1, .slice bA b.length bC), (6, vo), (7, .int .i64 k)]) (fun (k, vo, f) w' => Sep No w [mine [vo] (augTo m b k) f] [seen false [.slice mA m.length mC] m mF, seen false [.slice bA b.length bC] b bF] w' ∧ k ≤ m.length) (fun (k, vo, f) => m.length - k) (0, _, _) ⟨rfl, rfl, rfl, rfl, trivial⟩ ⟨H1, by omega⟩ (fun (k, vo, f) w2 H2 => ?_)
  obtain ⟨H2, hk⟩ := H2
  refine W_seq ?_
  refine W_seq ?_
  refine W_reg ?_
  refine s_val (wn rfl) rfl rfl (py_move rfl) (s_val (wn rfl) rfl rfl (py_move rfl) (s_val (wn rfl) rfl rfl (py_len Try.underlying43 rfl) (s_val (wn rfl) rfl rfl (py_lss rfl rfl) ?_)))
  refine s_nil ?_
  refine W_ifd rfl (fun c1 => ?_) (fun c1 => ?_)
  · refine W_skip ?_
    refine W_seq ?_
    refine W_block ?_
    have e3 := hR.2 k (by omega)
    have al := augTo_len (m := m) (b := b) (k := k)
    obtain ⟨eb1, eo1, ea1, ek1, ef1, ee1, ec1, eO1, eH1, em1⟩ := elem_slm (H2.seen 0 rfl) k (by omega)
    have eP1 := H2.look1 0 rfl eO1 eH1
    obtain ⟨eb2, eo2, ee2, ec2, em2⟩ := elem_u8m (eP1.seen 1 rfl) k (by omega)
    refine W_drw (S := Ext (· ∈ f) _) [(0, true), (2, true), (3, true), (4, true), (5, true), (7, true), (8, true), (9, true), (10, true), (1014, false), (1, false), (1006, false), (6, false), (11, false), (12, false), (13, false), (14, false), (15, false), (11, false), (6, false), (12, false), (13, false), (14, false), (15, false), (11, false), (1, false), (6, false), (12, false), (13, false), (14, false), (15, false)] (by kernel_rfl) (by kernel_rfl) (by kernel_rfl) rfl (fun _ => Ext.refl.drawn _) (fun q1 => ?_)
    have H3 := eP1.drawn q1
    refine d_val rfl (wn rfl) rfl rfl (fun zw hx => py_move rfl) (d_val rfl (wn rfl) rfl rfl (fun zw hx => py_move rfl) (d_val rfl (wn rfl) rfl rfl (fun zw hx => py_move rfl) (d_val rfl (wn rfl) rfl rfl (fun zw hx => py_elz Try.underlying43 Try.sizeOf34 rfl rfl ee1 k (by omega) (by omega)) (d_val rfl (wn rfl) rfl rfl (fun zw hx => py_load Try.underlying34 rfl rfl (hx.cellM (H3.off 0 rfl 0 rfl em1) ec1)) (d_val rfl (wn rfl) rfl rfl (fun zw hx => py_move rfl) (d_val rfl (wn rfl) rfl rfl (fun zw hx => py_move rfl) (d_val rfl (wn rfl) rfl rfl (fun zw hx => py_elz Try.underlying34 Try.sizeOf5 rfl rfl ee2 k (by omega) (by omega)) (d_val rfl (wn rfl) rfl rfl (fun zw hx => py_load Try.underlying5 rfl rfl (hx.cellM (H3.off 1 rfl 0 rfl em2) ec2)) ?_))))))))
    refine d_fork (l1 := [(1, false), (1006, false), (6, false), (11, false), (12, false), (13, false), (14, false), (15, false), (11, false), (6, false), (12, false), (13, false), (14, false), (15, false)]) (l2 := [(11, false), (1, false), (6, false), (12, false), (13, false), (14, false), (15, false)]) rfl rfl rfl rfl ?_ ?_
    · refine d_S (fun hs1 => ?_) (by simp)
      refine d_lit0 (α := UInt8) rfl (wn rfl) rfl Try.underlying34 Try_ty5 H3 (fun _ h e => h.trans e.no) (fun b2 w3 e2 g2 H4 => ?_)
      refine d_fork (l1 := [(6, false), (11, false), (12, false), (13, false), (14, false), (15, false)]) (l2 := [(11, false), (6, false), (12, false), (13, false), (14, false), (15, false)]) rfl rfl rfl rfl ?_ ?_
      · refine d_S (fun hs2 => ?_) (by simp)
        refine d_appFS rfl (wn rfl) rfl Try.underlying34 Try_ty5 rfl rfl rfl H4 1 rfl (H4.seen 2 rfl) (by (try simp only [List.length_nil]); unfold maxLen; omega) (by (try simp only [List.length_nil]); omega) (fun b hb => by simp only [List.mem_singleton] at hb; rw [hb]; exact Nat.le_trans hs1.size g2) (fun v1 w4 fp1 sb1 H5 => ?_)
        try dsimp only [List.nil_append, List.cons_append, List.set_cons_zero, List.set_cons_succ] at H5
        refine d_lit1 rfl (wn rfl) rfl Try.underlying34 Try_ty5 rfl rfl rfl rfl H5 (fun _ h e => h.trans e.no) (fun b3 w5 e3 g3 H6 => ?_)
        refine d_S (fun hs3 => ?_) (by simp)
        refine d_app1S rfl (wn rfl) rfl Try.underlying34 Try_ty5 rfl rfl rfl H6 1 2 rfl rfl own_b8 (by (try simp only [List.length_nil]); unfold maxLen; omega) (by (try simp only [List.length_nil]); omega) (fun b hb => (sb1 b hb).elim (((fun b hb => by simp only [List.mem_singleton] at hb; rw [hb]; exact Nat.le_trans hs1.size g2) : ∀ b ∈ _, _ ≤ b) b) (fun h => Nat.le_trans hs2.size h)) (fun v2 w6 fp2 sb2 H7 => ?_)
        try dsimp only [List.nil_append, List.cons_append, List.set_cons_zero, List.set_cons_succ] at H7
        obtain ⟨a1, k1, q2⟩ := own_slice (H7.mine 1 rfl)
        cases q2
        refine d_lit1 rfl (wn rfl) rfl Try.underlying43 Try_ty34 rfl rfl rfl rfl H7 (fun _ h e => h.trans e.no) (fun b4 w7 e4 g4 H8 => ?_)
        refine d_app2 rfl (wn rfl) rfl Try.underlying43 Try_ty34 rfl rfl rfl H8 0 3 1 rfl rfl rfl rfl (by unfold maxLen; omega) (by omega) (fun _ h e => h.trans e) (fun v3 w8 fp3 H9 => ?_)
        refine d_end rfl (wn rfl) rfl rfl (py_assign rfl) ?_
        refine d_nil ?_
        refine W_reg ?_
        refine s_val (wn rfl) rfl rfl (py_move rfl) (s_val (wn rfl) rfl rfl (py_add rfl rfl (in64 ⟨by omega, by omega⟩)) (s_val (wn rfl) rfl rfl (py_assign rfl) ?_))
        refine s_nil ?_
        have hz := ((H9.ftake 2).dtake 1)
        try simp only [List.nil_append] at hz
        rw [augTo_step] at hz
        refine ⟨(k + 1, _, _), ⟨rfl, rfl, rfl, rfl, trivial⟩, ⟨hz, by omega⟩, by dsimp only; omega⟩
      · refine d_lit1 rfl (wn rfl) rfl Try.underlying34 Try_ty5 rfl rfl rfl rfl H4 (fun _ h e => h.trans e.no) (fun b5 w9 e5 g5 H10 => ?_)
        refine d_S (fun hs4 => ?_) (by simp)
        refine d_appFS rfl (wn rfl) rfl Try.underlying34 Try_ty5 rfl rfl rfl H10 1 rfl (H10.seen 2 rfl) (by (try simp only [List.length_nil]); unfold maxLen; omega) (by (try simp only [List.length_nil]); omega) (fun b hb => by simp only [List.mem_singleton] at hb; rw [hb]; exact Nat.le_trans hs1.size g2) (fun v4 w10 fp4 sb3 H11 => ?_)
        try dsimp only [List.nil_append, List.cons_append, List.set_cons_zero, List.set_cons_succ] at H11
        refine d_S (fun hs5 => ?_) (by simp)
        refine d_app1S rfl (wn rfl) rfl Try.underlying34 Try_ty5 rfl rfl rfl H11 1 2 rfl rfl own_b8 (by (try simp only [List.length_nil]); unfold maxLen; omega) (by (try simp only [List.length_nil]); omega) (fun b hb => (sb3 b hb).elim (((fun b hb => by simp only [List.mem_singleton] at hb; rw [hb]; exact Nat.le_trans hs1.size g2) : ∀ b ∈ _, _ ≤ b) b) (fun h => Nat.le_trans hs4.size h)) (fun v5 w11 fp5 sb4 H12 => ?_)
        try dsimp only [List.nil_append, List.cons_append, List.set_cons_zero, List.set_cons_succ] at H12
        obtain ⟨a2, k2, q3⟩ := own_slice (H12.mine 1 rfl)
        cases q3
        refine d_lit1 rfl (wn rfl) rfl Try.underlying43 Try_ty34 rfl rfl rfl rfl H12 (fun _ h e => h.trans e.no) (fun b6 w12 e6 g6 H13 => ?_)
        refine d_app2 rfl (wn rfl) rfl Try.underlying43 Try_ty34 rfl rfl rfl H13 0 3 1 rfl rfl rfl rfl (by unfold maxLen; omega) (by omega) (fun _ h e => h.trans e) (fun v6 w13 fp6 H14 => ?_)
        refine d_end rfl (wn rfl) rfl rfl (py_assign rfl) ?_
        refine d_nil ?_
        refine W_reg ?_
        refine s_val (wn rfl) rfl rfl (py_move rfl) (s_val (wn rfl) rfl rfl (py_add rfl rfl (in64 ⟨by omega, by omega⟩)) (s_val (wn rfl) rfl rfl (py_assign rfl) ?_))
        refine s_nil ?_
        have hz := ((H14.ftake 2).dtake 1)
        try simp only [List.nil_append] at hz
        rw [augTo_step] at hz
        refine ⟨(k + 1, _, _), ⟨rfl, rfl, rfl, rfl, trivial⟩, ⟨hz, by omega⟩, by dsimp only; omega⟩
    · refine d_lit1 rfl (wn rfl) rfl Try.underlying34 Try_ty5 rfl rfl rfl rfl H3 (fun _ h e => h.trans e.no) (fun b7 w14 e7 g7 H15 => ?_)
      refine d_S (fun hs6 => ?_) (by simp)
      refine d_lit0 (α := UInt8) rfl (wn rfl) rfl Try.underlying34 Try_ty5 H15 (fun _ h e => h.trans e.no) (fun b8 w15 e8 g8 H16 => ?_)
      refine d_S (fun hs7 => ?_) (by simp)
      refine d_appFS rfl (wn rfl) rfl Try.underlying34 Try_ty5 rfl rfl rfl H16 2 rfl (H16.seen 2 rfl) (by (try simp only [List.length_nil]); unfold maxLen; omega) (by (try simp only [List.length_nil]); omega) (fun b hb => by simp only [List.mem_singleton] at hb; rw [hb]; exact Nat.le_trans hs6.size g8) (fun v7 w16 fp7 sb5 H17 => ?_)
      try dsimp only [List.nil_append, List.cons_append, List.set_cons_zero, List.set_cons_succ] at H17
      refine d_S (fun hs8 => ?_) (by simp)
      refine d_app1S rfl (wn rfl) rfl Try.underlying34 Try_ty5 rfl rfl rfl H17 2 1 rfl rfl own_b8 (by (try simp only [List.length_nil]); unfold maxLen; omega) (by (try simp only [List.length_nil]); omega) (fun b hb => (sb5 b hb).elim (((fun b hb => by simp only [List.mem_singleton] at hb; rw [hb]; exact Nat.le_trans hs6.size g8) : ∀ b ∈ _, _ ≤ b) b) (fun h => Nat.le_trans hs7.size h)) (fun v8 w17 fp8 sb6 H18 => ?_)
      try dsimp only [List.nil_append, List.cons_append, List.set_cons_zero, List.set_cons_succ] at H18
      obtain ⟨a3, k3, q4⟩ := own_slice (H18.mine 2 rfl)
      cases q4
      refine d_lit1 rfl (wn rfl) rfl Try.underlying43 Try_ty34 rfl rfl rfl rfl H18 (fun _ h e => h.trans e.no) (fun b9 w18 e9 g9 H19 => ?_)
      refine d_app2 rfl (wn rfl) rfl Try.underlying43 Try_ty34 rfl rfl rfl H19 0 3 2 rfl rfl rfl rfl (by unfold maxLen; omega) (by omega) (fun _ h e => h.trans e) (fun v9 w19 fp9 H20 => ?_)
      refine d_end rfl (wn rfl) rfl rfl (py_assign rfl) ?_
      refine d_nil ?_
      refine W_reg ?_
      refine s_val (wn rfl) rfl rfl (py_move rfl) (s_val (wn rfl) rfl rfl (py_add rfl rfl (in64 ⟨by omega, by omega⟩)) (s_val (wn rfl) rfl rfl (py_assign rfl) ?_))
      refine s_nil ?_
      have hz := ((H20.ftake 2).dtake 1)
      try simp only [List.nil_append] at hz
      rw [augTo_step] at hz
      refine ⟨(k + 1, _, _), ⟨rfl, rfl, rfl, rfl, trivial⟩, ⟨hz, by omega⟩, by dsimp only; omega⟩
  · refine W_exit ?_
    refine W_seq ?_
    refine W_reg ?_
    refine s_val (wn rfl) rfl rfl (py_move rfl) (s_val (wn rfl) rfl rfl (py_len Try.underlying43 rfl) (s_val (wn rfl) rfl rfl (py_assign rfl) ?_))
    refine s_nil ?_
    refine W_seq ?_
    refine W_seq ?_
    obtain rfl : k = m.length := by omega
    obtain ⟨oA, oC, oq⟩ := own_slice (H2.mine 0 rfl)
    rw [augTo_len] at oq
    cases oq
    have al : (augTo m b m.length).length = m.length := augTo_len
    obtain ⟨vs, f2, g2, vl, HP⟩ := H2.parted 0 rfl
    try dsimp only [List.nil_append, List.cons_append, List.set_cons_zero, List.set_cons_succ] at HP
    rw [show augTo m b m.length = aug m b from rfl] at HP vl
    have hRa := aug_rect (b := b) hR
    have hRM := (hRa.red m.length).1
    have hM1 := hRM.1
    have vl1 : vs.length = m.length := vl.trans hRa.1
    refine W_reg ?_
    refine s_val (wn rfl) rfl rfl (py_move rfl) (s_val (wn rfl) rfl rfl (py_move rfl) ?_)
    refine s_call (wn rfl) rfl rfl (pc_call Try.func180 rfl Try_nm180 rfl) (Try_spec_l1Step (HP.mine 0 rfl) (HP.nodup1 (i := 0) rfl) (HP.rowsAt 2 rfl) (fun b hb => HP.off 2 rfl 0 rfl hb) (by first | assumption | omega) (by assumption) (by omega)) (fun v10 w20 r1 => ?_)
    obtain ⟨rfl, rm1⟩ := r1
    obtain ⟨rv1, rf1, rg1, rl1, H21⟩ := HP.rowsMut 0 rfl (by simp [blocks, mine, gone]) rm1
    try dsimp only [List.nil_append, List.cons_append, List.set_cons_zero, List.set_cons_succ] at H21
    refine s_val (wn rfl) rfl rfl (py_move rfl) (s_val (wn rfl) rfl rfl (py_lss rfl rfl) ?_)
    refine s_nil ?_
    refine W_ifd rfl (fun c2 => ?_) (fun c2 => ?_)
    · refine W_seq ?_
      refine W_reg ?_
      refine s_val (wn rfl) rfl rfl (py_assign rfl) (s_val (wn rfl) rfl rfl (py_assign rfl) ?_)
      refine s_nil ?_
      refine W_ret (hQ _ _ (fin2 Try.results156 rfl rfl ?_))
      obtain ⟨e1, e2⟩ := sol_no (m := m) (b := b) (by omega)
      exact ⟨H21.ext, none, 0, (by rw [e1, e2]; rfl), (by rw [e2]; exact ⟨[], .inr (.inl ⟨rfl, rfl, rfl⟩), .nil, by simp⟩)⟩
    · refine W_skip ?_
      refine W_seq ?_
      refine W_reg ?_
      refine s_lit0 (α := UInt8) (wn rfl) rfl Try.underlying34 Try_ty5 H21 (fun b10 w21 e11 g10 H22 => ?_)
      refine s_val (wn rfl) rfl rfl (py_assign rfl) ?_
      refine s_nil ?_
      refine W_seq ?_
      refine W_seq ?_
      refine W_reg ?_
      refine s_val (wn rfl) rfl rfl (py_assign rfl) ?_
      refine s_nil ?_
      refine W_block ?_
      refine W_loop (γ := Nat × Value × List Nat) (fun (k, vo, f) => [(0, .slice mA m.length mC), (6, .slice oA m.length oC), (8, .int .i64 m.length), (9, vo), (10, .int .i64 k)]) (fun (k, vo, f) w' => Sep No w [mine [.slice oA m.length oC] rv1 rf1, mine [vo] (colTo (redM (aug m b) m.length).1 m.length k) f] _ w' ∧ k ≤ m.length) (fun (k, vo, f) => m.length - k) (0, _, _) ⟨rfl, rfl, rfl, rfl, rfl, trivial⟩ ⟨H22.sub (.cons_cons _ (.cons_cons _ List.Sublist.slnil)), by omega⟩ (fun (k, vo, f) w22 H23 => ?_)
      obtain ⟨H23, hk⟩ := H23
      refine W_seq ?_
      refine W_seq ?_
      refine W_reg ?_
      refine s_val (wn rfl) rfl rfl (py_move rfl) (s_val (wn rfl) rfl rfl (py_move rfl) (s_val (wn rfl) rfl rfl (py_lss rfl rfl) ?_))
      refine s_nil ?_
      refine W_ifd rfl (fun c3 => ?_) (fun c3 => ?_)
      · refine W_skip ?_
        refine W_seq ?_
        refine W_block ?_
        have e5 := hRM.2 k (by omega)
        have ctl := colTo_len (m := (redM (aug m b) m.length).1) (c := m.length) (k := k)
        obtain ⟨eb3, eo3, ea2, ek2, ef2, ee3, ec3, eO2, eH2, em3⟩ := elem_view (H23.mine 0 rfl) (H23.rowsAt 3 rfl) (by first | omega | (simp only [List.length_set]; omega)) k (by first | omega | (simp only [List.length_set]; omega))
        have eP2 := H23.lookR 3 rfl eO2 eH2
        obtain ⟨eb4, eo4, ee4, ec4⟩ := elem_u8 (eP2.seen 4 rfl) m.length (by omega)
        refine W_reg ?_
        refine s_val (wn rfl) rfl rfl (py_move rfl) (s_val (wn rfl) rfl rfl (py_move rfl) (s_val (wn rfl) rfl rfl (py_move rfl) (s_val (wn rfl) rfl rfl (py_elz Try.underlying43 Try.sizeOf34 rfl rfl ee3 k (by omega) (by omega)) (s_val (wn rfl) rfl rfl (py_load Try.underlying34 rfl rfl ec3) (s_val (wn rfl) rfl rfl (py_move rfl) (s_val (wn rfl) rfl rfl (py_elz Try.underlying34 Try.sizeOf5 rfl rfl ee4 m.length (by omega) (by omega)) (s_val (wn rfl) rfl rfl (py_load Try.underlying5 rfl rfl ec4) ?_)))))))
        refine s_lit1 (wn rfl) rfl Try.underlying34 Try_ty5 rfl rfl rfl rfl eP2 (fun b11 w23 e12 g11 H24 => ?_)
        refine s_app1 (wn rfl) rfl Try.underlying34 Try_ty5 rfl rfl rfl H24 1 2 rfl rfl own_b8 (by unfold maxLen; omega) (by omega) (fun v11 w24 fp10 H25 => ?_)
        refine s_val (wn rfl) rfl rfl (py_assign rfl) ?_
        refine s_nil ?_
        refine W_reg ?_
        refine s_val (wn rfl) rfl rfl (py_move rfl) (s_val (wn rfl) rfl rfl (py_add rfl rfl (in64 ⟨by omega, by omega⟩)) (s_val (wn rfl) rfl rfl (py_assign rfl) ?_))
        refine s_nil ?_
        have hz := H25.ftake 4 |>.sub (.cons_cons _ (.cons_cons _ (.cons _ List.Sublist.slnil)))
        rw [colTo_step] at hz
        refine ⟨(k + 1, _, _), ⟨rfl, rfl, rfl, rfl, rfl, trivial⟩, ⟨hz, by omega⟩, by dsimp only; omega⟩
      · refine W_exit ?_
        refine W_seq ?_
        refine W_reg ?_
        refine s_val (wn rfl) rfl rfl (py_move rfl) (s_val (wn rfl) rfl rfl (py_assign rfl) (s_val (wn rfl) rfl rfl (py_assign rfl) ?_))
        refine s_nil ?_
        refine W_ret (hQ _ _ (fin2 Try.results156 rfl rfl ?_))
        obtain rfl : k = m.length := by omega
        obtain ⟨e1, e2⟩ := sol_yes (m := m) (b := b) (by omega)
        obtain ⟨qa, qc, qq⟩ := own_slice (H23.mine 1 rfl)
        cases qq
        exact ⟨H23.ext, qa, qc, (by rw [e1, e2]), (by rw [e2]; exact H23.out 1 rfl)⟩
theorem Try_impl_rowCode_between {w : World} {n : Nat} {s p : Int} {hs : List Int} {hsA : Option Addr} {hsC : Nat} (hsS : Sees w [.slice hsA hs.length hsC] hs) (hn : 1 ≤ n ∧ n ≤ 100) (hl : hs.length = n) (hr : ∀ i, i < n → 0 ≤ hs.getD i 0 ∧ hs.getD i 0 ≤ 500) (hp : 0 ≤ p ∧ p ≤ 500) : Ret Try.prog 109 #[.agg #[.int .i64 n, .int .i64 s], .slice hsA hs.length hsC, .int .i64 p] w fun v w' => Ext No w w' ∧ (Res w w' [v] (betw n hs p 0)) := by
  obtain ⟨hsF, hsO⟩ := hsS
  refine ret_Q (vs := [.agg #[.int .i64 n, .int .i64 s], .slice hsA hs.length hsC, .int .i64 p]) Try.func109 rfl Try.ntmps109 rfl (fun Q hQ hN => ?_)
  have H0 := Sep.start (w := w) (F := [seen false [.slice hsA hs.length hsC] hs hsF]) (all_cons hsO (by simp))
  refine W_seq ?_
  refine W_reg ?_
  refine s_box (wn rfl) rfl rfl H0 (fun b1 w1 e1 g1 H1 => ?_)
  refine s_val (wn rfl) rfl rfl (py_assign rfl) ?_
  refine s_nil ?_
  refine W_seq ?_
  refine W_reg ?_
  refine s_val (wn rfl) rfl rfl (py_field Try.underlying105 rfl Try.sizeOf2 rfl rfl) (s_val (wn rfl) rfl rfl (py_load Try.underlying2 rfl rfl (cell_atL (H1.box 0 rfl) rfl)) ?_)
  refine s_make (wn rfl) rfl Try.underlying43 Try_ty34 (own_zs (α := UInt8)) rfl (by omega) (by unfold maxLen; omega) H1 (fun b2 w2 e2 g2 H2 => ?_)
  refine s_val (wn rfl) rfl rfl (py_assign rfl) ?_
  refine s_nil ?_
  refine W_seq ?_
  refine W_seq ?_
  refine W_reg ?_
  refine s_val (wn rfl) rfl rfl (py_move rfl) (s_val (wn rfl) rfl rfl (py_len Try.underlying33 rfl) (s_val (wn rfl) rfl rfl (py_move rfl) ?_))
  refine s_nil ?_
  refine W_block ?_
  refine W_loop (γ := Nat × List Nat) (fun (j, f) => [(2, .int .i64 p), (3, .pointer (some ⟨b1, 0, none⟩)), (7, .slice (some ⟨b2, 0, none⟩) n n), (17, .slice hsA hs.length hsC), (18, .int .i64 hs.length), (19, .int .i64 j)]) (fun (j, f) w' => Sep No w [box b1 (.cells #[.int .i64 n, .int .i64 s] 105), mine [.slice (some ⟨b2, 0, none⟩) n n] (trF (hv n hs 0) n j 0) f] [seen false [.slice hsA hs.length hsC] hs hsF] w' ∧ j ≤ n) (fun (j, f) => n - j) (0, _) ⟨rfl, rfl, rfl, rfl, rfl, rfl, trivial⟩ ⟨by rw [trF_zero]; exact H2, by omega⟩ (fun (j, f) w3 H3 => ?_)
  obtain ⟨H3, hj0⟩ := H3
  refine W_seq ?_
  refine W_reg ?_
  refine s_val (wn rfl) rfl rfl (py_lss rfl rfl) ?_
  refine s_nil ?_
  refine W_seq ?_
  refine W_ifd rfl (fun c1 => ?_) (fun c1 => ?_)
  · refine W_skip ?_
    refine W_seq ?_
    refine W_block ?_
    refine W_seq ?_
    obtain ⟨eb1, eo1, ee1, ec1⟩ := elem_int (H3.seen 0 rfl) j (by omega)
    have eI1 := elem_i64 (H3.seen 0 rfl) j (by omega)
    refine W_reg ?_
    refine s_val (wn rfl) rfl rfl (py_elz Try.underlying33 Try.sizeOf2 rfl rfl ee1 j (by omega) (by omega)) (s_val (wn rfl) rfl rfl (py_load Try.underlying2 rfl rfl ec1) (s_val (wn rfl) rfl rfl (py_assign rfl) ?_))
    refine s_nil ?_
    refine W_seq ?_
    have hj := hr j (by omega)
    have gl : (genG n (hs.getD j 0) 0).length = n := genG_len
    refine W_reg ?_
    refine s_val (wn rfl) rfl rfl (py_loadS Try.underlying105 rfl Try.sizeOf105 rfl rfl (At.whole (H3.box 0 rfl))) (s_val (wn rfl) rfl rfl (py_move rfl) ?_)
    refine s_call (wn rfl) rfl rfl (pc_call Try.func138 rfl Try_nm138 rfl) (Try_impl_rowCode_weights (by omega)) (fun v1 w4 r1 => ?_)
    obtain ⟨e3, r1⟩ := r1
    obtain ⟨fp1, H4⟩ := H3.res e3 r1
    obtain ⟨a1, k1, q1⟩ := own_slice (H4.mine 2 rfl)
    cases q1
    refine s_val (wn rfl) rfl rfl (py_len Try.underlying34 rfl) (s_val (wn rfl) rfl rfl (py_move rfl) ?_)
    refine s_nil ?_
    refine W_block ?_
    refine W_loop (γ := Nat × List Nat) (fun (i, f2) => [(2, .int .i64 p), (3, .pointer (some ⟨b1, 0, none⟩)), (7, .slice (some ⟨b2, 0, none⟩) n n), (17, .slice hsA hs.length hsC), (18, .int .i64 hs.length), (19, .int .i64 j), (25, .slice a1 (genG n (hs.getD j 0) 0).length k1), (26, .int .i64 (genG n (hs.getD j 0) 0).length), (27, .int .i64 i)]) (fun (i, f2) w' => Sep No w [box b1 (.cells #[.int .i64 n, .int .i64 s] 105), mine [.slice (some ⟨b2, 0, none⟩) n n] (trF (hv n hs 0) n j i) f2, mine [.slice a1 (genG n (hs.getD j 0) 0).length k1] (genG n (hs.getD j 0) 0) fp1] [seen false [.slice hsA hs.length hsC] hs hsF] w' ∧ i ≤ n) (fun (i, f2) => n - i) (0, _) ⟨rfl, rfl, rfl, rfl, rfl, rfl, rfl, rfl, rfl, trivial⟩ ⟨H4, by omega⟩ (fun (i, f2) w5 H5 => ?_)
    obtain ⟨H5, hi⟩ := H5
    refine W_seq ?_
    refine W_reg ?_
    refine s_val (wn rfl) rfl rfl (py_lss rfl rfl) ?_
    refine s_nil ?_
    refine W_seq ?_
    refine W_ifd rfl (fun c2 => ?_) (fun c2 => ?_)
    · refine W_skip ?_
      refine W_seq ?_
      refine W_block ?_
      refine W_seq ?_
      obtain ⟨eb2, eo2, ee2, ec2⟩ := elem_u8 (H5.mine 2 rfl) i (by omega)
      refine W_reg ?_
      refine s_val (wn rfl) rfl rfl (py_move rfl) (s_val (wn rfl) rfl rfl (py_elz Try.underlying34 Try.sizeOf5 rfl rfl ee2 i (by omega) (by omega)) (s_val (wn rfl) rfl rfl (py_load Try.underlying5 rfl rfl ec2) (s_val (wn rfl) rfl rfl (py_assign rfl) (s_val (wn rfl) rfl rfl (py_assign rfl) ?_))))
      refine s_nil ?_
      have e6 : ((trF (hv n hs 0) n j i).getD i []).length = j := by rw [trF_get (by omega)]; simp
      obtain ⟨eb3, eo3, eB1, eS1, eF1, eG1, ef1, ea1, ek1, ee3, eN1, ec3, nbef1, eH1⟩ := H5.unhook 1 rfl i (by rw [trF_len]; omega)
      try dsimp only [List.nil_append, List.cons_append, List.set_cons_zero, List.set_cons_succ] at eH1
      refine W_reg ?_
      refine s_val (wn rfl) rfl rfl (py_move rfl) (s_val (wn rfl) rfl rfl (py_move rfl) (s_val (wn rfl) rfl rfl (py_move rfl) (s_val (wn rfl) rfl rfl (py_move rfl) (s_val (wn rfl) rfl rfl (py_elz Try.underlying43 Try.sizeOf34 rfl rfl ee3 i (by omega) (by omega)) (s_val (wn rfl) rfl rfl (py_load Try.underlying34 rfl rfl ec3) (s_val (wn rfl) rfl rfl (py_move rfl) ?_))))))
      refine s_lit1 (wn rfl) rfl Try.underlying34 Try_ty5 rfl rfl rfl rfl eH1 (fun b3 w6 e4 g3 H6 => ?_)
      refine s_app1 (wn rfl) rfl Try.underlying34 Try_ty5 rfl rfl rfl H6 3 4 rfl rfl own_b8 (by unfold maxLen; omega) (by omega) (fun v2 w7 fp2 H7 => ?_)
      refine s_val (wn rfl) rfl rfl (py_elz Try.underlying43 Try.sizeOf34 rfl rfl ee3 i (by omega) (by omega)) ?_
      refine s_hook (wn rfl) Try.sizeOf34 H7 1 3 rfl rfl rfl eN1 rfl rfl (fun w8 fp3 H8 => ?_)
      try dsimp only [List.nil_append, List.cons_append, List.set_cons_zero, List.set_cons_succ] at H8
      refine s_nil ?_
      refine W_reg ?_
      refine s_val (wn rfl) rfl rfl (py_add rfl rfl (in64 ⟨by omega, by omega⟩)) (s_val (wn rfl) rfl rfl (py_move rfl) ?_)
      refine s_nil ?_
      have hz := (H8.dtake 3)
      rw [show (genG n (hs.getD j 0) 0).getD i 0 = (hv n hs 0 j).getD i 0 from rfl, trF_step (by omega)] at hz
      refine ⟨(i + 1, _), ⟨rfl, rfl, rfl, rfl, rfl, rfl, rfl, rfl, rfl, trivial⟩, ⟨hz, by omega⟩, by dsimp only; omega⟩
    · refine W_exit ?_
      refine W_reg ?_
      refine s_val (wn rfl) rfl rfl (py_add rfl rfl (in64 ⟨by omega, by omega⟩)) (s_val (wn rfl) rfl rfl (py_move rfl) ?_)
      refine s_nil ?_
      have ei : i = n := by omega
      have hz := (H5.dtake 2)
      rw [ei, trF_next] at hz
      refine ⟨(j + 1, _), ⟨rfl, rfl, rfl, rfl, rfl, rfl, trivial⟩, ⟨hz, by omega⟩, by dsimp only; omega⟩
  · refine W_exit ?_
    refine W_seq ?_
    have ej : j = n := by omega
    have HB := H3
    rw [ej, show trF (hv n hs 0) n n 0 = betwM n hs 0 from rfl] at HB
    have hRm := betwM_rect (n := n) (h := hs) (b := 0)
    have bl := betwM_len (n := n) (h := hs) (b := 0)
    have gl2 : (genG n p 0).length = n := genG_len
    refine W_reg ?_
    refine s_val (wn rfl) rfl rfl (py_move rfl) (s_val (wn rfl) rfl rfl (py_loadS Try.underlying105 rfl Try.sizeOf105 rfl rfl (At.whole (HB.box 0 rfl))) (s_val (wn rfl) rfl rfl (py_move rfl) ?_))
    refine s_call (wn rfl) rfl rfl (pc_call Try.func138 rfl Try_nm138 rfl) (Try_impl_rowCode_weights (by omega)) (fun v3 w9 r2 => ?_)
    obtain ⟨e6, r2⟩ := r2
    obtain ⟨fp4, H9⟩ := HB.res e6 r2
    obtain ⟨a2, k2, q2⟩ := own_slice (H9.mine 2 rfl)
    cases q2
    refine s_call (wn rfl) rfl rfl (pc_call Try.func157 rfl Try_nm157 rfl) (Try_impl_solve (H9.msees 1 rfl) (H9.msees 2 rfl) (by assumption) (by first | assumption | omega) (by omega)) (fun v4 w10 r3 => ?_)
    obtain ⟨e7, sa1, sk1, rfl, r3⟩ := r3
    obtain ⟨fp5, H10⟩ := H9.res e7 r3
    refine s_val (wn rfl) rfl rfl (py_move rfl) (s_val (wn rfl) rfl rfl (py_extr rfl rfl) (s_val (wn rfl) rfl rfl (py_extr rfl rfl) (s_val (wn rfl) rfl rfl (py_assign rfl) (s_val (wn rfl) rfl rfl (py_assign rfl) ?_))))
    refine s_nil ?_
    refine W_seq ?_
    refine W_reg ?_
    refine s_val (wn rfl) rfl rfl (py_move rfl) (s_val (wn rfl) rfl rfl (py_assign rfl) ?_)
    refine s_nil ?_
    refine W_ret (hQ _ _ (fin1 Try.results109 rfl ?_))
    exact ⟨H10.ext, H10.out 3 rfl⟩
theorem Try_spec_l2Weights {w : World} {n : Nat} {p : Int} {hs : List Int} {hsA : Option Addr} {hsC : Nat} (hsS : Sees w [.slice hsA hs.length hsC] hs) (hn : 1 ≤ n ∧ n ≤ 100) (hl : hs.length = n) (hr : ∀ i, i < n → 0 ≤ hs.getD i 0 ∧ hs.getD i 0 ≤ 500) (hp : 0 ≤ p ∧ p ≤ 500) : Ret Try.prog 104 #[.int .i64 n, .slice hsA hs.length hsC, .int .i64 p, .int .i64 0] w fun v w' => Ext No w w' ∧ (Res w w' [v] (betw n hs p 0)) := by
  obtain ⟨hsF, hsO⟩ := hsS
  refine ret_Q (vs := [.int .i64 n, .slice hsA hs.length hsC, .int .i64 p, .int .i64 0]) Try.func104 rfl Try.ntmps104 rfl (fun Q hQ hN => ?_)
  have H0 := Sep.start (w := w) (F := [seen false [.slice hsA hs.length hsC] hs hsF]) (all_cons hsO (by simp))
  refine W_seq ?_
  refine W_reg ?_
  refine s_val (wn rfl) rfl rfl (py_assign rfl) ?_
  refine s_nil ?_
  refine W_seq ?_
  refine W_reg ?_
  refine s_val (wn rfl) rfl rfl (py_move rfl) ?_
  refine s_make (wn rfl) rfl Try.underlying43 Try_ty34 (own_zs (α := UInt8)) rfl (by omega) (by unfold maxLen; omega) H0 (fun b1 w1 e1 g1 H1 => ?_)
  refine s_val (wn rfl) rfl rfl (py_assign rfl) ?_
  refine s_nil ?_
  refine W_seq ?_
  refine W_seq ?_
  refine W_reg ?_
  refine s_val (wn rfl) rfl rfl (py_assign rfl) ?_
  refine s_nil ?_
  refine W_block ?_
  refine W_loop (γ := Nat × List Nat) (fun (j, f) => [(0, .int .i64 n), (1, .slice hsA hs.length hsC), (2, .int .i64 p), (3, .int .i64 0), (9, .slice (some ⟨b1, 0, none⟩) n n), (10, .int .i64 j)]) (fun (j, f) w' => Sep No w [mine [.slice (some ⟨b1, 0, none⟩) n n] (trF (hv n hs 0) n j 0) f] [seen false [.slice hsA hs.length hsC] hs hsF] w' ∧ j ≤ n) (fun (j, f) => n - j) (0, _) ⟨rfl, rfl, rfl, rfl, rfl, rfl, trivial⟩ ⟨by rw [trF_zero]; exact H1, by omega⟩ (fun (j, f) w2 H2 => ?_)
  obtain ⟨H2, hj0⟩ := H2
  refine W_seq ?_
  refine W_seq ?_
  refine W_reg ?_
  refine s_val (wn rfl) rfl rfl (py_move rfl) (s_val (wn rfl) rfl rfl (py_move rfl) (s_val (wn rfl) rfl rfl (py_lss rfl rfl) ?_))
  refine s_nil ?_
  refine W_ifd rfl (fun c1 => ?_) (fun c1 => ?_)
  · refine W_skip ?_
    refine W_seq ?_
    refine W_block ?_
    refine W_seq ?_
    have hj := hr j (by omega)
    have gl : (genG n (hs.getD j 0) 0).length = n := genG_len
    obtain ⟨eb1, eo1, ee1, ec1⟩ := elem_int (H2.seen 0 rfl) j (by omega)
    have eI1 := elem_i64 (H2.seen 0 rfl) j (by omega)
    refine W_reg ?_
    refine s_val (wn rfl) rfl rfl (py_move rfl) (s_val (wn rfl) rfl rfl (py_move rfl) (s_val (wn rfl) rfl rfl (py_move rfl) (s_val (wn rfl) rfl rfl (py_elz Try.underlying33 Try.sizeOf2 rfl rfl ee1 j (by omega) (by omega)) (s_val (wn rfl) rfl rfl (py_load Try.underlying2 rfl rfl ec1) (s_val (wn rfl) rfl rfl (py_move rfl) ?_)))))
    refine s_call (wn rfl) rfl rfl (pc_call Try.func134 rfl Try_nm134 rfl) (Try_spec_l2Gen (by omega)) (fun v1 w3 r1 => ?_)
    obtain ⟨e2, r1⟩ := r1
    obtain ⟨fp1, H3⟩ := H2.res e2 r1
    obtain ⟨a1, k1, q1⟩ := own_slice (H3.mine 1 rfl)
    cases q1
    refine s_val (wn rfl) rfl rfl (py_assign rfl) ?_
    refine s_nil ?_
    refine W_seq ?_
    have HS := H3.share 1 rfl
    try dsimp only [List.nil_append, List.cons_append, List.set_cons_zero, List.set_cons_succ] at HS
    refine W_reg ?_
    refine s_val (wn rfl) rfl rfl (py_assign rfl) ?_
    refine s_nil ?_
    refine W_block ?_
    refine W_loop (γ := Nat × List Nat) (fun (i, f2) => [(0, .int .i64 n), (1, .slice hsA hs.length hsC), (2, .int .i64 p), (3, .int .i64 0), (9, .slice (some ⟨b1, 0, none⟩) n n), (10, .int .i64 j), (11, .slice a1 (genG n (hs.getD j 0) 0).length k1), (12, .int .i64 i)]) (fun (i, f2) w' => Sep No w [mine [.slice (some ⟨b1, 0, none⟩) n n] (trF (hv n hs 0) n j i) f2] _ w' ∧ i ≤ n) (fun (i, f2) => n - i) (0, _) ⟨rfl, rfl, rfl, rfl, rfl, rfl, rfl, rfl, trivial⟩ ⟨(HS.dtake 1), by omega⟩ (fun (i, f2) w4 H4 => ?_)
    obtain ⟨H4, hi⟩ := H4
    refine W_seq ?_
    refine W_seq ?_
    refine W_reg ?_
    refine s_val (wn rfl) rfl rfl (py_move rfl) (s_val (wn rfl) rfl rfl (py_move rfl) (s_val (wn rfl) rfl rfl (py_lss rfl rfl) ?_))
    refine s_nil ?_
    refine W_ifd rfl (fun c2 => ?_) (fun c2 => ?_)
    · refine W_skip ?_
      refine W_seq ?_
      refine W_block ?_
      have e6 : ((trF (hv n hs 0) n j i).getD i []).length = j := by rw [trF_get (by omega)]; simp
      obtain ⟨eb2, eo2, eB1, eS1, eF1, eG1, ef1, ea1, ek1, ee2, eN1, ec2, nbef1, eH1⟩ := H4.unhook 0 rfl i (by rw [trF_len]; omega)
      try dsimp only [List.nil_append, List.cons_append, List.set_cons_zero, List.set_cons_succ] at eH1
      obtain ⟨eb3, eo3, ee3, ec3, em1⟩ := elem_u8m (eH1.seen 1 rfl) i (by omega)
      refine W_drw (S := Ext (· ∈ ef1) _) [(0, true), (1, true), (2, true), (3, true), (4, true), (5, true), (6, true), (7, true), (8, true), (9, true), (10, false), (11, false), (12, true), (13, false)] (by kernel_rfl) (by kernel_rfl) (by kernel_rfl) rfl (fun _ => Ext.refl.drawn _) (fun q2 => ?_)
      have H5 := eH1.drawn q2
      refine d_val rfl (wn rfl) rfl rfl (fun zw hx => py_move rfl) (d_val rfl (wn rfl) rfl rfl (fun zw hx => py_move rfl) (d_val rfl (wn rfl) rfl rfl (fun zw hx => py_move rfl) (d_val rfl (wn rfl) rfl rfl (fun zw hx => py_move rfl) (d_val rfl (wn rfl) rfl rfl (fun zw hx => py_elz Try.underlying43 Try.sizeOf34 rfl rfl ee2 i (by omega) (by omega)) (d_val rfl (wn rfl) rfl rfl (fun zw hx => py_load Try.underlying34 rfl rfl (hx.cellM nbef1 ec2)) (d_val rfl (wn rfl) rfl rfl (fun zw hx => py_move rfl) (d_val rfl (wn rfl) rfl rfl (fun zw hx => py_move rfl) (d_val rfl (wn rfl) rfl rfl (fun zw hx => py_elz Try.underlying34 Try.sizeOf5 rfl rfl ee3 i (by omega) (by omega)) (d_val rfl (wn rfl) rfl rfl (fun zw hx => py_load Try.underlying5 rfl rfl (hx.cellM (H5.off 1 rfl 1 rfl em1) ec3)) ?_)))))))))
      refine d_lit1 rfl (wn rfl) rfl Try.underlying34 Try_ty5 rfl rfl rfl rfl H5 (fun _ h e => h.trans e.no) (fun b2 w5 e3 g2 H6 => ?_)
      refine d_app1 rfl (wn rfl) rfl Try.underlying34 Try_ty5 rfl rfl rfl H6 1 2 rfl rfl own_b8 (by unfold maxLen; omega) (by omega) (fun _ h e => h.trans e) (fun v2 w6 fp2 H7 => ?_)
      refine d_val rfl (wn rfl) rfl rfl (fun zw hx => py_elz Try.underlying43 Try.sizeOf34 rfl rfl ee2 i (by omega) (by omega)) ?_
      refine d_hook rfl (wn rfl) Try.sizeOf34 H7 0 1 rfl rfl rfl eN1 rfl rfl (fun w7 fp3 H8 => ?_)
      try dsimp only [List.nil_append, List.cons_append, List.set_cons_zero, List.set_cons_succ] at H8
      refine d_nil ?_
      refine W_reg ?_
      refine s_val (wn rfl) rfl rfl (py_move rfl) (s_val (wn rfl) rfl rfl (py_add rfl rfl (in64 ⟨by omega, by omega⟩)) (s_val (wn rfl) rfl rfl (py_assign rfl) ?_))
      refine s_nil ?_
      have hz := (H8.dtake 1)
      rw [show (genG n (hs.getD j 0) 0).getD i 0 = (hv n hs 0 j).getD i 0 from rfl, trF_step (by omega)] at hz
      refine ⟨(i + 1, _), ⟨rfl, rfl, rfl, rfl, rfl, rfl, rfl, rfl, trivial⟩, ⟨hz, by omega⟩, by dsimp only; omega⟩
    · refine W_exit ?_
      refine W_reg ?_
      refine s_val (wn rfl) rfl rfl (py_move rfl) (s_val (wn rfl) rfl rfl (py_add rfl rfl (in64 ⟨by omega, by omega⟩)) (s_val (wn rfl) rfl rfl (py_assign rfl) ?_))
      refine s_nil ?_
      have ei : i = n := by omega
      have hz := (H4.ftake 1)
      rw [ei, trF_next] at hz
      refine ⟨(j + 1, _), ⟨rfl, rfl, rfl, rfl, rfl, rfl, trivial⟩, ⟨hz, by omega⟩, by dsimp only; omega⟩
  · refine W_exit ?_
    refine W_seq ?_
    have ej : j = n := by omega
    have HB := H2
    rw [ej, show trF (hv n hs 0) n n 0 = betwM n hs 0 from rfl] at HB
    have hRm := betwM_rect (n := n) (h := hs) (b := 0)
    have bl := betwM_len (n := n) (h := hs) (b := 0)
    have gl2 : (genG n p 0).length = n := genG_len
    refine W_reg ?_
    refine s_val (wn rfl) rfl rfl (py_move rfl) (s_val (wn rfl) rfl rfl (py_move rfl) (s_val (wn rfl) rfl rfl (py_move rfl) (s_val (wn rfl) rfl rfl (py_move rfl) ?_)))
    refine s_call (wn rfl) rfl rfl (pc_call Try.func134 rfl Try_nm134 rfl) (Try_spec_l2Gen (by omega)) (fun v3 w8 r2 => ?_)
    obtain ⟨e5, r2⟩ := r2
    obtain ⟨fp4, H9⟩ := HB.res e5 r2
    obtain ⟨a2, k2, q3⟩ := own_slice (H9.mine 1 rfl)
    cases q3
    refine s_call (wn rfl) rfl rfl (pc_call Try.func156 rfl Try_nm156 rfl) (Try_spec_l1Solve (H9.msees 0 rfl) (H9.msees 1 rfl) (by assumption) (by first | assumption | omega) (by omega)) (fun v4 w9 r3 => ?_)
    obtain ⟨e6, sa1, sk1, rfl, r3⟩ := r3
    obtain ⟨fp5, H10⟩ := H9.res e6 r3
    refine s_val (wn rfl) rfl rfl (py_move rfl) (s_val (wn rfl) rfl rfl (py_extr rfl rfl) (s_val (wn rfl) rfl rfl (py_extr rfl rfl) (s_val (wn rfl) rfl rfl (py_assign rfl) (s_val (wn rfl) rfl rfl (py_assign rfl) ?_))))
    refine s_nil ?_
    refine W_seq ?_
    refine W_reg ?_
    refine s_val (wn rfl) rfl rfl (py_move rfl) (s_val (wn rfl) rfl rfl (py_assign rfl) ?_)
    refine s_nil ?_
    refine W_ret (hQ _ _ (fin1 Try.results104 rfl ?_))
    exact ⟨H10.ext, H10.out 2 rfl⟩
theorem Try_impl_risesIn {w : World} {xs : List Int} {xsA : Option Addr} {xsC : Nat} {m : Int} (xsS : Sees w [.slice xsA xs.length xsC] xs) (hm : -1000 ≤ m ∧ m ≤ 1000000) : Ret Try.prog 106 #[.slice xsA xs.length xsC, .int .i64 m] w fun v w' => Ext No w w' ∧ (v = .bool (rises xs (m - 1))) := by
  have xsL := sees_len xsS
  unfold maxLen at xsL
  obtain ⟨xsF, xsO⟩ := xsS
  refine ret_Q (vs := [.slice xsA xs.length xsC, .int .i64 m]) Try.func106 rfl Try.ntmps106 rfl (fun Q hQ hN => ?_)
  have H0 := Sep.start (w := w) (F := [seen false [.slice xsA xs.length xsC] xs xsF]) (all_cons xsO (by simp))
  refine W_seq ?_
  refine W_reg ?_
  refine s_val (wn rfl) rfl rfl (py_assign rfl) ?_
  refine s_nil ?_
  refine W_seq ?_
  refine W_seq ?_
  refine W_reg ?_
  refine s_val (wn rfl) rfl rfl (py_move rfl) (s_val (wn rfl) rfl rfl (py_len Try.underlying33 rfl) (s_val (wn rfl) rfl rfl (py_move rfl) ?_))
  refine s_nil ?_
  refine W_block ?_
  refine W_loop (γ := Nat) (fun k => [(0, .slice xsA xs.length xsC), (1, .int .i64 m), (7, .slice xsA xs.length xsC), (8, .int .i64 xs.length), (9, .int .i64 k)]) (fun k w' => Sep No w [] [seen false [.slice xsA xs.length xsC] xs xsF] w' ∧ k ≤ xs.length ∧ (∀ i, i < k → riseAt xs (m - 1) i = true)) (fun k => xs.length - k) 0 ⟨rfl, rfl, rfl, rfl, rfl, trivial⟩ ⟨H0, by omega, fun i hi => by omega⟩ (fun k w1 H1 => ?_)
  obtain ⟨H1, hk, he⟩ := H1
  refine W_seq ?_
  refine W_reg ?_
  refine s_val (wn rfl) rfl rfl (py_lss rfl rfl) ?_
  refine s_nil ?_
  refine W_seq ?_
  refine W_ifd rfl (fun c1 => ?_) (fun c1 => ?_)
  · refine W_skip ?_
    refine W_seq ?_
    refine W_block ?_
    refine W_seq ?_
    obtain ⟨eb1, eo1, ee1, ec1⟩ := elem_int (H1.seen 0 rfl) k (by omega)
    have eI1 := elem_i64 (H1.seen 0 rfl) k (by omega)
    refine W_reg ?_
    refine s_val (wn rfl) rfl rfl (py_move rfl) (s_val (wn rfl) rfl rfl (py_elz Try.underlying33 Try.sizeOf2 rfl rfl ee1 k (by omega) (by omega)) (s_val (wn rfl) rfl rfl (py_load Try.underlying2 rfl rfl ec1) (s_val (wn rfl) rfl rfl (py_assign rfl) (s_val (wn rfl) rfl rfl (py_assign rfl) ?_))))
    refine s_nil ?_
    refine W_seq ?_
    obtain ⟨eb2, eo2, ee2, ec2⟩ := elem_int (H1.seen 0 rfl) (k - 1) (by omega)
    have eI2 := elem_i64 (H1.seen 0 rfl) (k - 1) (by omega)
    refine W_reg ?_
    refine s_val (wn rfl) rfl rfl (py_move rfl) (s_val (wn rfl) rfl rfl (py_move rfl) (s_val (wn rfl) rfl rfl (py_sub rfl rfl (in64 ⟨by omega, by omega⟩)) ?_))
    refine s_call (wn rfl) rfl rfl (pc_call Try.func108 rfl Try_nm108 rfl) Try_impl_inside (fun v1 w2 r1 => ?_)
    obtain ⟨e1, rfl⟩ := r1
    have H2 := H1.to e1
    refine s_val (wn rfl) rfl rfl (py_not rfl) (s_val (wn rfl) rfl rfl (py_move rfl) ?_)
    refine s_grp 11 (j := 5) (want := false) (t := 30) rfl rfl rfl rfl (fun hg1 kk1 => s_val (wgE rfl rfl rfl hg1) rfl rfl (py_move rfl) (s_val (wgE rfl rfl rfl hg1) rfl rfl (py_gtr rfl rfl) (s_val (wgE rfl rfl rfl hg1) rfl rfl (py_move rfl) (s_grp 7 (j := 8) (want := true) (t := 29) rfl rfl rfl rfl (fun hg2 kk2 => s_val (wgE rfl rfl rfl hg2) rfl rfl (py_move rfl) (s_val (wgE rfl rfl rfl hg2) rfl rfl (py_move rfl) (s_val (wgE rfl rfl rfl hg2) rfl rfl (py_sub rfl rfl (in64 ⟨by omega, by omega⟩)) (s_val (wgE rfl rfl rfl hg2) rfl rfl (py_elz Try.underlying33 Try.sizeOf2 rfl rfl ee2 (k - 1) (by first | omega | (simp only [Bool.or_eq_false_iff, Bool.and_eq_true, Bool.and_eq_false_iff, Bool.or_eq_true, Bool.not_eq_true', Bool.not_eq_false', decide_eq_true_eq, decide_eq_false_iff_not] at hg1 hg2; omega)) (by omega)) (s_val (wgE rfl rfl rfl hg2) rfl rfl (py_load Try.underlying2 rfl rfl (e1.cell ec2)) (s_val (wgE rfl rfl rfl hg2) rfl rfl (py_move rfl) (s_val (wgE rfl rfl rfl hg2) rfl rfl (py_geq rfl rfl) (kk2 _ _ (kx rfl (kx rfl (kx rfl (kx rfl (kx rfl (kx rfl (kx rfl k0))))))) rfl Ext.refl)))))))) (fun w4 e3 => s_val (wgE rfl rfl rfl hg1) rfl rfl (py_band rfl rfl) (kk1 _ _ (kx rfl (kx rfl (kx rfl (kx rfl (kx rfl k0))))) rfl (Ext.refl.trans e3))))))) (fun w3 e2 => ?_)
    have H4 := H2.to e2
    refine s_val (wn rfl) rfl rfl (py_bor rfl rfl) ?_
    refine s_nil ?_
    refine W_if rfl (fun c2 => ?_) (fun c2 => ?_)
    · refine W_seq ?_
      refine W_reg ?_
      refine s_val (wn rfl) rfl rfl (py_assign rfl) ?_
      refine s_nil ?_
      refine W_ret (hQ _ _ (fin1 Try.results106 rfl ?_))
      refine ⟨H4.ext, ?_⟩
      rw [rises_no k (by omega) (by
        simp [ins, -List.getD_eq_getElem?_getD] at c2
        simp [riseAt, -List.getD_eq_getElem?_getD]
        omega)]
    · refine W_skip ?_
      refine W_reg ?_
      refine s_val (wn rfl) rfl rfl (py_add rfl rfl (in64 ⟨by omega, by omega⟩)) (s_val (wn rfl) rfl rfl (py_move rfl) ?_)
      refine s_nil ?_
      refine ⟨k + 1, ⟨rfl, rfl, rfl, rfl, rfl, trivial⟩, ⟨H4, by omega, fun i hi => ?_⟩, by dsimp only; omega⟩
      by_cases e : i = k
      · subst e
        simp [ins, -List.getD_eq_getElem?_getD] at c2
        simp [riseAt, -List.getD_eq_getElem?_getD]
        omega
      · exact he i (by omega)
  · refine W_exit ?_
    refine W_seq ?_
    refine W_reg ?_
    refine s_val (wn rfl) rfl rfl (py_assign rfl) ?_
    refine s_nil ?_
    refine W_ret (hQ _ _ (fin1 Try.results106 rfl ?_))
    exact ⟨H1.ext, by rw [rises_yes (fun i hi => he i (by omega))]⟩
theorem Try_spec_l2Rise {w : World} {xs : List Int} {xsA : Option Addr} {xsC : Nat} {m : Int} (xsS : Sees w [.slice xsA xs.length xsC] xs) (hm : -1000 ≤ m ∧ m ≤ 1000000) : Ret Try.prog 103 #[.slice xsA xs.length xsC, .int .i64 m] w fun v w' => Ext No w w' ∧ (v = .bool (rises xs m)) := by
  have xsL := sees_len xsS
  unfold maxLen at xsL
  obtain ⟨xsF, xsO⟩ := xsS
  refine ret_Q (vs := [.slice xsA xs.length xsC, .int .i64 m]) Try.func103 rfl Try.ntmps103 rfl (fun Q hQ hN => ?_)
  have H0 := Sep.start (w := w) (F := [seen false [.slice xsA xs.length xsC] xs xsF]) (all_cons xsO (by simp))
  refine W_seq ?_
  refine W_reg ?_
  refine s_val (wn rfl) rfl rfl (py_assign rfl) ?_
  refine s_nil ?_
  refine W_seq ?_
  refine W_seq ?_
  refine W_reg ?_
  refine s_val (wn rfl) rfl rfl (py_assign rfl) ?_
  refine s_nil ?_
  refine W_block ?_
  refine W_loop (γ := Nat) (fun k => [(0, .slice xsA xs.length xsC), (1, .int .i64 m), (5, .int .i64 k)]) (fun k w' => Sep No w [] [seen false [.slice xsA xs.length xsC] xs xsF] w' ∧ k ≤ xs.length ∧ (∀ i, i < k → riseAt xs m i = true)) (fun k => xs.length - k) 0 ⟨rfl, rfl, rfl, trivial⟩ ⟨H0, by omega, fun i hi => by omega⟩ (fun k w1 H1 => ?_)
  obtain ⟨H1, hk, he⟩ := H1
  refine W_seq ?_
  refine W_seq ?_
  refine W_reg ?_
  refine s_val (wn rfl) rfl rfl (py_move rfl) (s_val (wn rfl) rfl rfl (py_move rfl) (s_val (wn rfl) rfl rfl (py_len Try.underlying33 rfl) (s_val (wn rfl) rfl rfl (py_lss rfl rfl) ?_)))
  refine s_nil ?_
  refine W_ifd rfl (fun c1 => ?_) (fun c1 => ?_)
  · refine W_skip ?_
    refine W_seq ?_
    refine W_block ?_
    refine W_seq ?_
    obtain ⟨eb1, eo1, ee1, ec1⟩ := elem_int (H1.seen 0 rfl) k (by omega)
    have eI1 := elem_i64 (H1.seen 0 rfl) k (by omega)
    obtain ⟨eb2, eo2, ee2, ec2⟩ := elem_int (H1.seen 0 rfl) (k - 1) (by omega)
    have eI2 := elem_i64 (H1.seen 0 rfl) (k - 1) (by omega)
    refine W_drw (S := Ext No _) [(0, true), (1, true), (2, true), (3, true), (4, true), (5, true), (6, true), (7, true), (8, true), (9, true), (10, true), (11, true), (12, true), (13, true), (14, true), (15, true), (16, true), (17, true), (18, true), (19, true), (20, true), (21, true), (22, true), (23, true), (24, true), (25, true), (26, true), (27, true), (28, false)] (by kernel_rfl) (by kernel_rfl) (by kernel_rfl) rfl (fun _ => Ext.refl.drawn _) (fun q1 => ?_)
    have H2 := H1.drawn q1
    refine d_val rfl (wn rfl) rfl rfl (fun zw hx => py_move rfl) (d_val rfl (wn rfl) rfl rfl (fun zw hx => py_move rfl) (d_val rfl (wn rfl) rfl rfl (fun zw hx => py_elz Try.underlying33 Try.sizeOf2 rfl rfl ee1 k (by omega) (by omega)) (d_val rfl (wn rfl) rfl rfl (fun zw hx => py_load Try.underlying2 rfl rfl (hx.cell ec1)) (d_val rfl (wn rfl) rfl rfl (fun zw hx => py_lss rfl rfl) (d_val rfl (wn rfl) rfl rfl (fun zw hx => py_move rfl) ?_)))))
    refine d_case (t := 17) rfl (fun hg1 => ?_) (fun hg1 => ?_)
    · try simp only [decide_eq_true_eq, decide_eq_false_iff_not] at hg1
      refine d_skip rfl (wog (b := true) rfl rfl rfl) rfl rfl (d_skip rfl (wog (b := true) rfl rfl rfl) rfl rfl (d_skip rfl (wog (b := true) rfl rfl rfl) rfl rfl (d_skip rfl (wog (b := true) rfl rfl rfl) rfl rfl (d_skip rfl (wog (b := true) rfl rfl rfl) rfl rfl (d_skip rfl (wog (b := true) rfl rfl rfl) rfl rfl (d_val rfl (wn rfl) rfl rfl (fun zw hx => py_pickT rfl rfl) (d_val rfl (wn rfl) rfl rfl (fun zw hx => py_move rfl) (d_skip rfl (wog (b := true) rfl rfl rfl) rfl rfl (d_skip rfl (wog (b := true) rfl rfl rfl) rfl rfl (d_skip rfl (wog (b := true) rfl rfl rfl) rfl rfl (d_skip rfl (wou rfl rfl rfl) rfl rfl (d_skip rfl (wou rfl rfl rfl) rfl rfl (d_skip rfl (wou rfl rfl rfl) rfl rfl (d_skip rfl (wou rfl rfl rfl) rfl rfl (d_skip rfl (wou rfl rfl rfl) rfl rfl (d_skip rfl (wou rfl rfl rfl) rfl rfl (d_skip rfl (wou rfl rfl rfl) rfl rfl (d_skip rfl (wou rfl rfl rfl) rfl rfl (d_skip rfl (wou rfl rfl rfl) rfl rfl (d_skip rfl (wou rfl rfl rfl) rfl rfl (d_skip rfl (wog (b := true) rfl rfl rfl) rfl rfl (d_end rfl (wn rfl) rfl rfl (py_pickT rfl rfl) ?_))))))))))))))))))))))
      refine d_nil ?_
      refine W_ift rfl ?_
      refine W_seq ?_
      refine W_reg ?_
      refine s_val (wn rfl) rfl rfl (py_assign rfl) ?_
      refine s_nil ?_
      refine W_ret (hQ _ _ (fin1 Try.results103 rfl ?_))
      refine ⟨H2.ext, ?_⟩
      rw [rises_no k (by omega) (by
        simp [riseAt, -List.getD_eq_getElem?_getD]
        omega)]
    · try simp only [decide_eq_true_eq, decide_eq_false_iff_not] at hg1
      refine d_val rfl (wg rfl rfl rfl) rfl rfl (fun zw hx => py_move rfl) (d_val rfl (wg rfl rfl rfl) rfl rfl (fun zw hx => py_move rfl) (d_val rfl (wg rfl rfl rfl) rfl rfl (fun zw hx => py_elz Try.underlying33 Try.sizeOf2 rfl rfl ee1 k (by omega) (by omega)) (d_val rfl (wg rfl rfl rfl) rfl rfl (fun zw hx => py_load Try.underlying2 rfl rfl (hx.cell ec1)) (d_val rfl (wg rfl rfl rfl) rfl rfl (fun zw hx => py_move rfl) (d_val rfl (wg rfl rfl rfl) rfl rfl (fun zw hx => py_gtr rfl rfl) (d_val rfl (wn rfl) rfl rfl (fun zw hx => py_pickF rfl rfl) (d_val rfl (wn rfl) rfl rfl (fun zw hx => py_move rfl) ?_)))))))
      refine d_case (t := 25) rfl (fun hg2 => ?_) (fun hg2 => ?_)
      · try simp only [decide_eq_true_eq, decide_eq_false_iff_not] at hg2
        refine d_skip rfl (wog (b := true) rfl rfl rfl) rfl rfl (d_skip rfl (wog (b := true) rfl rfl rfl) rfl rfl (d_skip rfl (wog (b := true) rfl rfl rfl) rfl rfl (d_skip rfl (wou rfl rfl rfl) rfl rfl (d_skip rfl (wou rfl rfl rfl) rfl rfl (d_skip rfl (wou rfl rfl rfl) rfl rfl (d_skip rfl (wou rfl rfl rfl) rfl rfl (d_skip rfl (wou rfl rfl rfl) rfl rfl (d_skip rfl (wou rfl rfl rfl) rfl rfl (d_skip rfl (wou rfl rfl rfl) rfl rfl (d_skip rfl (wou rfl rfl rfl) rfl rfl (d_skip rfl (wou rfl rfl rfl) rfl rfl (d_skip rfl (wou rfl rfl rfl) rfl rfl (d_skip rfl (wog (b := true) rfl rfl rfl) rfl rfl (d_end rfl (wn rfl) rfl rfl (py_pickT rfl rfl) ?_))))))))))))))
        refine d_nil ?_
        refine W_ift rfl ?_
        refine W_seq ?_
        refine W_reg ?_
        refine s_val (wn rfl) rfl rfl (py_assign rfl) ?_
        refine s_nil ?_
        refine W_ret (hQ _ _ (fin1 Try.results103 rfl ?_))
        refine ⟨H2.ext, ?_⟩
        rw [rises_no k (by omega) (by
          simp [riseAt, -List.getD_eq_getElem?_getD]
          omega)]
      · try simp only [decide_eq_true_eq, decide_eq_false_iff_not] at hg2
        refine d_val rfl (wg rfl rfl rfl) rfl rfl (fun zw hx => py_move rfl) (d_val rfl (wg rfl rfl rfl) rfl rfl (fun zw hx => py_gtr rfl rfl) (d_val rfl (wg rfl rfl rfl) rfl rfl (fun zw hx => py_move rfl) ?_))
        refine d_case (t := 28) rfl (fun hg3 => ?_) (fun hg3 => ?_)
        · try simp only [decide_eq_true_eq, decide_eq_false_iff_not] at hg3
          refine d_val rfl (wg rfl rfl rfl) rfl rfl (fun zw hx => py_move rfl) (d_val rfl (wg rfl rfl rfl) rfl rfl (fun zw hx => py_move rfl) (d_val rfl (wg rfl rfl rfl) rfl rfl (fun zw hx => py_elz Try.underlying33 Try.sizeOf2 rfl rfl ee1 k (by omega) (by omega)) (d_val rfl (wg rfl rfl rfl) rfl rfl (fun zw hx => py_load Try.underlying2 rfl rfl (hx.cell ec1)) (d_val rfl (wg rfl rfl rfl) rfl rfl (fun zw hx => py_move rfl) (d_val rfl (wg rfl rfl rfl) rfl rfl (fun zw hx => py_move rfl) (d_val rfl (wg rfl rfl rfl) rfl rfl (fun zw hx => py_sub rfl rfl (in64 ⟨by omega, by omega⟩)) (d_val rfl (wg rfl rfl rfl) rfl rfl (fun zw hx => py_elz Try.underlying33 Try.sizeOf2 rfl rfl ee2 (k - 1) (by omega) (by omega)) (d_val rfl (wg rfl rfl rfl) rfl rfl (fun zw hx => py_load Try.underlying2 rfl rfl (hx.cell ec2)) (d_val rfl (wg rfl rfl rfl) rfl rfl (fun zw hx => py_leq rfl rfl) (d_val rfl (wg rfl rfl rfl) rfl rfl (fun zw hx => py_pickT rfl rfl) (d_end rfl (wn rfl) rfl rfl (py_pickF rfl rfl) ?_)))))))))))
          refine d_nil ?_
          refine W_ifd rfl (fun c2 => ?_) (fun c2 => ?_)
          · refine W_seq ?_
            refine W_reg ?_
            refine s_val (wn rfl) rfl rfl (py_assign rfl) ?_
            refine s_nil ?_
            refine W_ret (hQ _ _ (fin1 Try.results103 rfl ?_))
            refine ⟨H2.ext, ?_⟩
            rw [rises_no k (by omega) (by
              simp [riseAt, -List.getD_eq_getElem?_getD]
              omega)]
          · refine W_skip ?_
            refine W_reg ?_
            refine s_val (wn rfl) rfl rfl (py_move rfl) (s_val (wn rfl) rfl rfl (py_add rfl rfl (in64 ⟨by omega, by omega⟩)) (s_val (wn rfl) rfl rfl (py_assign rfl) ?_))
            refine s_nil ?_
            refine ⟨k + 1, ⟨rfl, rfl, rfl, trivial⟩, ⟨H2, by omega, fun i hi => ?_⟩, by dsimp only; omega⟩
            by_cases e : i = k
            · subst e
              simp [riseAt, -List.getD_eq_getElem?_getD]
              omega
            · exact he i (by omega)
        · try simp only [decide_eq_true_eq, decide_eq_false_iff_not] at hg3
          refine d_skip rfl (wog (b := false) rfl rfl rfl) rfl rfl (d_skip rfl (wog (b := false) rfl rfl rfl) rfl rfl (d_skip rfl (wog (b := false) rfl rfl rfl) rfl rfl (d_skip rfl (wog (b := false) rfl rfl rfl) rfl rfl (d_skip rfl (wog (b := false) rfl rfl rfl) rfl rfl (d_skip rfl (wog (b := false) rfl rfl rfl) rfl rfl (d_skip rfl (wog (b := false) rfl rfl rfl) rfl rfl (d_skip rfl (wog (b := false) rfl rfl rfl) rfl rfl (d_skip rfl (wog (b := false) rfl rfl rfl) rfl rfl (d_skip rfl (wog (b := false) rfl rfl rfl) rfl rfl (d_val rfl (wg rfl rfl rfl) rfl rfl (fun zw hx => py_pickF rfl rfl) (d_end rfl (wn rfl) rfl rfl (py_pickF rfl rfl) ?_)))))))))))
          refine d_nil ?_
          refine W_iff rfl ?_
          refine W_skip ?_
          refine W_reg ?_
          refine s_val (wn rfl) rfl rfl (py_move rfl) (s_val (wn rfl) rfl rfl (py_add rfl rfl (in64 ⟨by omega, by omega⟩)) (s_val (wn rfl) rfl rfl (py_assign rfl) ?_))
          refine s_nil ?_
          refine ⟨k + 1, ⟨rfl, rfl, rfl, trivial⟩, ⟨H2, by omega, fun i hi => ?_⟩, by dsimp only; omega⟩
          by_cases e : i = k
          · subst e
            simp [riseAt, -List.getD_eq_getElem?_getD]
            omega
          · exact he i (by omega)
  · refine W_exit ?_
    refine W_seq ?_
    refine W_reg ?_
    refine s_val (wn rfl) rfl rfl (py_assign rfl) ?_
    refine s_nil ?_
    refine W_ret (hQ _ _ (fin1 Try.results103 rfl ?_))
    exact ⟨H1.ext, by rw [rises_yes (fun i hi => he i (by omega))]⟩
end Go.Wk
