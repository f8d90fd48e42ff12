/-
  Laws on walking, and the functions walked, each once: what this claim comes to.
-/
import Derived.Test.YtceeelcijjkefaaGreatZa3
set_option linter.unusedVariables false
set_option linter.unusedSimpArgs false
namespace Go.Wk
open Go.Proofs Rp
set_option maxRecDepth 10000
theorem Tryz_impl_factor {w : World} {i : Int} {j : Int} (hj : 0 ≤ j ∧ j ≤ 900) : Ret Tryz.prog 283 #[.int .i64 i, .int .i64 j] w fun v w' => Ext No w w' ∧ (v = .int .u8 (cauchy (8 + j) i).toNat) := by
 refine ret_Q (vs := [.int .i64 i, .int .i64 j]) Tryz.func283 rfl Tryz.ntmps283 rfl (fun Q hQ hN => ?_)
 have H0 := Sep.start (w := w) (F := []) (by simp)
 refine W_sr (sV rfl (py_assign rfl) (s_nil (W_sr (sV rfl (py_move rfl) (sV rfl (py_add rfl rfl (in64 ⟨by omega, by omega⟩)) (sV rfl (py_conv8 Tryz.underlying2 Tryz.underlying5 rfl) (sV rfl (py_move rfl) (sV rfl (py_conv8 Tryz.underlying2 Tryz.underlying5 rfl) (sV rfl (py_xor8 rfl rfl) (s_call (wn rfl) rfl rfl (pc_call Tryz.func297 rfl Tryz_nm297 rfl) (Tryz_impl_div (a := 1)) (fun v1 w1 r1 => ?_)))))))))))
 obtain ⟨e1, rfl⟩ := r1
 have H1 := H0.to e1
 refine sV rfl (py_assign rfl) (s_nil (W_ret (hQ _ _ (fin1 Tryz.results283 rfl ?_))))
 exact ⟨H1.ext, by rw [mul_one_l, cauchy, show (128 : Int) + (8 + j) = 136 + j by omega]⟩
theorem Tryz_impl_columnCode_weights {w : World} {n : Nat} {s p : Int} (hn : n ≤ 100 ∧ 0 ≤ p ∧ p ≤ 500) : Ret Tryz.prog 248 #[.agg #[.int .i64 n, .int .i64 s], .int .i64 p] w fun v w' => Ext No w w' ∧ (Res w w' [v] (genG n p 8)) := by
 refine ret_Q (vs := [.agg #[.int .i64 n, .int .i64 s], .int .i64 p]) Tryz.func248 rfl Tryz.ntmps248 rfl (fun Q hQ hN => ?_)
 have H0 := Sep.start (w := w) (F := []) (by simp)
 refine W_sr (s_box (wn rfl) rfl rfl H0 (fun b1 w1 e1 g1 H1 => ?_))
 refine sV rfl (py_assign rfl) (s_nil (W_sr (sV rfl (py_field Tryz.underlying183 rfl Tryz.sizeOf2 rfl rfl) (sV rfl (py_load Tryz.underlying2 rfl rfl (cell_atL (H1.box 0 rfl) rfl)) (s_make (wn rfl) rfl Tryz.underlying61 Tryz_ty5 own_z8 rfl (by omega) (by unfold maxLen; omega) H1 (fun b2 w2 e2 g2 H2 => ?_))))))
 refine sV rfl (py_assign rfl) (s_nil (W_seq (W_sr (sV rfl (py_field Tryz.underlying183 rfl Tryz.sizeOf2 rfl rfl) (sV rfl (py_load Tryz.underlying2 rfl rfl (cell_atL (H2.box 0 rfl) rfl)) (sV rfl (py_move rfl) (s_nil (W_block (W_loop (γ := Nat × List Nat) (fun (k, f) => [(1, .int .i64 p), (2, .pointer (some ⟨b1, 0, none⟩)), (5, .slice (some ⟨b2, 0, none⟩) n n), (11, .int .i64 n), (12, .int .i64 k)]) (fun (k, f) w' => Sep No w [box b1 (.cells #[.int .i64 n, .int .i64 s] 183), mine [.slice (some ⟨b2, 0, none⟩) n n] (fillG (genAt n p 8) n k) f] [] w' ∧ k ≤ n) (fun (k, f) => n - k) (0, [b2]) ⟨rfl, rfl, rfl, rfl, rfl, trivial⟩ ⟨(by rw [fillG_zero]; exact H2), by omega⟩ (fun (k, f) w3 H3 => ?_))))))))))
 obtain ⟨H3, hk⟩ := H3
 refine W_sr (sV rfl (py_lss rfl rfl) (s_nil (W_seq (W_ifd rfl (fun c1 => ?_) (fun c1 => ?_)))))
 ·refine W_skip (W_seq (W_block (W_sr (sV rfl (py_move rfl) (sV rfl (py_assign rfl) (s_nil (W_block (W_sr (sV rfl (py_move rfl) (sV rfl (py_field Tryz.underlying183 rfl Tryz.sizeOf2 rfl rfl) (sV rfl (py_load Tryz.underlying2 rfl rfl (cell_atL (H3.box 0 rfl) rfl)) (sV rfl (py_geq rfl rfl) (sV rfl (py_assign rfl) (s_nil (W_ifd rfl (fun c2 => ?_) (fun c2 => ?_))))))))))))))))
  ·obtain ⟨eb1, eo1, ee1, ec1⟩ := elem_u8 (H3.mine 1 rfl) k (by rw [fillG_len (by omega)]; omega)
   refine W_reg (sV rfl (py_move rfl) (sV rfl (py_move rfl) (sV rfl (py_move rfl) (sV rfl (py_move rfl) (sV rfl (py_field Tryz.underlying183 rfl Tryz.sizeOf2 rfl rfl) (sV rfl (py_load Tryz.underlying2 rfl rfl (cell_atL (H3.box 0 rfl) rfl)) (sV rfl (py_sub rfl rfl (in64 ⟨by omega, by omega⟩)) (s_call (wn rfl) rfl rfl (pc_call Tryz.func283 rfl Tryz_nm283 rfl) (Tryz_impl_factor (by omega)) (fun v1 w4 r1 => ?_)))))))))
   obtain ⟨e3, rfl⟩ := r1
   have H4 := H3.to e3
   refine sV rfl (py_elz Tryz.underlying61 Tryz.sizeOf5 rfl rfl ee1 k (by omega) (by omega)) (s_elst (wn rfl) Tryz.sizeOf5 rfl H4 1 rfl k (by rw [fillG_len (by omega)]; omega) rfl ee1 rfl own_b8 (fun w5 fp1 e4 H5 => ?_))
   refine s_nil (W_reg (sV rfl (py_add rfl rfl (in64 ⟨by omega, by omega⟩)) (sV rfl (py_move rfl) (s_nil ?_))))
   refine ⟨(k + 1, _), ⟨rfl, rfl, rfl, rfl, rfl, trivial⟩, ⟨by
    have h := H5
    rw [fillG_set (by omega) (by rw [genAt, if_pos (by omega)]; congr 1; omega)] at h
    exact h, by omega⟩, by dsimp only; omega⟩
  ·refine W_sr (sV rfl (py_move rfl) (sV rfl (py_move rfl) (sV rfl (py_eql rfl rfl) (sV rfl (py_assign rfl) (s_nil (W_ifd rfl (fun c3 => ?_) (fun c3 => ?_)))))))
   ·obtain ⟨eb2, eo2, ee2, ec2⟩ := elem_u8 (H3.mine 1 rfl) k (by rw [fillG_len (by omega)]; omega)
    refine W_reg (sV rfl (py_move rfl) (sV rfl (py_move rfl) (sV rfl (py_elz Tryz.underlying61 Tryz.sizeOf5 rfl rfl ee2 k (by omega) (by omega)) (s_elst (wn rfl) Tryz.sizeOf5 rfl H3 1 rfl k (by rw [fillG_len (by omega)]; omega) rfl ee2 rfl (own_b8 (x := 1)) (fun w6 fp2 e5 H6 => ?_)))))
    refine s_nil (W_reg (sV rfl (py_add rfl rfl (in64 ⟨by omega, by omega⟩)) (sV rfl (py_move rfl) (s_nil ?_))))
    refine ⟨(k + 1, _), ⟨rfl, rfl, rfl, rfl, rfl, trivial⟩, ⟨by
     have h := H6
     rw [fillG_set (by omega) (by rw [genAt, if_neg (by omega), if_pos (by omega)])] at h
     exact h, by omega⟩, by dsimp only; omega⟩
   ·refine W_skip (W_reg (sV rfl (py_add rfl rfl (in64 ⟨by omega, by omega⟩)) (sV rfl (py_move rfl) (s_nil ?_))))
    refine ⟨(k + 1, _), ⟨rfl, rfl, rfl, rfl, rfl, trivial⟩, ⟨by
     have h := H3
     rw [fillG_skip (by omega) (by rw [genAt, if_neg (by omega), if_neg (by omega)])] at h
     exact h, by omega⟩, by dsimp only; omega⟩
 ·refine W_exit (W_sr (sV rfl (py_move rfl) (sV rfl (py_assign rfl) (s_nil (W_ret (hQ _ _ (fin1 Tryz.results248 rfl ?_)))))))
  obtain rfl : k = n := by omega
  exact ⟨H3.ext, by
   have h := H3.out 1 rfl
   rwa [fillG_all] at h⟩
theorem Tryz_impl_columnCode_share {w : World} {n : Nat} {s p : Int} {hs : List Int} {hsA : Option Addr} {hsC : Nat} (hsS : Sees w [.slice hsA hs.length hsC] hs) (hl : hs.length = n) (hn : 1 ≤ n ∧ n ≤ 100) (hr : ∀ i, i < n → 0 ≤ hs.getD i 0 ∧ hs.getD i 0 ≤ 500) (hp : 0 ≤ p ∧ p ≤ 500) : Ret Tryz.prog 191 #[.agg #[.int .i64 n, .int .i64 s], .slice hsA hs.length hsC, .int .i64 p] w fun v w' => Ext No w w' ∧ (Res w w' [v] (betw n hs p 8)) := by
 subst hl
 obtain ⟨hsF, hsO⟩ := hsS
 obtain ⟨hb0, ho0, had0⟩ := own_addr hsO 0 (by omega)
 subst had0
 refine ret_Q (vs := [.agg #[.int .i64 hs.length, .int .i64 s], .slice (some ⟨hb0, ho0, none⟩) hs.length hsC, .int .i64 p]) Tryz.func191 rfl Tryz.ntmps191 rfl (fun Q hQ hN => ?_)
 have H0 := Sep.start (w := w) (F := [seen false [.slice (some ⟨hb0, ho0, none⟩) hs.length hsC] hs hsF]) (all_cons hsO (by simp))
 refine W_sr (s_box (wn rfl) rfl rfl H0 (fun b1 w1 e1 g1 H1 => ?_))
 refine sV rfl (py_assign rfl) (s_nil (W_sr (sV rfl (py_field Tryz.underlying183 rfl Tryz.sizeOf2 rfl rfl) (sV rfl (py_load Tryz.underlying2 rfl rfl (cell_atL (H1.box 0 rfl) rfl)) (s_make (wn rfl) rfl Tryz.underlying163 Tryz_ty61 (own_zs (α := UInt8)) rfl (by omega) (by unfold maxLen; omega) H1 (fun b2 w2 e2 g2 H2 => ?_))))))
 refine sV rfl (py_assign rfl) (s_nil (W_seq (W_sr (sV rfl (py_move rfl) (sV rfl (py_field Tryz.underlying183 rfl Tryz.sizeOf2 rfl rfl) (sV rfl (py_load Tryz.underlying2 rfl rfl (cell_atL (H2.box 0 rfl) rfl)) (sV rfl (py_slc0 Tryz.underlying25 Tryz.sizeOf2 rfl rfl hs.length rfl (own_le_cap (H2.seen 0 rfl))) ((sV rfl (py_len Tryz.underlying25 rfl) (sV rfl (py_move rfl) (s_nil (W_block (W_loop (γ := Nat × List Nat) (fun (j, f) => [(1, .slice (some ⟨hb0, ho0, none⟩) hs.length hsC), (2, .int .i64 p), (3, .pointer (some ⟨b1, 0, none⟩)), (7, .slice (some ⟨b2, 0, none⟩) hs.length hs.length), (20, .slice (some ⟨hb0, ho0, none⟩) hs.length hsC), (21, .int .i64 hs.length), (22, .int .i64 j)]) (fun (j, f) w' => Sep No w [box b1 (.cells #[.int .i64 hs.length, .int .i64 s] 183), mine [.slice (some ⟨b2, 0, none⟩) hs.length hs.length] (trF (hv hs.length hs 8) hs.length j 0) f] [seen false [.slice (some ⟨hb0, ho0, none⟩) hs.length hsC] hs hsF] w' ∧ j ≤ hs.length) (fun (j, f) => hs.length - j) (0, _) ⟨rfl, rfl, rfl, rfl, rfl, rfl, rfl, trivial⟩ ⟨by rw [trF_zero]; exact H2, by omega⟩ (fun (j, f) w3 H3 => ?_))))))))))))))
 obtain ⟨H3, hj0⟩ := H3
 refine W_sr (sV rfl (py_lss rfl rfl) (s_nil (W_seq (W_ifd rfl (fun c1 => ?_) (fun c1 => ?_)))))
 ·refine W_skip (W_seq (W_block (W_seq ?_)))
  obtain ⟨eb1, eo1, ee1, ec1⟩ := elem_int (H3.seen 0 rfl) j (by omega)
  have eI1 := elem_i64 (H3.seen 0 rfl) j (by omega)
  refine W_reg (sV rfl (py_elz Tryz.underlying25 Tryz.sizeOf2 rfl rfl ee1 j (by omega) (by omega)) (sV rfl (py_load Tryz.underlying2 rfl rfl ec1) (sV rfl (py_assign rfl) (s_nil (W_seq ?_)))))
  have hj := hr j (by omega)
  have gl : (genG hs.length (hs.getD j 0) 8).length = hs.length := genG_len
  refine W_reg (sV rfl (py_loadS Tryz.underlying183 rfl Tryz.sizeOf183 rfl rfl (At.whole (H3.box 0 rfl))) (sV rfl (py_move rfl) (s_call (wn rfl) rfl rfl (pc_call Tryz.func248 rfl Tryz_nm248 rfl) (Tryz_impl_columnCode_weights (by omega)) (fun v1 w4 r1 => ?_))))
  obtain ⟨e3, r1⟩ := r1
  obtain ⟨fp1, H4⟩ := H3.res e3 r1
  obtain ⟨a1, k1, q1⟩ := own_slice (H4.mine 2 rfl)
  cases q1
  refine sV rfl (py_len Tryz.underlying61 rfl) (sV rfl (py_move rfl) (s_nil (W_block (W_loop (γ := Nat × List Nat) (fun (i, f2) => [(1, .slice (some ⟨hb0, ho0, none⟩) hs.length hsC), (2, .int .i64 p), (3, .pointer (some ⟨b1, 0, none⟩)), (7, .slice (some ⟨b2, 0, none⟩) hs.length hs.length), (20, .slice (some ⟨hb0, ho0, none⟩) hs.length hsC), (21, .int .i64 hs.length), (22, .int .i64 j), (28, .slice a1 (genG hs.length (hs.getD j 0) 8).length k1), (29, .int .i64 (genG hs.length (hs.getD j 0) 8).length), (30, .int .i64 i)]) (fun (i, f2) w' => Sep No w [box b1 (.cells #[.int .i64 hs.length, .int .i64 s] 183), mine [.slice (some ⟨b2, 0, none⟩) hs.length hs.length] (trF (hv hs.length hs 8) hs.length j i) f2, mine [.slice a1 (genG hs.length (hs.getD j 0) 8).length k1] (genG hs.length (hs.getD j 0) 8) fp1] [seen false [.slice (some ⟨hb0, ho0, none⟩) hs.length hsC] hs hsF] w' ∧ i ≤ hs.length) (fun (i, f2) => hs.length - i) (0, _) ⟨rfl, rfl, rfl, rfl, rfl, rfl, rfl, rfl, rfl, rfl, trivial⟩ ⟨H4, by omega⟩ (fun (i, f2) w5 H5 => ?_)))))
  obtain ⟨H5, hi⟩ := H5
  refine W_sr (sV rfl (py_lss rfl rfl) (s_nil (W_seq (W_ifd rfl (fun c2 => ?_) (fun c2 => ?_)))))
  ·refine W_skip (W_seq (W_block (W_seq ?_)))
   obtain ⟨eb2, eo2, ee2, ec2⟩ := elem_u8 (H5.mine 2 rfl) i (by omega)
   refine W_reg (sV rfl (py_move rfl) (sV rfl (py_elz Tryz.underlying61 Tryz.sizeOf5 rfl rfl ee2 i (by omega) (by omega)) (sV rfl (py_load Tryz.underlying5 rfl rfl ec2) (sV rfl (py_assign rfl) (sV rfl (py_assign rfl) (s_nil ?_))))))
   have e6 : ((trF (hv hs.length hs 8) hs.length j i).getD i []).length = j := by rw [trF_get (by omega)]; simp
   obtain ⟨eb3, eo3, eB1, eS1, eF1, eG1, ef1, ea1, ek1, ee3, eN1, ec3, nbef1, eH1⟩ := H5.unhook 1 rfl i (by rw [trF_len]; omega)
   try dsimp only [List.nil_append, List.cons_append, List.set_cons_zero, List.set_cons_succ] at eH1
   refine W_reg (sV rfl (py_move rfl) (sV rfl (py_move rfl) (sV rfl (py_move rfl) (sV rfl (py_move rfl) (sV rfl (py_elz Tryz.underlying163 Tryz.sizeOf61 rfl rfl ee3 i (by omega) (by omega)) (sV rfl (py_load Tryz.underlying61 rfl rfl ec3) (sV rfl (py_move rfl) (s_lit1 (wn rfl) rfl Tryz.underlying61 Tryz_ty5 rfl rfl rfl rfl eH1 (fun b3 w6 e4 g3 H6 => ?_)))))))))
   refine s_app1 (wn rfl) rfl Tryz.underlying61 Tryz_ty5 rfl rfl rfl H6 3 4 rfl rfl own_b8 (by unfold maxLen; omega) (by omega) (fun v2 w7 fp2 H7 => ?_)
   refine sV rfl (py_elz Tryz.underlying163 Tryz.sizeOf61 rfl rfl ee3 i (by omega) (by omega)) (s_hook (wn rfl) Tryz.sizeOf61 H7 1 3 rfl rfl rfl eN1 rfl rfl (fun w8 fp3 H8 => ?_))
   try dsimp only [List.nil_append, List.cons_append, List.set_cons_zero, List.set_cons_succ] at H8
   refine s_nil (W_reg (sV rfl (py_add rfl rfl (in64 ⟨by omega, by omega⟩)) (sV rfl (py_move rfl) (s_nil ?_))))
   have hz := (H8.dtake 3)
   rw [show (genG hs.length (hs.getD j 0) 8).getD i 0 = (hv hs.length hs 8 j).getD i 0 from rfl, trF_step (by omega)] at hz
   refine ⟨(i + 1, _), ⟨rfl, rfl, rfl, rfl, rfl, rfl, rfl, rfl, rfl, rfl, trivial⟩, ⟨hz, by omega⟩, by dsimp only; omega⟩
  ·refine W_exit (W_reg (sV rfl (py_add rfl rfl (in64 ⟨by omega, by omega⟩)) (sV rfl (py_move rfl) (s_nil ?_))))
   have ei : i = hs.length := by omega
   have hz := (H5.dtake 2)
   rw [ei, trF_next] at hz
   refine ⟨(j + 1, _), ⟨rfl, rfl, rfl, rfl, rfl, rfl, rfl, trivial⟩, ⟨hz, by omega⟩, by dsimp only; omega⟩
 ·refine W_exit (W_seq ?_)
  have ej : j = hs.length := by omega
  have HB := H3
  rw [ej, show trF (hv hs.length hs 8) hs.length hs.length 0 = betwM hs.length hs 8 from rfl] at HB
  have hRm := betwM_rect (n := hs.length) (h := hs) (b := 8)
  have bl := betwM_len (n := hs.length) (h := hs) (b := 8)
  have gl2 : (genG hs.length p 8).length = hs.length := genG_len
  refine W_reg (sV rfl (py_move rfl) (sV rfl (py_loadS Tryz.underlying183 rfl Tryz.sizeOf183 rfl rfl (At.whole (HB.box 0 rfl))) (sV rfl (py_move rfl) (s_call (wn rfl) rfl rfl (pc_call Tryz.func248 rfl Tryz_nm248 rfl) (Tryz_impl_columnCode_weights (by omega)) (fun v3 w9 r2 => ?_)))))
  obtain ⟨e6, r2⟩ := r2
  obtain ⟨fp4, H9⟩ := HB.res e6 r2
  obtain ⟨a2, k2, q2⟩ := own_slice (H9.mine 2 rfl)
  cases q2
  refine s_call (wn rfl) rfl rfl (pc_call Tryz.func249 rfl Tryz_nm249 rfl) (Tryz_impl_solve (H9.msees 1 rfl) (H9.msees 2 rfl) (by assumption) (by first | assumption | omega) (by omega)) (fun v4 w10 r3 => ?_)
  obtain ⟨e7, sa1, sk1, rfl, r3⟩ := r3
  obtain ⟨fp5, H10⟩ := H9.res e7 r3
  refine sV rfl (py_move rfl) (sV rfl (py_extr rfl rfl) (sV rfl (py_extr rfl rfl) (sV rfl (py_assign rfl) (sV rfl (py_assign rfl) (s_nil (W_seq (W_drw (S := Ext (· ∈ fp5) _) [(0, true), (1, true), (3, true), (4, true), (2, false), (5, true), (6, false), (7, false)] (by kernel_rfl) (by kernel_rfl) (by kernel_rfl) rfl (fun _ => Ext.refl.drawn _) (fun q3 => ?_))))))))
  have H11 := H10.drawn q3
  refine dV rfl rfl (fun zw hx => py_move rfl) (dV rfl rfl (fun zw hx => py_move rfl) (dV rfl rfl (fun zw hx => py_field Tryz.underlying183 rfl Tryz.sizeOf2 rfl rfl) (dV rfl rfl (fun zw hx => py_load Tryz.underlying2 rfl rfl (cell_atL (hx.heapM (H11.boff 0 rfl 3 rfl rfl) (H11.box 0 rfl)) rfl)) (d_call rfl (wn rfl) rfl rfl (pc_call Tryz.func155 rfl Tryz_nm155 rfl) (Tryz_size_int64 (H11.sees 0 rfl)) (fun hS _ _ r _ => hS.trans r.1.no) (fun v5 w11 r4 => ?_)))))
  obtain ⟨e8, rfl⟩ := r4
  have H12 := H11.to e8
  refine dV rfl rfl (fun zw hx => py_sub rfl rfl (in64 ⟨by omega, by omega⟩)) (d_end rfl (wn rfl) rfl rfl (py_app0 Tryz.underlying61 Tryz.underlying2 Tryz_ty5 rfl rfl (by omega) (own_le_cap (H12.mine 3 rfl))) (d_end rfl (wn rfl) rfl rfl (py_assign rfl) (d_nil (W_ret (hQ _ _ (fin1 Tryz.results191 rfl ?_))))))
  exact ⟨H12.ext, H12.out 3 rfl⟩
theorem Tryz_spec_l2Weights8 {w : World} {n : Nat} {p : Int} {hs : List Int} {hsA : Option Addr} {hsC : Nat} (hsS : Sees w [.slice hsA hs.length hsC] hs) (hn : 1 ≤ n ∧ n ≤ 100) (hl : hs.length = n) (hr : ∀ i, i < n → 0 ≤ hs.getD i 0 ∧ hs.getD i 0 ≤ 500) (hp : 0 ≤ p ∧ p ≤ 500) : Ret Tryz.prog 247 #[.int .i64 n, .slice hsA hs.length hsC, .int .i64 p, .int .i64 8] w fun v w' => Ext No w w' ∧ (Res w w' [v] (betw n hs p 8)) := by
 obtain ⟨hsF, hsO⟩ := hsS
 refine ret_Q (vs := [.int .i64 n, .slice hsA hs.length hsC, .int .i64 p, .int .i64 8]) Tryz.func247 rfl Tryz.ntmps247 rfl (fun Q hQ hN => ?_)
 have H0 := Sep.start (w := w) (F := [seen false [.slice hsA hs.length hsC] hs hsF]) (all_cons hsO (by simp))
 refine W_sr (sV rfl (py_assign rfl) (s_nil (W_sr (sV rfl (py_move rfl) (s_make (wn rfl) rfl Tryz.underlying163 Tryz_ty61 (own_zs (α := UInt8)) rfl (by omega) (by unfold maxLen; omega) H0 (fun b1 w1 e1 g1 H1 => ?_))))))
 refine sV rfl (py_assign rfl) (s_nil (W_seq (W_sr (sV rfl (py_assign rfl) (s_nil (W_block (W_loop (γ := Nat × List Nat) (fun (j, f) => [(0, .int .i64 n), (1, .slice hsA hs.length hsC), (2, .int .i64 p), (3, .int .i64 8), (9, .slice (some ⟨b1, 0, none⟩) n n), (10, .int .i64 j)]) (fun (j, f) w' => Sep No w [mine [.slice (some ⟨b1, 0, none⟩) n n] (trF (hv n hs 8) n j 0) f] [seen false [.slice hsA hs.length hsC] hs hsF] w' ∧ j ≤ n) (fun (j, f) => n - j) (0, _) ⟨rfl, rfl, rfl, rfl, rfl, rfl, trivial⟩ ⟨by rw [trF_zero]; exact H1, by omega⟩ (fun (j, f) w2 H2 => ?_))))))))
 obtain ⟨H2, hj0⟩ := H2
 refine W_seq (W_sr (sV rfl (py_move rfl) (sV rfl (py_move rfl) (sV rfl (py_lss rfl rfl) (s_nil (W_ifd rfl (fun c1 => ?_) (fun c1 => ?_)))))))
 ·refine W_skip (W_seq (W_block (W_seq ?_)))
  have hj := hr j (by omega)
  have gl : (genG n (hs.getD j 0) 8).length = n := genG_len
  obtain ⟨eb1, eo1, ee1, ec1⟩ := elem_int (H2.seen 0 rfl) j (by omega)
  have eI1 := elem_i64 (H2.seen 0 rfl) j (by omega)
  refine W_reg (sV rfl (py_move rfl) (sV rfl (py_move rfl) (sV rfl (py_move rfl) (sV rfl (py_elz Tryz.underlying25 Tryz.sizeOf2 rfl rfl ee1 j (by omega) (by omega)) (sV rfl (py_load Tryz.underlying2 rfl rfl ec1) (sV rfl (py_move rfl) (s_call (wn rfl) rfl rfl (pc_call Tryz.func226 rfl Tryz_nm226 rfl) (Tryz_spec_l2Gen (by omega)) (fun v1 w3 r1 => ?_))))))))
  obtain ⟨e2, r1⟩ := r1
  obtain ⟨fp1, H3⟩ := H2.res e2 r1
  obtain ⟨a1, k1, q1⟩ := own_slice (H3.mine 1 rfl)
  cases q1
  refine sV rfl (py_assign rfl) (s_nil (W_seq ?_))
  have HS := H3.share 1 rfl
  try dsimp only [List.nil_append, List.cons_append, List.set_cons_zero, List.set_cons_succ] at HS
  refine W_reg (sV rfl (py_assign rfl) (s_nil (W_block (W_loop (γ := Nat × List Nat) (fun (i, f2) => [(0, .int .i64 n), (1, .slice hsA hs.length hsC), (2, .int .i64 p), (3, .int .i64 8), (9, .slice (some ⟨b1, 0, none⟩) n n), (10, .int .i64 j), (11, .slice a1 (genG n (hs.getD j 0) 8).length k1), (12, .int .i64 i)]) (fun (i, f2) w' => Sep No w [mine [.slice (some ⟨b1, 0, none⟩) n n] (trF (hv n hs 8) n j i) f2] _ w' ∧ i ≤ n) (fun (i, f2) => n - i) (0, _) ⟨rfl, rfl, rfl, rfl, rfl, rfl, rfl, rfl, trivial⟩ ⟨(HS.dtake 1), by omega⟩ (fun (i, f2) w4 H4 => ?_)))))
  obtain ⟨H4, hi⟩ := H4
  refine W_seq (W_sr (sV rfl (py_move rfl) (sV rfl (py_move rfl) (sV rfl (py_lss rfl rfl) (s_nil (W_ifd rfl (fun c2 => ?_) (fun c2 => ?_)))))))
  ·refine W_skip (W_seq (W_block ?_))
   have e6 : ((trF (hv n hs 8) n j i).getD i []).length = j := by rw [trF_get (by omega)]; simp
   obtain ⟨eb2, eo2, eB1, eS1, eF1, eG1, ef1, ea1, ek1, ee2, eN1, ec2, nbef1, eH1⟩ := H4.unhook 0 rfl i (by rw [trF_len]; omega)
   try dsimp only [List.nil_append, List.cons_append, List.set_cons_zero, List.set_cons_succ] at eH1
   obtain ⟨eb3, eo3, ee3, ec3, em1⟩ := elem_u8m (eH1.seen 1 rfl) i (by omega)
   refine W_drw (S := Ext (· ∈ ef1) _) [(0, true), (1, true), (2, true), (3, true), (4, true), (5, true), (6, true), (7, true), (8, true), (9, true), (10, false), (11, false), (12, true), (13, false)] (by kernel_rfl) (by kernel_rfl) (by kernel_rfl) rfl (fun _ => Ext.refl.drawn _) (fun q2 => ?_)
   have H5 := eH1.drawn q2
   refine dV rfl rfl (fun zw hx => py_move rfl) (dV rfl rfl (fun zw hx => py_move rfl) (dV rfl rfl (fun zw hx => py_move rfl) (dV rfl rfl (fun zw hx => py_move rfl) (dV rfl rfl (fun zw hx => py_elz Tryz.underlying163 Tryz.sizeOf61 rfl rfl ee2 i (by omega) (by omega)) (dV rfl rfl (fun zw hx => py_load Tryz.underlying61 rfl rfl (hx.cellM nbef1 ec2)) (dV rfl rfl (fun zw hx => py_move rfl) (dV rfl rfl (fun zw hx => py_move rfl) (dV rfl rfl (fun zw hx => py_elz Tryz.underlying61 Tryz.sizeOf5 rfl rfl ee3 i (by omega) (by omega)) (dV rfl rfl (fun zw hx => py_load Tryz.underlying5 rfl rfl (hx.cellM (H5.off 1 rfl 1 rfl em1) ec3)) (d_lit1 rfl (wn rfl) rfl Tryz.underlying61 Tryz_ty5 rfl rfl rfl rfl H5 (fun _ h e => h.trans e.no) (fun b2 w5 e3 g2 H6 => ?_)))))))))))
   refine d_app1 rfl (wn rfl) rfl Tryz.underlying61 Tryz_ty5 rfl rfl rfl H6 1 2 rfl rfl own_b8 (by unfold maxLen; omega) (by omega) (fun _ h e => h.trans e) (fun v2 w6 fp2 H7 => ?_)
   refine dV rfl rfl (fun zw hx => py_elz Tryz.underlying163 Tryz.sizeOf61 rfl rfl ee2 i (by omega) (by omega)) (d_hook rfl (wn rfl) Tryz.sizeOf61 H7 0 1 rfl rfl rfl eN1 rfl rfl (fun w7 fp3 H8 => ?_))
   try dsimp only [List.nil_append, List.cons_append, List.set_cons_zero, List.set_cons_succ] at H8
   refine d_nil (W_reg (sV rfl (py_move rfl) (sV rfl (py_add rfl rfl (in64 ⟨by omega, by omega⟩)) (sV rfl (py_assign rfl) (s_nil ?_)))))
   have hz := (H8.dtake 1)
   rw [show (genG n (hs.getD j 0) 8).getD i 0 = (hv n hs 8 j).getD i 0 from rfl, trF_step (by omega)] at hz
   refine ⟨(i + 1, _), ⟨rfl, rfl, rfl, rfl, rfl, rfl, rfl, rfl, trivial⟩, ⟨hz, by omega⟩, by dsimp only; omega⟩
  ·refine W_exit (W_reg (sV rfl (py_move rfl) (sV rfl (py_add rfl rfl (in64 ⟨by omega, by omega⟩)) (sV rfl (py_assign rfl) (s_nil ?_)))))
   have ei : i = n := by omega
   have hz := (H4.ftake 1)
   rw [ei, trF_next] at hz
   refine ⟨(j + 1, _), ⟨rfl, rfl, rfl, rfl, rfl, rfl, trivial⟩, ⟨hz, by omega⟩, by dsimp only; omega⟩
 ·refine W_exit (W_seq ?_)
  have ej : j = n := by omega
  have HB := H2
  rw [ej, show trF (hv n hs 8) n n 0 = betwM n hs 8 from rfl] at HB
  have hRm := betwM_rect (n := n) (h := hs) (b := 8)
  have bl := betwM_len (n := n) (h := hs) (b := 8)
  have gl2 : (genG n p 8).length = n := genG_len
  refine W_reg (sV rfl (py_move rfl) (sV rfl (py_move rfl) (sV rfl (py_move rfl) (sV rfl (py_move rfl) (s_call (wn rfl) rfl rfl (pc_call Tryz.func226 rfl Tryz_nm226 rfl) (Tryz_spec_l2Gen (by omega)) (fun v3 w8 r2 => ?_))))))
  obtain ⟨e5, r2⟩ := r2
  obtain ⟨fp4, H9⟩ := HB.res e5 r2
  obtain ⟨a2, k2, q3⟩ := own_slice (H9.mine 1 rfl)
  cases q3
  refine s_call (wn rfl) rfl rfl (pc_call Tryz.func282 rfl Tryz_nm282 rfl) (Tryz_spec_l1Solve (H9.msees 0 rfl) (H9.msees 1 rfl) (by assumption) (by first | assumption | omega) (by omega)) (fun v4 w9 r3 => ?_)
  obtain ⟨e6, sa1, sk1, rfl, r3⟩ := r3
  obtain ⟨fp5, H10⟩ := H9.res e6 r3
  refine sV rfl (py_move rfl) (sV rfl (py_extr rfl rfl) (sV rfl (py_extr rfl rfl) (sV rfl (py_assign rfl) (sV rfl (py_assign rfl) (s_nil (W_sr (sV rfl (py_move rfl) (sV rfl (py_assign rfl) (s_nil (W_ret (hQ _ _ (fin1 Tryz.results247 rfl ?_))))))))))))
  exact ⟨H10.ext, H10.out 2 rfl⟩
theorem Tryz_spec_l3Share {w : World} {n : Nat} {p : Int} {hs : List Int} {hsA : Option Addr} {hsC : Nat} (hsS : Sees w [.slice hsA hs.length hsC] hs) (hl : hs.length = n) (hn : 1 ≤ n ∧ n ≤ 100) (hr : ∀ i, i < n → 0 ≤ hs.getD i 0 ∧ hs.getD i 0 ≤ 500) (hp : 0 ≤ p ∧ p ≤ 500) : Ret Tryz.prog 189 #[.int .i64 n, .slice hsA hs.length hsC, .int .i64 p] w fun v w' => Ext No w w' ∧ (Res w w' [v] (padL (betw n hs p 8) n)) := by
 subst hl
 obtain ⟨hsF, hsO⟩ := hsS
 obtain ⟨hb0, ho0, had0⟩ := own_addr hsO 0 (by omega)
 subst had0
 have bwl := betw_len (n := hs.length) (h := hs) (x := p) (b := 8)
 refine ret_Q (vs := [.int .i64 hs.length, .slice (some ⟨hb0, ho0, none⟩) hs.length hsC, .int .i64 p]) Tryz.func189 rfl Tryz.ntmps189 rfl (fun Q hQ hN => ?_)
 have H0 := Sep.start (w := w) (F := [seen false [.slice (some ⟨hb0, ho0, none⟩) hs.length hsC] hs hsF]) (all_cons hsO (by simp))
 refine W_sr (sV rfl (py_assign rfl) (s_nil (W_sr (sV rfl (py_move rfl) (sV rfl (py_len Tryz.underlying25 rfl) (s_make (wn rfl) rfl Tryz.underlying61 Tryz_ty5 own_z8 rfl (by omega) (by unfold maxLen; omega) H0 (fun b1 w1 e1 g1 H1 => ?_)))))))
 refine sV rfl (py_assign rfl) (s_nil (W_sr (sV rfl (py_move rfl) (sV rfl (py_move rfl) (sV rfl (py_move rfl) (sV rfl (py_slc0 Tryz.underlying25 Tryz.sizeOf2 rfl rfl hs.length rfl (own_le_cap (H1.seen 0 rfl))) ((sV rfl (py_move rfl) (s_call (wn rfl) rfl rfl (pc_call Tryz.func247 rfl Tryz_nm247 rfl) (Tryz_spec_l2Weights8 (H1.sees 0 rfl) (by omega) (by first | assumption | omega) (by assumption) (by first | assumption | omega)) (fun v1 w2 r1 => ?_))))))))))
 obtain ⟨e2, r1⟩ := r1
 obtain ⟨fp1, H2⟩ := H1.res e2 r1
 obtain ⟨a1, k1, q1⟩ := own_slice (H2.mine 1 rfl)
 cases q1
 refine sV rfl (py_assign rfl) (s_nil (W_seq (W_sr (sV rfl (py_assign rfl) (s_nil (W_block (W_loop (γ := Nat × List Nat) (fun (k, f) => [(7, .slice (some ⟨b1, 0, none⟩) hs.length hs.length), (8, .slice a1 (betw hs.length hs p 8).length k1), (9, .int .i64 k)]) (fun (k, f) w' => Sep No w [mine [.slice (some ⟨b1, 0, none⟩) hs.length hs.length] (fillG (fun i => (betw hs.length hs p 8).getD i 0) hs.length k) f, mine [.slice a1 (betw hs.length hs p 8).length k1] (betw hs.length hs p 8) fp1] [seen false [.slice (some ⟨hb0, ho0, none⟩) hs.length hsC] hs hsF] w' ∧ k ≤ (betw hs.length hs p 8).length) (fun (k, f) => (betw hs.length hs p 8).length - k) (0, _) ⟨rfl, rfl, rfl, trivial⟩ ⟨by rw [fillG_zero]; exact H2, by omega⟩ (fun (k, f) w3 H3 => ?_))))))))
 obtain ⟨H3, hk⟩ := H3
 refine W_seq (W_sr (sV rfl (py_move rfl) (sV rfl (py_move rfl) (sV rfl (py_len Tryz.underlying61 rfl) (sV rfl (py_lss rfl rfl) (s_nil (W_ifd rfl (fun c1 => ?_) (fun c1 => ?_))))))))
 ·refine W_skip (W_seq (W_block ?_))
  obtain ⟨eb1, eo1, ee1, ec1⟩ := elem_u8 (H3.mine 1 rfl) k (by omega)
  obtain ⟨eb2, eo2, ee2, ec2⟩ := elem_u8 (H3.mine 0 rfl) k (by rw [fillG_len (by omega)]; omega)
  refine W_reg (sV rfl (py_move rfl) (sV rfl (py_move rfl) (sV rfl (py_move rfl) (sV rfl (py_move rfl) (sV rfl (py_elz Tryz.underlying61 Tryz.sizeOf5 rfl rfl ee1 k (by omega) (by omega)) (sV rfl (py_load Tryz.underlying5 rfl rfl ec1) (sV rfl (py_elz Tryz.underlying61 Tryz.sizeOf5 rfl rfl ee2 k (by omega) (by omega)) (s_elst (wn rfl) Tryz.sizeOf5 rfl H3 0 rfl k (by rw [fillG_len (by omega)]; omega) rfl ee2 rfl own_b8 (fun w4 fp2 e3 H4 => ?_)))))))))
  refine s_nil (W_reg (sV rfl (py_move rfl) (sV rfl (py_add rfl rfl (in64 ⟨by omega, by omega⟩)) (sV rfl (py_assign rfl) (s_nil ?_)))))
  have hz := H4
  rw [fillG_set (by omega) rfl] at hz
  refine ⟨(k + 1, _), ⟨rfl, rfl, rfl, trivial⟩, ⟨hz, by omega⟩, by dsimp only; omega⟩
 ·refine W_exit (W_sr (sV rfl (py_move rfl) (sV rfl (py_assign rfl) (s_nil (W_ret (hQ _ _ (fin1 Tryz.results189 rfl ?_)))))))
  obtain rfl : k = (betw hs.length hs p 8).length := by omega
  exact ⟨H3.ext, H3.out 0 rfl⟩
theorem Tryz_impl_Shape_columns {w : World} {s : Shape} (hs : s.ok = true) : Ret Tryz.prog 190 #[s.v] w fun v w' => Ext No w w' ∧ (v = .agg #[.int .i64 (s.Groups.toNat : Nat), .int .i64 s.Column]) := by
 have sbd := shape_bd hs
 refine ret_Q (vs := [s.v]) Tryz.func190 rfl Tryz.ntmps190 rfl (fun Q hQ hN => ?_)
 have H0 := Sep.start (w := w) (F := []) (by simp)
 refine W_sr (s_box (wn rfl) rfl rfl H0 (fun b1 w1 e1 g1 H1 => ?_))
 refine s_var (wn rfl) rfl Tryz.zeroValue183 H1 (fun b2 w2 e2 g2 H2 => ?_)
 refine s_nil (W_sr (sV rfl (py_field Tryz.underlying33 rfl Tryz.sizeOf2 rfl rfl) (sV rfl (py_load Tryz.underlying2 rfl rfl (cell_atL (H2.box 0 rfl) rfl)) (sV rfl (py_field Tryz.underlying33 rfl Tryz.sizeOf2 rfl rfl) (sV rfl (py_load Tryz.underlying2 rfl rfl (cell_atL (H2.box 0 rfl) rfl)) (sV rfl (py_buildS Tryz_pl183 rfl rfl) (s_stoS (wn rfl) Tryz.sizeOf183 rfl rfl rfl rfl H2 1 rfl rfl (fun w3 e3 H3 => ?_))))))))
 dsimp only [List.nil_append, List.cons_append, List.set_cons_zero, List.set_cons_succ, layL] at H3
 refine s_nil (W_ret (hQ _ _ (finC Tryz.results190 rfl (run_loadVarS Tryz.underlying183 rfl Tryz.sizeOf183 rfl (At.whole (H3.box 1 rfl))) (⟨H3.ext, ?_⟩))))
 rw [Int.toNat_of_nonneg (by omega)]
 rfl
theorem Tryz_impl_Shape_all_n {w : World} {s : Shape} (hs : s.ok = true) : Ret Tryz.prog 86 #[s.v] w fun v w' => Ext No w w' ∧ (v = .int .i64 ((s.Groups + s.Column).toNat : Nat)) := by
 have sbd := shape_bd hs
 refine ret_Q (vs := [s.v]) Tryz.func86 rfl Tryz.ntmps86 rfl (fun Q hQ hN => ?_)
 have H0 := Sep.start (w := w) (F := []) (by simp)
 refine W_sr (s_box (wn rfl) rfl rfl H0 (fun b1 w1 e1 g1 H1 => ?_))
 refine sV rfl (py_assign rfl) (s_nil (W_sr (sV rfl (py_field Tryz.underlying33 rfl Tryz.sizeOf2 rfl rfl) (sV rfl (py_load Tryz.underlying2 rfl rfl (cell_atL (H1.box 0 rfl) rfl)) (sV rfl (py_field Tryz.underlying33 rfl Tryz.sizeOf2 rfl rfl) (sV rfl (py_load Tryz.underlying2 rfl rfl (cell_atL (H1.box 0 rfl) rfl)) (sV rfl (py_add rfl rfl (in64 ⟨by omega, by omega⟩)) (sV rfl (py_assign rfl) (s_nil (W_ret (hQ _ _ (fin1 Tryz.results86 rfl (⟨H1.ext, ?_⟩)))))))))))))
 rw [Int.toNat_of_nonneg (by omega)]
theorem Tryz_spec_l5All_n {w : World} {s : Shape} (hs : s.ok = true) : Ret Tryz.prog 83 #[s.v] w fun v w' => Ext No w w' ∧ (v = .int .i64 ((s.Groups + s.Column).toNat : Nat)) := by
 have sbd := shape_bd hs
 refine ret_Q (vs := [s.v]) Tryz.func83 rfl Tryz.ntmps83 rfl (fun Q hQ hN => ?_)
 have H0 := Sep.start (w := w) (F := []) (by simp)
 refine W_sr (s_box (wn rfl) rfl rfl H0 (fun b1 w1 e1 g1 H1 => ?_))
 refine sV rfl (py_assign rfl) (s_nil (W_sr (sV rfl (py_field Tryz.underlying33 rfl Tryz.sizeOf2 rfl rfl) (sV rfl (py_load Tryz.underlying2 rfl rfl (cell_atL (H1.box 0 rfl) rfl)) (sV rfl (py_field Tryz.underlying33 rfl Tryz.sizeOf2 rfl rfl) (sV rfl (py_load Tryz.underlying2 rfl rfl (cell_atL (H1.box 0 rfl) rfl)) (sV rfl (py_add rfl rfl (in64 ⟨by omega, by omega⟩)) (sV rfl (py_assign rfl) (s_nil (W_ret (hQ _ _ (fin1 Tryz.results83 rfl (⟨H1.ext, ?_⟩)))))))))))))
 rw [Int.toNat_of_nonneg (by omega)]
theorem Tryz_impl_World_sharers {w : World} {zb : Nat} {z : Wld} {zA9 : Option Addr} {zC9 : Nat} {zA10 : Option Addr} {zC10 : Nat} {zA11 : Option Addr} {zC11 : Nat} {g : Int} (zB : w.heap[zb]? = some (.cells [.int .i64 z.Shape.Groups, .int .i64 z.Shape.Column, .int .i64 z.Shape.Data, .int .i64 z.Shape.Spare, .int .i64 z.Shape.Rows, .int .i64 z.Shape.Cap, .int .i64 z.Shape.Batch, .int .i64 z.Shape.Queue, .int .i64 z.Shape.Stage, .slice zA9 z.Groups.length zC9, .slice zA10 z.On.length zC10, .slice zA11 z.Tapes.length zC11, .int .i64 z.Writes, .int .i64 z.Stop, .bool z.Down].toArray 37)) (zK : z.Ok) (zS9 : Sees w [.slice zA9 z.Groups.length zC9] z.Groups) (zS10 : Sees w [.slice zA10 z.On.length zC10] z.On) (zS11 : Sees w [.slice zA11 z.Tapes.length zC11] z.Tapes) (hs : z.Shape.ok = true) (hG : groupsOK z = true) (hg : ins g 0 (z.Shape.Groups + z.Shape.Column - 1) = true) : Ret Tryz.prog 114 #[.pointer (some ⟨zb, 0, none⟩), .int .i64 g] w fun v w' => Ext No w w' ∧ (∃ A C, v = .tuple #[.slice A (shrL z g).length C, .bool (shrOk z g)] ∧ Res w w' [.slice A (shrL z g).length C] (shrL z g)) := by
 have zK2 := zK
 unfold Wld.Ok Shape.Ok at zK2
 try unfold I64ok at zK2
 try unfold maxLen at zK2
 have zL9 := sees_len zS9
 unfold maxLen at zL9
 obtain ⟨zF9, zO9⟩ := zS9
 have zL10 := sees_len zS10
 unfold maxLen at zL10
 obtain ⟨zF10, zO10⟩ := zS10
 have zL11 := sees_len zS11
 unfold maxLen at zL11
 obtain ⟨zF11, zO11⟩ := zS11
 have sbd := shape_bd hs
 have hgi := ins_iff.1 hg
 refine ret_Q (vs := [.pointer (some ⟨zb, 0, none⟩), .int .i64 g]) Tryz.func114 rfl Tryz.ntmps114 rfl (fun Q hQ hN => ?_)
 have H0 := Sep.start (w := w) (F := [box zb (.cells [.int .i64 z.Shape.Groups, .int .i64 z.Shape.Column, .int .i64 z.Shape.Data, .int .i64 z.Shape.Spare, .int .i64 z.Shape.Rows, .int .i64 z.Shape.Cap, .int .i64 z.Shape.Batch, .int .i64 z.Shape.Queue, .int .i64 z.Shape.Stage, .slice zA9 z.Groups.length zC9, .slice zA10 z.On.length zC10, .slice zA11 z.Tapes.length zC11, .int .i64 z.Writes, .int .i64 z.Stop, .bool z.Down].toArray 37), seen false [.slice zA9 z.Groups.length zC9] z.Groups zF9, seen false [.slice zA10 z.On.length zC10] z.On zF10, seen false [.slice zA11 z.Tapes.length zC11] z.Tapes zF11]) (all_cons (by exact zB) (all_cons zO9 (all_cons zO10 (all_cons zO11 (by simp)))))
 refine W_sr (sV rfl (py_assign rfl) (sV rfl (py_assign rfl) (s_nil (W_sr (s_lit0 (α := Int) (wn rfl) rfl Tryz.underlying25 Tryz_ty2 H0 (fun b1 w1 e1 g1 H1 => ?_))))))
 refine sV rfl (py_assign rfl) (s_nil (W_seq (W_sr (sV rfl (py_move rfl) (sV rfl (py_nil rfl) (sV rfl (py_field Tryz.underlying37 rfl Tryz.sizeOf33 rfl rfl) (sV rfl (py_loadS Tryz.underlying33 rfl Tryz.sizeOf33 rfl rfl (At.sub (H1.fbox 0 rfl) 9)) (s_call (wn rfl) rfl rfl (pc_call Tryz.func86 rfl Tryz_nm86 rfl) (Tryz_impl_Shape_all (by assumption)) (fun v1 w2 r1 => ?_)))))))))
 obtain ⟨e2, rfl⟩ := r1
 have H2 := H1.to e2
 refine sV rfl (py_move rfl) (s_nil (W_block (W_loopA (α := Int) (γ := Nat) (fun k => (liveTo z g k)) 0 H2 0 rfl 6 rfl [(0, _), (1, _), (4, _), (5, _), (16, _)] ⟨rfl, rfl, rfl, rfl, rfl, trivial⟩ (fun k => [(17, .int .i64 k)]) (fun k => k ≤ (z.Shape.Groups + z.Shape.Column).toNat ∧ True) (fun k => (z.Shape.Groups + z.Shape.Column).toNat - k) ⟨rfl, trivial⟩ ⟨by omega, trivial⟩ (fun k vA1 fA1 w3 H3 ⟨hk, _⟩ => ?_))))
 dsimp only [List.cons_append, List.nil_append, List.set_cons_zero, List.set_cons_succ] at H3 ⊢
 refine W_sr (sV rfl (py_lss rfl rfl) (s_nil (W_seq (W_ifd rfl (fun c1 => ?_) (fun c1 => ?_)))))
 ·refine W_skip (W_seq (W_block (W_sr (sV rfl (py_move rfl) (sV rfl (py_assign rfl) (s_nil (W_seq ?_)))))))
  obtain ⟨a1, k1, q1⟩ := own_slice (H3.mine 0 rfl)
  cases q1
  have hgk : ins (k : Int) 0 (z.Shape.Groups + z.Shape.Column - 1) = true := ins_iff.2 (by omega)
  have lvl := liveTo_len (z := z) (g := g) k
  refine W_drw (S := Ext No _) [(0, true), (1, true), (2, true), (3, true), (4, true), (5, true), (6, false), (7, true), (8, true), (9, true), (10, true), (12, true), (13, true), (14, true), (15, true), (16, true), (11, false), (17, true), (18, false)] (by kernel_rfl) (by kernel_rfl) (by kernel_rfl) rfl (fun _ => Ext.refl.drawn _) (fun q2 => ?_)
  have H4 := H3.drawn q2
  refine dV rfl rfl (fun zw hx => py_move rfl) (dV rfl rfl (fun zw hx => py_move rfl) (dV rfl rfl (fun zw hx => py_neq rfl rfl) (dV rfl rfl (fun zw hx => py_move rfl) (d_case (t := 23) rfl (fun hg1 => ?_) (fun hg1 => ?_)))))
  ·try simp only [decide_eq_true_eq, decide_eq_false_iff_not] at hg1
   refine d_val rfl (wg rfl rfl rfl) rfl rfl (fun zw hx => py_move rfl) (d_val rfl (wg rfl rfl rfl) rfl rfl (fun zw hx => py_move rfl) (d_call rfl (wg rfl rfl rfl) rfl rfl (pc_call Tryz.func87 rfl Tryz_nm87 rfl) (Tryz_impl_World_dead (H4.fbox 0 rfl) (by assumption) (H4.sees 1 rfl) (H4.sees 2 rfl) (H4.sees 3 rfl) (by assumption) (by assumption) (by assumption)) (fun hS _ _ r _ => hS.trans r.1.no) (fun v2 w4 r2 => ?_)))
   obtain ⟨e3, rfl⟩ := r2
   have H5 := H4.to e3
   refine d_val rfl (wg rfl rfl rfl) rfl rfl (fun zw hx => py_not rfl) (dV rfl rfl (fun zw hx => py_pickT rfl rfl) (dV rfl rfl (fun zw hx => py_move rfl) (d_case (t := 29) rfl (fun hg2 => ?_) (fun hg2 => ?_))))
   ·try simp only [decide_eq_true_eq, decide_eq_false_iff_not] at hg2
    refine d_val rfl (wg rfl rfl rfl) rfl rfl (fun zw hx => py_move rfl) (d_val rfl (wg rfl rfl rfl) rfl rfl (fun zw hx => py_move rfl) (d_val rfl (wg rfl rfl rfl) rfl rfl (fun zw hx => py_nil rfl) (d_val rfl (wg rfl rfl rfl) rfl rfl (fun zw hx => py_field Tryz.underlying37 rfl Tryz.sizeOf33 rfl rfl) (d_val rfl (wg rfl rfl rfl) rfl rfl (fun zw hx => py_field Tryz.underlying33 rfl Tryz.sizeOf2 rfl rfl) (d_val rfl (wg rfl rfl rfl) rfl rfl (fun zw hx => py_load Tryz.underlying2 rfl rfl (cell_atL (hx.heap (H4.fbox 0 rfl)) rfl)) (d_call rfl (wg rfl rfl rfl) rfl rfl (pc_call Tryz.func155 rfl Tryz_nm155 rfl) (Tryz_size_int64 (H5.msees 0 rfl)) (fun hS _ _ r _ => hS.trans r.1.no) (fun v3 w5 r3 => ?_)))))))
    obtain ⟨e4, rfl⟩ := r3
    have H6 := H5.to e4
    refine d_val rfl (wg rfl rfl rfl) rfl rfl (fun zw hx => py_lss rfl rfl) (d_end rfl (wn rfl) rfl rfl (py_pickT rfl rfl) (d_nil (W_ifd rfl (fun c2 => ?_) (fun c2 => ?_))))
    ·refine W_reg (sV rfl (py_move rfl) (sV rfl (py_move rfl) (s_lit1 (wn rfl) rfl Tryz.underlying25 Tryz_ty2 rfl rfl rfl rfl H6 (fun b2 w6 e5 g2 H7 => ?_))))
     refine s_app1 (wn rfl) rfl Tryz.underlying25 Tryz_ty2 rfl rfl rfl H7 0 1 rfl rfl (own_bi (by first | assumption | (unfold I64ok; omega))) (by unfold maxLen; omega) (by omega) (fun v4 w7 fp1 H8 => ?_)
     refine sV rfl (py_assign rfl) (s_nil (W_reg (sV rfl (py_add rfl rfl (in64 ⟨by omega, by omega⟩)) (sV rfl (py_move rfl) (s_nil ?_)))))
     exact ⟨(k + 1, _, _), ⟨rfl, rfl, rfl, rfl, rfl, rfl, rfl, trivial⟩, ⟨by dsimp only; rw [liveTo_yes (z := z) (g := g) (k := k) ⟨by first | assumption | omega, by simp_all, by omega⟩]; exact (H8.dtake 1), by omega, trivial⟩, by dsimp only; omega⟩
    ·refine W_skip (W_reg (sV rfl (py_add rfl rfl (in64 ⟨by omega, by omega⟩)) (sV rfl (py_move rfl) (s_nil ?_))))
     exact ⟨(k + 1, _, _), ⟨rfl, rfl, rfl, rfl, rfl, rfl, rfl, trivial⟩, ⟨by dsimp only; rw [liveTo_no (z := z) (g := g) (k := k) (fun hh => by obtain ⟨h1, h2, h3⟩ := hh; first | omega | (simp_all; done) | (simp_all; omega))]; exact H6, by omega, trivial⟩, by dsimp only; omega⟩
   ·try simp only [decide_eq_true_eq, decide_eq_false_iff_not] at hg2
    refine d_skip rfl (wog (b := false) rfl rfl rfl) rfl rfl (d_skip rfl (wog (b := false) rfl rfl rfl) rfl rfl (d_skip rfl (wog (b := false) rfl rfl rfl) rfl rfl (d_skip rfl (wog (b := false) rfl rfl rfl) rfl rfl (d_skip rfl (wog (b := false) rfl rfl rfl) rfl rfl (d_skip rfl (wog (b := false) rfl rfl rfl) rfl rfl (d_skipA rfl (wog (b := false) rfl rfl rfl) rfl rfl (d_skip rfl (wog (b := false) rfl rfl rfl) rfl rfl (d_end rfl (wn rfl) rfl rfl (py_pickF rfl rfl) (d_nil (W_iff rfl (W_skip (W_reg (sV rfl (py_add rfl rfl (in64 ⟨by omega, by omega⟩)) (sV rfl (py_move rfl) (s_nil ?_)))))))))))))))
    exact ⟨(k + 1, _, _), ⟨rfl, rfl, rfl, rfl, rfl, rfl, rfl, trivial⟩, ⟨by dsimp only; rw [liveTo_no (z := z) (g := g) (k := k) (fun hh => by obtain ⟨h1, h2, h3⟩ := hh; first | omega | (simp_all; done) | (simp_all; omega))]; exact H5, by omega, trivial⟩, by dsimp only; omega⟩
  ·try simp only [decide_eq_true_eq, decide_eq_false_iff_not] at hg1
   refine d_skip rfl (wog (b := false) rfl rfl rfl) rfl rfl (d_skip rfl (wog (b := false) rfl rfl rfl) rfl rfl (d_skipA rfl (wog (b := false) rfl rfl rfl) rfl rfl (d_skip rfl (wog (b := false) rfl rfl rfl) rfl rfl (dV rfl rfl (fun zw hx => py_pickF rfl rfl) (dV rfl rfl (fun zw hx => py_move rfl) (d_skip rfl (wog (b := false) rfl rfl rfl) rfl rfl (d_skip rfl (wog (b := false) rfl rfl rfl) rfl rfl (d_skip rfl (wog (b := false) rfl rfl rfl) rfl rfl (d_skip rfl (wog (b := false) rfl rfl rfl) rfl rfl (d_skip rfl (wog (b := false) rfl rfl rfl) rfl rfl (d_skip rfl (wog (b := false) rfl rfl rfl) rfl rfl (d_skipA rfl (wog (b := false) rfl rfl rfl) rfl rfl (d_skip rfl (wog (b := false) rfl rfl rfl) rfl rfl (d_end rfl (wn rfl) rfl rfl (py_pickF rfl rfl) (d_nil (W_iff rfl (W_skip (W_reg (sV rfl (py_add rfl rfl (in64 ⟨by omega, by omega⟩)) (sV rfl (py_move rfl) (s_nil ?_)))))))))))))))))))))
   exact ⟨(k + 1, _, _), ⟨rfl, rfl, rfl, rfl, rfl, rfl, rfl, trivial⟩, ⟨by dsimp only; rw [liveTo_no (z := z) (g := g) (k := k) (fun hh => by obtain ⟨h1, h2, h3⟩ := hh; first | omega | (simp_all; done) | (simp_all; omega))]; exact H4, by omega, trivial⟩, by dsimp only; omega⟩
 ·refine W_exit (W_seq (W_seq ?_))
  obtain rfl : k = (z.Shape.Groups + z.Shape.Column).toNat := by omega
  obtain ⟨a2, k2, q3⟩ := own_slice (H3.mine 0 rfl)
  cases q3
  have lvl := liveTo_len (z := z) (g := g) (z.Shape.Groups + z.Shape.Column).toNat
  have lvc := liveTo_cap (z := z) (g := g) (by omega) (z.Shape.Groups + z.Shape.Column).toNat
  refine W_drw (S := Ext No _) [(0, true), (2, true), (3, true), (4, true), (5, true), (6, true), (1, false), (7, false)] (by kernel_rfl) (by kernel_rfl) (by kernel_rfl) rfl (fun _ => Ext.refl.drawn _) (fun q4 => ?_)
  have H9 := H3.drawn q4
  refine dV rfl rfl (fun zw hx => py_move rfl) (dV rfl rfl (fun zw hx => py_move rfl) (dV rfl rfl (fun zw hx => py_nil rfl) (dV rfl rfl (fun zw hx => py_field Tryz.underlying37 rfl Tryz.sizeOf33 rfl rfl) (dV rfl rfl (fun zw hx => py_field Tryz.underlying33 rfl Tryz.sizeOf2 rfl rfl) (dV rfl rfl (fun zw hx => py_load Tryz.underlying2 rfl rfl (cell_atL (hx.heap (H9.fbox 0 rfl)) rfl)) (d_call rfl (wn rfl) rfl rfl (pc_call Tryz.func155 rfl Tryz_nm155 rfl) (Tryz_size_int64 (H9.msees 0 rfl)) (fun hS _ _ r _ => hS.trans r.1.no) (fun v5 w8 r4 => ?_)))))))
  obtain ⟨e6, rfl⟩ := r4
  have H10 := H9.to e6
  refine d_end rfl (wn rfl) rfl rfl (py_lss rfl rfl) (d_nil (W_ifd rfl (fun c3 => ?_) (fun c3 => ?_)))
  ·refine W_sr (sV rfl (py_assign rfl) (sV rfl (py_assign rfl) (s_nil (W_ret (hQ _ _ (fin2 Tryz.results114 rfl rfl ?_))))))
   obtain ⟨e1, e2⟩ := shr_no (z := z) (g := g) (by show ¬ (((liveTo z g (z.Shape.Groups + z.Shape.Column).toNat).length : Nat) : Int) = _; omega)
   exact ⟨H10.ext, none, 0, (by rw [e1, e2]; rfl), (by rw [e2]; exact ⟨[], .inr (.inl ⟨rfl, rfl, rfl⟩), .nil, by simp⟩)⟩
  ·refine W_skip (W_seq ?_)
   have hlq : (liveTo z g (z.Shape.Groups + z.Shape.Column).toNat).length = z.Shape.Groups.toNat := by omega
   have hlr : ∀ i, i < z.Shape.Groups.toNat → 0 ≤ (liveTo z g (z.Shape.Groups + z.Shape.Column).toNat).getD i 0 ∧ (liveTo z g (z.Shape.Groups + z.Shape.Column).toNat).getD i 0 ≤ 500 := fun i hi => by have := liveTo_ge (z := z) (g := g) (z.Shape.Groups + z.Shape.Column).toNat i (by omega); omega
   have bwl := betw_len (n := z.Shape.Groups.toNat) (h := (liveTo z g (z.Shape.Groups + z.Shape.Column).toNat)) (x := g) (b := 8)
   refine W_reg (sV rfl (py_move rfl) (sV rfl (py_nil rfl) (sV rfl (py_field Tryz.underlying37 rfl Tryz.sizeOf33 rfl rfl) (sV rfl (py_loadS Tryz.underlying33 rfl Tryz.sizeOf33 rfl rfl (At.sub (H10.fbox 0 rfl) 9)) (s_call (wn rfl) rfl rfl (pc_call Tryz.func86 rfl Tryz_nm86 rfl) (Tryz_impl_Shape_all_n (by assumption)) (fun v6 w9 r5 => ?_))))))
   obtain ⟨e7, rfl⟩ := r5
   have H11 := H10.to e7
   refine s_make (wn rfl) rfl Tryz.underlying61 Tryz_ty5 own_z8 rfl (by omega) (by unfold maxLen; omega) H11 (fun b3 w10 e8 g3 H12 => ?_)
   refine sV rfl (py_assign rfl) (s_nil (W_seq (W_sr (sV rfl (py_move rfl) (sV rfl (py_nil rfl) (sV rfl (py_field Tryz.underlying37 rfl Tryz.sizeOf33 rfl rfl) (sV rfl (py_loadS Tryz.underlying33 rfl Tryz.sizeOf33 rfl rfl (At.sub (H12.fbox 0 rfl) 9)) (s_call (wn rfl) rfl rfl (pc_call Tryz.func190 rfl Tryz_nm190 rfl) (Tryz_impl_Shape_columns (by assumption)) (fun v7 w11 r6 => ?_)))))))))
   obtain ⟨e9, rfl⟩ := r6
   have H13 := H12.to e9
   refine sV rfl (py_move rfl) (sV rfl (py_move rfl) (s_call (wn rfl) rfl rfl (pc_call Tryz.func191 rfl Tryz_nm191 rfl) (Tryz_impl_columnCode_share (n := z.Shape.Groups.toNat) (s := z.Shape.Column) ⟨_, own_weak (H13.mine 0 rfl)⟩ hlq (by omega) hlr (by omega)) (fun v8 w12 r7 => ?_)))
   obtain ⟨e10, r7⟩ := r7
   obtain ⟨fp2, H14⟩ := H13.res e10 r7
   obtain ⟨a3, k3, q5⟩ := own_slice (H14.mine 2 rfl)
   cases q5
   refine sV rfl (py_len Tryz.underlying61 rfl) (sV rfl (py_move rfl) (s_nil (W_block (W_loop (γ := Nat × List Nat) (fun (k, f) => [(6, .slice a2 (liveTo z g (z.Shape.Groups + z.Shape.Column).toNat).length k2), (8, .slice (some ⟨b3, 0, none⟩) (z.Shape.Groups + z.Shape.Column).toNat (z.Shape.Groups + z.Shape.Column).toNat), (65, .slice a3 (betw z.Shape.Groups.toNat (liveTo z g (z.Shape.Groups + z.Shape.Column).toNat) g 8).length k3), (66, .int .i64 (betw z.Shape.Groups.toNat (liveTo z g (z.Shape.Groups + z.Shape.Column).toNat) g 8).length), (67, .int .i64 k)]) (fun (k, f) w' => Sep No w [mine [.slice a2 (liveTo z g (z.Shape.Groups + z.Shape.Column).toNat).length k2] (liveTo z g (z.Shape.Groups + z.Shape.Column).toNat) fA1, mine [.slice (some ⟨b3, 0, none⟩) (z.Shape.Groups + z.Shape.Column).toNat (z.Shape.Groups + z.Shape.Column).toNat] (putAt (liveTo z g (z.Shape.Groups + z.Shape.Column).toNat) (betw z.Shape.Groups.toNat (liveTo z g (z.Shape.Groups + z.Shape.Column).toNat) g 8) (z.Shape.Groups + z.Shape.Column).toNat k) f, mine [.slice a3 (betw z.Shape.Groups.toNat (liveTo z g (z.Shape.Groups + z.Shape.Column).toNat) g 8).length k3] (betw z.Shape.Groups.toNat (liveTo z g (z.Shape.Groups + z.Shape.Column).toNat) g 8) fp2] [box zb (.cells [.int .i64 z.Shape.Groups, .int .i64 z.Shape.Column, .int .i64 z.Shape.Data, .int .i64 z.Shape.Spare, .int .i64 z.Shape.Rows, .int .i64 z.Shape.Cap, .int .i64 z.Shape.Batch, .int .i64 z.Shape.Queue, .int .i64 z.Shape.Stage, .slice zA9 z.Groups.length zC9, .slice zA10 z.On.length zC10, .slice zA11 z.Tapes.length zC11, .int .i64 z.Writes, .int .i64 z.Stop, .bool z.Down].toArray 37), seen false [.slice zA9 z.Groups.length zC9] z.Groups zF9, seen false [.slice zA10 z.On.length zC10] z.On zF10, seen false [.slice zA11 z.Tapes.length zC11] z.Tapes zF11] w' ∧ k ≤ (betw z.Shape.Groups.toNat (liveTo z g (z.Shape.Groups + z.Shape.Column).toNat) g 8).length) (fun (k, f) => (betw z.Shape.Groups.toNat (liveTo z g (z.Shape.Groups + z.Shape.Column).toNat) g 8).length - k) (0, _) ⟨rfl, rfl, rfl, rfl, rfl, trivial⟩ ⟨by rw [putAt_zero]; exact H14, by omega⟩ (fun (k, f) w13 H15 => ?_)))))
   obtain ⟨H15, hk2⟩ := H15
   refine W_sr (sV rfl (py_lss rfl rfl) (s_nil (W_seq (W_ifd rfl (fun c4 => ?_) (fun c4 => ?_)))))
   ·refine W_skip (W_seq (W_block (W_seq ?_)))
    obtain ⟨eb1, eo1, ee1, ec1⟩ := elem_u8 (H15.mine 2 rfl) k (by omega)
    refine W_reg (sV rfl (py_move rfl) (sV rfl (py_elz Tryz.underlying61 Tryz.sizeOf5 rfl rfl ee1 k (by omega) (by omega)) (sV rfl (py_load Tryz.underlying5 rfl rfl ec1) (sV rfl (py_assign rfl) (sV rfl (py_assign rfl) (s_nil ?_))))))
    have hlk := hlr k (by omega)
    have hlg := liveTo_ge (z := z) (g := g) (z.Shape.Groups + z.Shape.Column).toNat k (by omega)
    obtain ⟨eb2, eo2, ee2, ec2⟩ := elem_int (H15.mine 0 rfl) k (by omega)
    obtain ⟨eb3, eo3, ee3, ec3⟩ := elem_u8 (H15.mine 1 rfl) ((liveTo z g (z.Shape.Groups + z.Shape.Column).toNat).getD k 0).toNat (by rw [putAt_len]; omega)
    refine W_reg (sV rfl (py_move rfl) (sV rfl (py_move rfl) (sV rfl (py_move rfl) (sV rfl (py_elz Tryz.underlying25 Tryz.sizeOf2 rfl rfl ee2 k (by omega) (by omega)) (sV rfl (py_load Tryz.underlying2 rfl rfl ec2) (sV rfl (py_move rfl) (sV rfl (py_elz Tryz.underlying61 Tryz.sizeOf5 rfl rfl ee3 ((liveTo z g (z.Shape.Groups + z.Shape.Column).toNat).getD k 0).toNat (by omega) (by omega)) (s_elst (wn rfl) Tryz.sizeOf5 rfl H15 1 rfl ((liveTo z g (z.Shape.Groups + z.Shape.Column).toNat).getD k 0).toNat (by rw [putAt_len]; omega) rfl ee3 rfl own_b8 (fun w14 fp3 e11 H16 => ?_)))))))))
    refine s_nil (W_reg (sV rfl (py_add rfl rfl (in64 ⟨by omega, by omega⟩)) (sV rfl (py_move rfl) (s_nil ?_))))
    have hz := H16
    rw [show (putAt (liveTo z g (z.Shape.Groups + z.Shape.Column).toNat) (betw z.Shape.Groups.toNat (liveTo z g (z.Shape.Groups + z.Shape.Column).toNat) g 8) (z.Shape.Groups + z.Shape.Column).toNat k).set ((liveTo z g (z.Shape.Groups + z.Shape.Column).toNat).getD k 0).toNat ((betw z.Shape.Groups.toNat (liveTo z g (z.Shape.Groups + z.Shape.Column).toNat) g 8).getD k 0) = putAt (liveTo z g (z.Shape.Groups + z.Shape.Column).toNat) (betw z.Shape.Groups.toNat (liveTo z g (z.Shape.Groups + z.Shape.Column).toNat) g 8) (z.Shape.Groups + z.Shape.Column).toNat (k + 1) from rfl] at hz
    refine ⟨(k + 1, _), ⟨rfl, rfl, rfl, rfl, rfl, trivial⟩, ⟨hz, by omega⟩, by dsimp only; omega⟩
   ·refine W_exit (W_sr (sV rfl (py_move rfl) (sV rfl (py_assign rfl) (sV rfl (py_assign rfl) (s_nil (W_ret (hQ _ _ (fin2 Tryz.results114 rfl rfl ?_))))))))
    obtain rfl : k = (betw z.Shape.Groups.toNat (liveTo z g (z.Shape.Groups + z.Shape.Column).toNat) g 8).length := by omega
    obtain ⟨e1, e2⟩ := shr_yes (z := z) (g := g) (by show (((liveTo z g (z.Shape.Groups + z.Shape.Column).toNat).length : Nat) : Int) = _; omega)
    have hz := H15.out 1 rfl
    have e3 : (putAt (liveTo z g (z.Shape.Groups + z.Shape.Column).toNat) (betw z.Shape.Groups.toNat (liveTo z g (z.Shape.Groups + z.Shape.Column).toNat) g 8) (z.Shape.Groups + z.Shape.Column).toNat (betw z.Shape.Groups.toNat (liveTo z g (z.Shape.Groups + z.Shape.Column).toNat) g 8).length) = sharG z g := rfl
    rw [e3] at hz
    have e4 : (sharG z g).length = (z.Shape.Groups + z.Shape.Column).toNat := putAt_len
    exact ⟨H15.ext, _, _, (by rw [e1, e2, e4]), (by rw [e2, e4]; exact hz)⟩
theorem Tryz_spec_l8Sharers {w : World} {zb : Nat} {z : Wld} {zA9 : Option Addr} {zC9 : Nat} {zA10 : Option Addr} {zC10 : Nat} {zA11 : Option Addr} {zC11 : Nat} {g : Int} (zB : w.heap[zb]? = some (.cells [.int .i64 z.Shape.Groups, .int .i64 z.Shape.Column, .int .i64 z.Shape.Data, .int .i64 z.Shape.Spare, .int .i64 z.Shape.Rows, .int .i64 z.Shape.Cap, .int .i64 z.Shape.Batch, .int .i64 z.Shape.Queue, .int .i64 z.Shape.Stage, .slice zA9 z.Groups.length zC9, .slice zA10 z.On.length zC10, .slice zA11 z.Tapes.length zC11, .int .i64 z.Writes, .int .i64 z.Stop, .bool z.Down].toArray 37)) (zK : z.Ok) (zS9 : Sees w [.slice zA9 z.Groups.length zC9] z.Groups) (zS10 : Sees w [.slice zA10 z.On.length zC10] z.On) (zS11 : Sees w [.slice zA11 z.Tapes.length zC11] z.Tapes) (hs : z.Shape.ok = true) (hG : groupsOK z = true) (hg : ins g 0 (z.Shape.Groups + z.Shape.Column - 1) = true) : Ret Tryz.prog 113 #[.pointer (some ⟨zb, 0, none⟩), .int .i64 g] w fun v w' => Ext No w w' ∧ (∃ A C, v = .tuple #[.slice A (shrL z g).length C, .bool (shrOk z g)] ∧ Res w w' [.slice A (shrL z g).length C] (shrL z g)) := by
 have zK2 := zK
 unfold Wld.Ok Shape.Ok at zK2
 try unfold I64ok at zK2
 try unfold maxLen at zK2
 have zL9 := sees_len zS9
 unfold maxLen at zL9
 obtain ⟨zF9, zO9⟩ := zS9
 have zL10 := sees_len zS10
 unfold maxLen at zL10
 obtain ⟨zF10, zO10⟩ := zS10
 have zL11 := sees_len zS11
 unfold maxLen at zL11
 obtain ⟨zF11, zO11⟩ := zS11
 have sbd := shape_bd hs
 have hgi := ins_iff.1 hg
 refine ret_Q (vs := [.pointer (some ⟨zb, 0, none⟩), .int .i64 g]) Tryz.func113 rfl Tryz.ntmps113 rfl (fun Q hQ hN => ?_)
 have H0 := Sep.start (w := w) (F := [box zb (.cells [.int .i64 z.Shape.Groups, .int .i64 z.Shape.Column, .int .i64 z.Shape.Data, .int .i64 z.Shape.Spare, .int .i64 z.Shape.Rows, .int .i64 z.Shape.Cap, .int .i64 z.Shape.Batch, .int .i64 z.Shape.Queue, .int .i64 z.Shape.Stage, .slice zA9 z.Groups.length zC9, .slice zA10 z.On.length zC10, .slice zA11 z.Tapes.length zC11, .int .i64 z.Writes, .int .i64 z.Stop, .bool z.Down].toArray 37), seen false [.slice zA9 z.Groups.length zC9] z.Groups zF9, seen false [.slice zA10 z.On.length zC10] z.On zF10, seen false [.slice zA11 z.Tapes.length zC11] z.Tapes zF11]) (all_cons (by exact zB) (all_cons zO9 (all_cons zO10 (all_cons zO11 (by simp)))))
 refine W_sr (sV rfl (py_assign rfl) (sV rfl (py_assign rfl) (s_nil (W_sr (s_lit0 (α := Int) (wn rfl) rfl Tryz.underlying25 Tryz_ty2 H0 (fun b1 w1 e1 g1 H1 => ?_))))))
 refine sV rfl (py_assign rfl) (s_nil (W_seq (W_sr (sV rfl (py_assign rfl) (s_nil (W_block (W_loopA (α := Int) (γ := Nat) (fun k => (liveTo z g k)) 0 H1 0 rfl 6 rfl [(0, _), (1, _), (4, _), (5, _)] ⟨rfl, rfl, rfl, rfl, trivial⟩ (fun k => [(7, .int .i64 k)]) (fun k => k ≤ (z.Shape.Groups + z.Shape.Column).toNat ∧ True) (fun k => (z.Shape.Groups + z.Shape.Column).toNat - k) ⟨rfl, trivial⟩ ⟨by omega, trivial⟩ (fun k vA1 fA1 w2 H2 ⟨hk, _⟩ => ?_))))))))
 dsimp only [List.cons_append, List.nil_append, List.set_cons_zero, List.set_cons_succ] at H2 ⊢
 refine W_seq (W_sr (sV rfl (py_move rfl) (sV rfl (py_move rfl) (sV rfl (py_nil rfl) (sV rfl (py_field Tryz.underlying37 rfl Tryz.sizeOf33 rfl rfl) (sV rfl (py_loadS Tryz.underlying33 rfl Tryz.sizeOf33 rfl rfl (At.sub (H2.fbox 0 rfl) 9)) (s_call (wn rfl) rfl rfl (pc_call Tryz.func83 rfl Tryz_nm83 rfl) (Tryz_spec_l5All (by assumption)) (fun v1 w3 r1 => ?_))))))))
 obtain ⟨e2, rfl⟩ := r1
 have H3 := H2.to e2
 refine sV rfl (py_lss rfl rfl) (s_nil (W_ifd rfl (fun c1 => ?_) (fun c1 => ?_)))
 ·refine W_skip (W_seq (W_block (W_seq ?_)))
  obtain ⟨a1, k1, q1⟩ := own_slice (H3.mine 0 rfl)
  cases q1
  have hgk : ins (k : Int) 0 (z.Shape.Groups + z.Shape.Column - 1) = true := ins_iff.2 (by omega)
  have lvl := liveTo_len (z := z) (g := g) k
  refine W_reg (sV rfl (py_move rfl) (sV rfl (py_move rfl) (sV rfl (py_neq rfl rfl) (sV rfl (py_move rfl) (s_case (t := 24) rfl (fun hg1 => ?_) (fun hg1 => ?_))))))
  ·try simp only [decide_eq_true_eq, decide_eq_false_iff_not] at hg1
   refine s_val (wg rfl rfl rfl) rfl rfl (py_move rfl) (s_val (wg rfl rfl rfl) rfl rfl (py_move rfl) (s_call (wg rfl rfl rfl) rfl rfl (pc_call Tryz.func84 rfl Tryz_nm84 rfl) (Tryz_spec_l7Dead (H3.fbox 0 rfl) (by assumption) (H3.sees 1 rfl) (H3.sees 2 rfl) (H3.sees 3 rfl) (by assumption) (by assumption) (by assumption)) (fun v2 w4 r2 => ?_)))
   obtain ⟨e3, rfl⟩ := r2
   have H4 := H3.to e3
   refine s_val (wg rfl rfl rfl) rfl rfl (py_not rfl) (sV rfl (py_pickT rfl rfl) (sV rfl (py_move rfl) (s_case (t := 30) rfl (fun hg2 => ?_) (fun hg2 => ?_))))
   ·try simp only [decide_eq_true_eq, decide_eq_false_iff_not] at hg2
    refine s_val (wg rfl rfl rfl) rfl rfl (py_move rfl) (s_val (wg rfl rfl rfl) rfl rfl (py_len Tryz.underlying25 rfl) (s_val (wg rfl rfl rfl) rfl rfl (py_move rfl) (s_val (wg rfl rfl rfl) rfl rfl (py_nil rfl) (s_val (wg rfl rfl rfl) rfl rfl (py_field Tryz.underlying37 rfl Tryz.sizeOf33 rfl rfl) (s_val (wg rfl rfl rfl) rfl rfl (py_field Tryz.underlying33 rfl Tryz.sizeOf2 rfl rfl) (s_val (wg rfl rfl rfl) rfl rfl (py_load Tryz.underlying2 rfl rfl (cell_atL (H4.fbox 0 rfl) rfl)) (s_val (wg rfl rfl rfl) rfl rfl (py_lss rfl rfl) (sV rfl (py_pickT rfl rfl) (s_nil (W_ifd rfl (fun c2 => ?_) (fun c2 => ?_)))))))))))
    ·refine W_reg (sV rfl (py_move rfl) (sV rfl (py_move rfl) (s_lit1 (wn rfl) rfl Tryz.underlying25 Tryz_ty2 rfl rfl rfl rfl H4 (fun b2 w5 e4 g2 H5 => ?_))))
     refine s_app1 (wn rfl) rfl Tryz.underlying25 Tryz_ty2 rfl rfl rfl H5 0 1 rfl rfl (own_bi (by first | assumption | (unfold I64ok; omega))) (by unfold maxLen; omega) (by omega) (fun v3 w6 fp1 H6 => ?_)
     refine sV rfl (py_assign rfl) (s_nil (W_reg (sV rfl (py_move rfl) (sV rfl (py_add rfl rfl (in64 ⟨by omega, by omega⟩)) (sV rfl (py_assign rfl) (s_nil ?_))))))
     exact ⟨(k + 1, _, _), ⟨rfl, rfl, rfl, rfl, rfl, rfl, trivial⟩, ⟨by dsimp only; rw [liveTo_yes (z := z) (g := g) (k := k) ⟨by first | assumption | omega, by simp_all, by omega⟩]; exact (H6.dtake 1), by omega, trivial⟩, by dsimp only; omega⟩
    ·refine W_skip (W_reg (sV rfl (py_move rfl) (sV rfl (py_add rfl rfl (in64 ⟨by omega, by omega⟩)) (sV rfl (py_assign rfl) (s_nil ?_)))))
     exact ⟨(k + 1, _, _), ⟨rfl, rfl, rfl, rfl, rfl, rfl, trivial⟩, ⟨by dsimp only; rw [liveTo_no (z := z) (g := g) (k := k) (fun hh => by obtain ⟨h1, h2, h3⟩ := hh; first | omega | (simp_all; done) | (simp_all; omega))]; exact H4, by omega, trivial⟩, by dsimp only; omega⟩
   ·try simp only [decide_eq_true_eq, decide_eq_false_iff_not] at hg2
    refine s_skip (wog (b := false) rfl rfl rfl) rfl rfl (s_skip (wog (b := false) rfl rfl rfl) rfl rfl (s_skip (wog (b := false) rfl rfl rfl) rfl rfl (s_skip (wog (b := false) rfl rfl rfl) rfl rfl (s_skip (wog (b := false) rfl rfl rfl) rfl rfl (s_skip (wog (b := false) rfl rfl rfl) rfl rfl (s_skip (wog (b := false) rfl rfl rfl) rfl rfl (s_skip (wog (b := false) rfl rfl rfl) rfl rfl (sV rfl (py_pickF rfl rfl) (s_nil (W_iff rfl (W_skip (W_reg (sV rfl (py_move rfl) (sV rfl (py_add rfl rfl (in64 ⟨by omega, by omega⟩)) (sV rfl (py_assign rfl) (s_nil ?_))))))))))))))))
    exact ⟨(k + 1, _, _), ⟨rfl, rfl, rfl, rfl, rfl, rfl, trivial⟩, ⟨by dsimp only; rw [liveTo_no (z := z) (g := g) (k := k) (fun hh => by obtain ⟨h1, h2, h3⟩ := hh; first | omega | (simp_all; done) | (simp_all; omega))]; exact H4, by omega, trivial⟩, by dsimp only; omega⟩
  ·try simp only [decide_eq_true_eq, decide_eq_false_iff_not] at hg1
   refine s_skip (wog (b := false) rfl rfl rfl) rfl rfl (s_skip (wog (b := false) rfl rfl rfl) rfl rfl (s_skip (wog (b := false) rfl rfl rfl) rfl rfl (s_skip (wog (b := false) rfl rfl rfl) rfl rfl (sV rfl (py_pickF rfl rfl) (sV rfl (py_move rfl) (s_skip (wog (b := false) rfl rfl rfl) rfl rfl (s_skip (wog (b := false) rfl rfl rfl) rfl rfl (s_skip (wog (b := false) rfl rfl rfl) rfl rfl (s_skip (wog (b := false) rfl rfl rfl) rfl rfl (s_skip (wog (b := false) rfl rfl rfl) rfl rfl (s_skip (wog (b := false) rfl rfl rfl) rfl rfl (s_skip (wog (b := false) rfl rfl rfl) rfl rfl (s_skip (wog (b := false) rfl rfl rfl) rfl rfl (sV rfl (py_pickF rfl rfl) (s_nil (W_iff rfl (W_skip (W_reg (sV rfl (py_move rfl) (sV rfl (py_add rfl rfl (in64 ⟨by omega, by omega⟩)) (sV rfl (py_assign rfl) (s_nil ?_))))))))))))))))))))))
   exact ⟨(k + 1, _, _), ⟨rfl, rfl, rfl, rfl, rfl, rfl, trivial⟩, ⟨by dsimp only; rw [liveTo_no (z := z) (g := g) (k := k) (fun hh => by obtain ⟨h1, h2, h3⟩ := hh; first | omega | (simp_all; done) | (simp_all; omega))]; exact H3, by omega, trivial⟩, by dsimp only; omega⟩
 ·refine W_exit (W_seq (W_seq ?_))
  obtain rfl : k = (z.Shape.Groups + z.Shape.Column).toNat := by omega
  obtain ⟨a2, k2, q2⟩ := own_slice (H3.mine 0 rfl)
  cases q2
  have lvl := liveTo_len (z := z) (g := g) (z.Shape.Groups + z.Shape.Column).toNat
  have lvc := liveTo_cap (z := z) (g := g) (by omega) (z.Shape.Groups + z.Shape.Column).toNat
  refine W_reg (sV rfl (py_move rfl) (sV rfl (py_len Tryz.underlying25 rfl) (sV rfl (py_move rfl) (sV rfl (py_nil rfl) (sV rfl (py_field Tryz.underlying37 rfl Tryz.sizeOf33 rfl rfl) (sV rfl (py_field Tryz.underlying33 rfl Tryz.sizeOf2 rfl rfl) (sV rfl (py_load Tryz.underlying2 rfl rfl (cell_atL (H3.fbox 0 rfl) rfl)) (sV rfl (py_lss rfl rfl) (s_nil (W_ifd rfl (fun c3 => ?_) (fun c3 => ?_)))))))))))
  ·refine W_sr (sV rfl (py_assign rfl) (sV rfl (py_assign rfl) (s_nil (W_ret (hQ _ _ (fin2 Tryz.results113 rfl rfl ?_))))))
   obtain ⟨e1, e2⟩ := shr_no (z := z) (g := g) (by show ¬ (((liveTo z g (z.Shape.Groups + z.Shape.Column).toNat).length : Nat) : Int) = _; omega)
   exact ⟨H3.ext, none, 0, (by rw [e1, e2]; rfl), (by rw [e2]; exact ⟨[], .inr (.inl ⟨rfl, rfl, rfl⟩), .nil, by simp⟩)⟩
  ·refine W_skip (W_seq ?_)
   have hlq : (liveTo z g (z.Shape.Groups + z.Shape.Column).toNat).length = z.Shape.Groups.toNat := by omega
   have hlr : ∀ i, i < z.Shape.Groups.toNat → 0 ≤ (liveTo z g (z.Shape.Groups + z.Shape.Column).toNat).getD i 0 ∧ (liveTo z g (z.Shape.Groups + z.Shape.Column).toNat).getD i 0 ≤ 500 := fun i hi => by have := liveTo_ge (z := z) (g := g) (z.Shape.Groups + z.Shape.Column).toNat i (by omega); omega
   have bwl := betw_len (n := z.Shape.Groups.toNat) (h := (liveTo z g (z.Shape.Groups + z.Shape.Column).toNat)) (x := g) (b := 8)
   refine W_reg (sV rfl (py_move rfl) (sV rfl (py_nil rfl) (sV rfl (py_field Tryz.underlying37 rfl Tryz.sizeOf33 rfl rfl) (sV rfl (py_field Tryz.underlying33 rfl Tryz.sizeOf2 rfl rfl) (sV rfl (py_load Tryz.underlying2 rfl rfl (cell_atL (H3.fbox 0 rfl) rfl)) (sV rfl (py_move rfl) (sV rfl (py_move rfl) (s_call (wn rfl) rfl rfl (pc_call Tryz.func189 rfl Tryz_nm189 rfl) (by have hS : Sees _ [.slice a2 (liveTo z g (z.Shape.Groups + z.Shape.Column).toNat).length k2] (liveTo z g (z.Shape.Groups + z.Shape.Column).toNat) := ⟨_, own_weak (H3.mine 0 rfl)⟩; have lc := Tryz_spec_l3Share (n := z.Shape.Groups.toNat) (p := g) hS hlq (by omega) hlr (by omega); rw [Int.toNat_of_nonneg (show 0 ≤ z.Shape.Groups by omega)] at lc; exact lc) (fun v4 w7 r3 => ?_)))))))))
   obtain ⟨e5, r3⟩ := r3
   obtain ⟨fp2, H7⟩ := H3.res e5 r3
   obtain ⟨a3, k3, q3⟩ := own_slice (H7.mine 1 rfl)
   cases q3
   refine sV rfl (py_assign rfl) (s_nil (W_sr (sV rfl (py_move rfl) (sV rfl (py_nil rfl) (sV rfl (py_field Tryz.underlying37 rfl Tryz.sizeOf33 rfl rfl) (sV rfl (py_loadS Tryz.underlying33 rfl Tryz.sizeOf33 rfl rfl (At.sub (H7.fbox 0 rfl) 9)) (s_call (wn rfl) rfl rfl (pc_call Tryz.func83 rfl Tryz_nm83 rfl) (Tryz_spec_l5All_n (by assumption)) (fun v5 w8 r4 => ?_))))))))
   obtain ⟨e6, rfl⟩ := r4
   have H8 := H7.to e6
   refine s_make (wn rfl) rfl Tryz.underlying61 Tryz_ty5 own_z8 rfl (by omega) (by unfold maxLen; omega) H8 (fun b3 w9 e7 g3 H9 => ?_)
   refine sV rfl (py_assign rfl) (s_nil (W_seq (W_sr (sV rfl (py_assign rfl) (s_nil (W_block (W_loop (γ := Nat × List Nat) (fun (k, f) => [(6, .slice a2 (liveTo z g (z.Shape.Groups + z.Shape.Column).toNat).length k2), (9, .slice (some ⟨b3, 0, none⟩) (z.Shape.Groups + z.Shape.Column).toNat (z.Shape.Groups + z.Shape.Column).toNat), (8, .slice a3 (padL (betw z.Shape.Groups.toNat (liveTo z g (z.Shape.Groups + z.Shape.Column).toNat) g 8) z.Shape.Groups.toNat).length k3), (10, .int .i64 k)]) (fun (k, f) w' => Sep No w [mine [.slice a2 (liveTo z g (z.Shape.Groups + z.Shape.Column).toNat).length k2] (liveTo z g (z.Shape.Groups + z.Shape.Column).toNat) fA1, mine [.slice a3 (padL (betw z.Shape.Groups.toNat (liveTo z g (z.Shape.Groups + z.Shape.Column).toNat) g 8) z.Shape.Groups.toNat).length k3] (padL (betw z.Shape.Groups.toNat (liveTo z g (z.Shape.Groups + z.Shape.Column).toNat) g 8) z.Shape.Groups.toNat) fp2, mine [.slice (some ⟨b3, 0, none⟩) (z.Shape.Groups + z.Shape.Column).toNat (z.Shape.Groups + z.Shape.Column).toNat] (putAt (liveTo z g (z.Shape.Groups + z.Shape.Column).toNat) (betw z.Shape.Groups.toNat (liveTo z g (z.Shape.Groups + z.Shape.Column).toNat) g 8) (z.Shape.Groups + z.Shape.Column).toNat k) f] [box zb (.cells [.int .i64 z.Shape.Groups, .int .i64 z.Shape.Column, .int .i64 z.Shape.Data, .int .i64 z.Shape.Spare, .int .i64 z.Shape.Rows, .int .i64 z.Shape.Cap, .int .i64 z.Shape.Batch, .int .i64 z.Shape.Queue, .int .i64 z.Shape.Stage, .slice zA9 z.Groups.length zC9, .slice zA10 z.On.length zC10, .slice zA11 z.Tapes.length zC11, .int .i64 z.Writes, .int .i64 z.Stop, .bool z.Down].toArray 37), seen false [.slice zA9 z.Groups.length zC9] z.Groups zF9, seen false [.slice zA10 z.On.length zC10] z.On zF10, seen false [.slice zA11 z.Tapes.length zC11] z.Tapes zF11] w' ∧ k ≤ (liveTo z g (z.Shape.Groups + z.Shape.Column).toNat).length) (fun (k, f) => (liveTo z g (z.Shape.Groups + z.Shape.Column).toNat).length - k) (0, _) ⟨rfl, rfl, rfl, rfl, trivial⟩ ⟨by rw [putAt_zero]; exact H9, by omega⟩ (fun (k, f) w10 H10 => ?_))))))))
   obtain ⟨H10, hk2⟩ := H10
   refine W_seq (W_sr (sV rfl (py_move rfl) (sV rfl (py_move rfl) (sV rfl (py_len Tryz.underlying25 rfl) (sV rfl (py_lss rfl rfl) (s_nil (W_ifd rfl (fun c4 => ?_) (fun c4 => ?_))))))))
   ·refine W_skip (W_seq (W_block ?_))
    have hlk := hlr k (by omega)
    have hlg := liveTo_ge (z := z) (g := g) (z.Shape.Groups + z.Shape.Column).toNat k (by omega)
    have pl := padL_len (ws := (betw z.Shape.Groups.toNat (liveTo z g (z.Shape.Groups + z.Shape.Column).toNat) g 8)) (m := z.Shape.Groups.toNat) bwl
    have pg := padL_get (ws := (betw z.Shape.Groups.toNat (liveTo z g (z.Shape.Groups + z.Shape.Column).toNat) g 8)) (m := z.Shape.Groups.toNat) (i := k)
    obtain ⟨eb1, eo1, ee1, ec1⟩ := elem_int (H10.mine 0 rfl) k (by omega)
    obtain ⟨eb2, eo2, ee2, ec2⟩ := elem_u8 (H10.mine 1 rfl) k (by omega)
    obtain ⟨eb3, eo3, ee3, ec3⟩ := elem_u8 (H10.mine 2 rfl) ((liveTo z g (z.Shape.Groups + z.Shape.Column).toNat).getD k 0).toNat (by rw [putAt_len]; omega)
    refine W_drw (S := Ext No _) [(0, true), (1, true), (2, true), (3, true), (4, true), (5, true), (6, true), (7, true), (8, true), (9, true), (10, false)] (by kernel_rfl) (by kernel_rfl) (by kernel_rfl) rfl (fun _ => Ext.refl.drawn _) (fun q4 => ?_)
    have H11 := H10.drawn q4
    refine dV rfl rfl (fun zw hx => py_move rfl) (dV rfl rfl (fun zw hx => py_move rfl) (dV rfl rfl (fun zw hx => py_move rfl) (dV rfl rfl (fun zw hx => py_elz Tryz.underlying25 Tryz.sizeOf2 rfl rfl ee1 k (by omega) (by omega)) (dV rfl rfl (fun zw hx => py_load Tryz.underlying2 rfl rfl (hx.cell ec1)) (dV rfl rfl (fun zw hx => py_move rfl) (dV rfl rfl (fun zw hx => py_move rfl) (dV rfl rfl (fun zw hx => py_elz Tryz.underlying61 Tryz.sizeOf5 rfl rfl ee2 k (by omega) (by omega)) (dV rfl rfl (fun zw hx => py_load Tryz.underlying5 rfl rfl (hx.cell ec2)) (dV rfl rfl (fun zw hx => py_elz Tryz.underlying61 Tryz.sizeOf5 rfl rfl ee3 ((liveTo z g (z.Shape.Groups + z.Shape.Column).toNat).getD k 0).toNat (by omega) (by omega)) (d_elst rfl (wn rfl) Tryz.sizeOf5 rfl H11 2 rfl ((liveTo z g (z.Shape.Groups + z.Shape.Column).toNat).getD k 0).toNat (by rw [putAt_len]; omega) rfl ee3 rfl own_b8 (fun _ _ _ hr => absurd rfl hr) (fun w11 fp3 e8 H12 => ?_)))))))))))
    refine d_nil (W_reg (sV rfl (py_move rfl) (sV rfl (py_add rfl rfl (in64 ⟨by omega, by omega⟩)) (sV rfl (py_assign rfl) (s_nil ?_)))))
    have hz := H12
    rw [pg, show (putAt (liveTo z g (z.Shape.Groups + z.Shape.Column).toNat) (betw z.Shape.Groups.toNat (liveTo z g (z.Shape.Groups + z.Shape.Column).toNat) g 8) (z.Shape.Groups + z.Shape.Column).toNat k).set ((liveTo z g (z.Shape.Groups + z.Shape.Column).toNat).getD k 0).toNat ((betw z.Shape.Groups.toNat (liveTo z g (z.Shape.Groups + z.Shape.Column).toNat) g 8).getD k 0) = putAt (liveTo z g (z.Shape.Groups + z.Shape.Column).toNat) (betw z.Shape.Groups.toNat (liveTo z g (z.Shape.Groups + z.Shape.Column).toNat) g 8) (z.Shape.Groups + z.Shape.Column).toNat (k + 1) from rfl] at hz
    refine ⟨(k + 1, _), ⟨rfl, rfl, rfl, rfl, trivial⟩, ⟨hz, by omega⟩, by dsimp only; omega⟩
   ·refine W_exit (W_sr (sV rfl (py_move rfl) (sV rfl (py_assign rfl) (sV rfl (py_assign rfl) (s_nil (W_ret (hQ _ _ (fin2 Tryz.results113 rfl rfl ?_))))))))
    obtain rfl : k = (liveTo z g (z.Shape.Groups + z.Shape.Column).toNat).length := by omega
    obtain ⟨e1, e2⟩ := shr_yes (z := z) (g := g) (by show (((liveTo z g (z.Shape.Groups + z.Shape.Column).toNat).length : Nat) : Int) = _; omega)
    have hz := H10.out 2 rfl
    have e3 : (putAt (liveTo z g (z.Shape.Groups + z.Shape.Column).toNat) (betw z.Shape.Groups.toNat (liveTo z g (z.Shape.Groups + z.Shape.Column).toNat) g 8) (z.Shape.Groups + z.Shape.Column).toNat (liveTo z g (z.Shape.Groups + z.Shape.Column).toNat).length) = sharG z g := sharG_pad (by show (((liveTo z g (z.Shape.Groups + z.Shape.Column).toNat).length : Nat) : Int) = _; omega)
    rw [e3] at hz
    have e4 : (sharG z g).length = (z.Shape.Groups + z.Shape.Column).toNat := putAt_len
    exact ⟨H10.ext, _, _, (by rw [e1, e2, e4]), (by rw [e2, e4]; exact hz)⟩
theorem Tryz_impl_SharersOf {w : World} {z : Wld} {zA9 : Option Addr} {zC9 : Nat} {zA10 : Option Addr} {zC10 : Nat} {zA11 : Option Addr} {zC11 : Nat} {g : Int} (zK : z.Ok) (zS9 : Sees w [.slice zA9 z.Groups.length zC9] z.Groups) (zS10 : Sees w [.slice zA10 z.On.length zC10] z.On) (zS11 : Sees w [.slice zA11 z.Tapes.length zC11] z.Tapes) : Ret Tryz.prog 46 #[z.val zA9 zC9 zA10 zC10 zA11 zC11, .int .i64 g] w fun v w' => Ext No w w' ∧ (∃ A1 C1, v = (sharersOf z g).val A1 C1 ∧ Res w w' [.int .i64 (sharersOf z g).Code, .slice A1 (sharersOf z g).Bytes.length C1] (sharersOf z g)) := by
 have zK2 := zK
 unfold Wld.Ok Shape.Ok at zK2
 try unfold I64ok at zK2
 try unfold maxLen at zK2
 have zL9 := sees_len zS9
 unfold maxLen at zL9
 obtain ⟨zF9, zO9⟩ := zS9
 have zL10 := sees_len zS10
 unfold maxLen at zL10
 obtain ⟨zF10, zO10⟩ := zS10
 have zL11 := sees_len zS11
 unfold maxLen at zL11
 obtain ⟨zF11, zO11⟩ := zS11
 refine ret_Q (vs := [z.val zA9 zC9 zA10 zC10 zA11 zC11, .int .i64 g]) Tryz.func46 rfl Tryz.ntmps46 rfl (fun Q hQ hN => ?_)
 have H0 := Sep.start (w := w) (F := [seen false [.slice zA9 z.Groups.length zC9] z.Groups zF9, seen false [.slice zA10 z.On.length zC10] z.On zF10, seen false [.slice zA11 z.Tapes.length zC11] z.Tapes zF11]) (all_cons zO9 (all_cons zO10 (all_cons zO11 (by simp))))
 refine W_sr (s_box (wn rfl) rfl rfl H0 (fun b1 w1 e1 g1 H1 => ?_))
 refine s_var (wn rfl) rfl Tryz.zeroValue72 H1 (fun b2 w2 e2 g2 H2 => ?_)
 refine s_nil (W_sr (sV rfl (py_loadS Tryz.underlying37 rfl Tryz.sizeOf37 rfl rfl (At.whole (H2.box 0 rfl))) (s_call (wn rfl) rfl rfl (pc_call Tryz.func85 rfl Tryz_nm85 rfl) (Tryz_impl_WorldFault (by assumption) (H2.sees 0 rfl) (H2.sees 1 rfl) (H2.sees 2 rfl)) (fun v1 w3 r1 => ?_))))
 obtain ⟨e3, rfl⟩ := r1
 have H3 := H2.to e3
 refine sV rfl (py_assign rfl) (s_nil (W_seq (W_block (W_sr (sV rfl (py_move rfl) (sV rfl (py_neq rfl rfl) (sV rfl (py_assign rfl) (s_nil (W_ifd rfl (fun c1 => ?_) (fun c1 => ?_))))))))))
 ·refine W_sr (sV rfl (py_move rfl) (sV rfl (py_buildS Tryz_pl72 rfl rfl) (s_stoS (wn rfl) Tryz.sizeOf72 rfl rfl rfl rfl H3 1 rfl rfl (fun w4 e4 H4 => ?_))))
  dsimp only [List.nil_append, List.cons_append, List.set_cons_zero, List.set_cons_succ, layL] at H4
  refine s_nil (W_ret (hQ _ _ (finC Tryz.results46 rfl (run_loadVarS Tryz.underlying72 rfl Tryz.sizeOf72 rfl (At.whole (H4.box 1 rfl))) ?_)))
  rw [sharers_ask (by rw [ask_world (by omega)]; omega), ask_world (by omega)]
  exact ⟨H4.ext, none, 0, rfl, bytes_nil (by unfold I64ok; have := worldF_cd (z := z); dsimp only; omega)⟩
 ·refine W_seq ?_
  obtain ⟨hs, hG, hO⟩ := worldF_ok (w := z) (by omega)
  refine W_reg (sV rfl (py_field Tryz.underlying37 rfl Tryz.sizeOf33 rfl rfl) (sV rfl (py_loadS Tryz.underlying33 rfl Tryz.sizeOf33 rfl rfl (At.sub (H3.box 0 rfl) 9)) (sV rfl (py_move rfl) (s_call (wn rfl) rfl rfl (pc_call Tryz.func94 rfl Tryz_nm94 rfl) (Tryz_impl_Shape_isGroup (by assumption)) (fun v2 w5 r2 => ?_)))))
  obtain ⟨e5, rfl⟩ := r2
  have H5 := H3.to e5
  refine sV rfl (py_not rfl) (sV rfl (py_assign rfl) (s_nil (W_if rfl (fun c2 => ?_) (fun c2 => ?_))))
  ·refine W_seq ?_
   have aq : askF z g 0 = 3 := ask_place (by omega) (by rw [place_grp hs]; exact not_true c2)
   refine W_reg (sV rfl (py_buildS Tryz_pl72 rfl rfl) (s_stoS (wn rfl) Tryz.sizeOf72 rfl rfl rfl rfl H5 1 rfl rfl (fun w6 e6 H6 => ?_)))
   dsimp only [List.nil_append, List.cons_append, List.set_cons_zero, List.set_cons_succ, layL] at H6
   refine s_nil (W_ret (hQ _ _ (finC Tryz.results46 rfl (run_loadVarS Tryz.underlying72 rfl Tryz.sizeOf72 rfl (At.whole (H6.box 1 rfl))) ?_)))
   rw [sharers_ask (by rw [aq]; omega), aq]
   exact ⟨H6.ext, none, 0, rfl, bytes_nil (by unfold I64ok; have := worldF_cd (z := z); dsimp only; omega)⟩
  ·refine W_skip (W_seq ?_)
   have hg := not_false c2
   have aq : askF z g 0 = 0 := ask_fine (by omega) (by rw [place_grp hs]; exact hg)
   refine W_reg (sV rfl (py_move rfl) (s_call (wn rfl) rfl rfl (pc_call Tryz.func114 rfl Tryz_nm114 rfl) (Tryz_impl_World_sharers (H5.box 0 rfl) (by assumption) (H5.sees 0 rfl) (H5.sees 1 rfl) (H5.sees 2 rfl) (by assumption) (by assumption) (by assumption)) (fun v3 w7 r3 => ?_)))
   obtain ⟨e7, sa1, sk1, rfl, r3⟩ := r3
   obtain ⟨fp1, H7⟩ := H5.res e7 r3
   refine sV rfl (py_move rfl) (sV rfl (py_extr rfl rfl) (sV rfl (py_extr rfl rfl) (sV rfl (py_assign rfl) (sV rfl (py_assign rfl) (s_nil (W_seq (W_sr (sV rfl (py_move rfl) (sV rfl (py_not rfl) (s_nil (W_if rfl (fun c3 => ?_) (fun c3 => ?_))))))))))))
   ·refine W_sr (sV rfl (py_buildS Tryz_pl72 rfl rfl) (s_stoS (wn rfl) Tryz.sizeOf72 rfl rfl rfl rfl H7 1 rfl rfl (fun w8 e8 H8 => ?_)))
    dsimp only [List.nil_append, List.cons_append, List.set_cons_zero, List.set_cons_succ, layL] at H8
    refine s_nil (W_ret (hQ _ _ (finC Tryz.results46 rfl (run_loadVarS Tryz.underlying72 rfl Tryz.sizeOf72 rfl (At.whole (H8.box 1 rfl))) ?_)))
    rw [sharers_lost aq (by simp_all)]
    exact ⟨H8.ext, none, 0, rfl, bytes_nil (by unfold I64ok; dsimp only; omega)⟩
   ·refine W_skip (W_sr (sV rfl (py_move rfl) (sV rfl (py_buildS Tryz_pl72 rfl rfl) (s_stoS (wn rfl) Tryz.sizeOf72 rfl rfl rfl rfl H7 1 rfl rfl (fun w9 e9 H9 => ?_)))))
    dsimp only [List.nil_append, List.cons_append, List.set_cons_zero, List.set_cons_succ, layL] at H9
    refine s_nil (W_ret (hQ _ _ (finC Tryz.results46 rfl (run_loadVarS Tryz.underlying72 rfl Tryz.sizeOf72 rfl (At.whole (H9.box 1 rfl))) ?_)))
    rw [sharers_yes aq (by simp_all)]
    exact ⟨H9.ext, _, _, rfl, BytesResult.out (x := ⟨0, shrL z g⟩) (H9.sub (.cons _ (.cons _ (.cons_cons _ List.Sublist.slnil)))) (by show I64ok 0; unfold I64ok; omega)⟩
theorem Tryz_spec_SharersOf {w : World} {z : Wld} {zA9 : Option Addr} {zC9 : Nat} {zA10 : Option Addr} {zC10 : Nat} {zA11 : Option Addr} {zC11 : Nat} {g : Int} (zK : z.Ok) (zS9 : Sees w [.slice zA9 z.Groups.length zC9] z.Groups) (zS10 : Sees w [.slice zA10 z.On.length zC10] z.On) (zS11 : Sees w [.slice zA11 z.Tapes.length zC11] z.Tapes) : Ret Tryz.prog 45 #[z.val zA9 zC9 zA10 zC10 zA11 zC11, .int .i64 g] w fun v w' => Ext No w w' ∧ (∃ A1 C1, v = (sharersOf z g).val A1 C1 ∧ Res w w' [.int .i64 (sharersOf z g).Code, .slice A1 (sharersOf z g).Bytes.length C1] (sharersOf z g)) := by
 have zK2 := zK
 unfold Wld.Ok Shape.Ok at zK2
 try unfold I64ok at zK2
 try unfold maxLen at zK2
 have zL9 := sees_len zS9
 unfold maxLen at zL9
 obtain ⟨zF9, zO9⟩ := zS9
 have zL10 := sees_len zS10
 unfold maxLen at zL10
 obtain ⟨zF10, zO10⟩ := zS10
 have zL11 := sees_len zS11
 unfold maxLen at zL11
 obtain ⟨zF11, zO11⟩ := zS11
 refine ret_Q (vs := [z.val zA9 zC9 zA10 zC10 zA11 zC11, .int .i64 g]) Tryz.func45 rfl Tryz.ntmps45 rfl (fun Q hQ hN => ?_)
 have H0 := Sep.start (w := w) (F := [seen false [.slice zA9 z.Groups.length zC9] z.Groups zF9, seen false [.slice zA10 z.On.length zC10] z.On zF10, seen false [.slice zA11 z.Tapes.length zC11] z.Tapes zF11]) (all_cons zO9 (all_cons zO10 (all_cons zO11 (by simp))))
 refine W_sr (s_box (wn rfl) rfl rfl H0 (fun b1 w1 e1 g1 H1 => ?_))
 refine s_var (wn rfl) rfl Tryz.zeroValue72 H1 (fun b2 w2 e2 g2 H2 => ?_)
 refine s_nil (W_seq (W_sr (sV rfl (py_loadS Tryz.underlying37 rfl Tryz.sizeOf37 rfl rfl (At.whole (H2.box 0 rfl))) (sV rfl (py_move rfl) (s_call (wn rfl) rfl rfl (pc_call Tryz.func92 rfl Tryz_nm92 rfl) (Tryz_spec_l8Asked (by assumption) (H2.sees 0 rfl) (H2.sees 1 rfl) (H2.sees 2 rfl)) (fun v1 w3 r1 => ?_))))))
 obtain ⟨e3, rfl⟩ := r1
 have H3 := H2.to e3
 refine sV rfl (py_assign rfl) (s_nil (W_sr (sV rfl (py_move rfl) (sV rfl (py_neq rfl rfl) (s_nil (W_ifd rfl (fun c1 => ?_) (fun c1 => ?_)))))))
 ·refine W_sr (sV rfl (py_move rfl) (sV rfl (py_buildS Tryz_pl72 rfl rfl) (s_stoS (wn rfl) Tryz.sizeOf72 rfl rfl rfl rfl H3 1 rfl rfl (fun w4 e4 H4 => ?_))))
  dsimp only [List.nil_append, List.cons_append, List.set_cons_zero, List.set_cons_succ, layL] at H4
  refine s_nil (W_ret (hQ _ _ (finC Tryz.results45 rfl (run_loadVarS Tryz.underlying72 rfl Tryz.sizeOf72 rfl (At.whole (H4.box 1 rfl))) ?_)))
  rw [sharers_ask (by omega)]
  exact ⟨H4.ext, none, 0, rfl, bytes_nil (by unfold I64ok; have := askF_cd (z := z) (g := g) (row := 0); dsimp only; omega)⟩
 ·refine W_skip (W_seq ?_)
  have aq : askF z g 0 = 0 := by omega
  obtain ⟨_, hs, hG, hg, _⟩ := askF_ok aq
  refine W_reg (sV rfl (py_move rfl) (s_call (wn rfl) rfl rfl (pc_call Tryz.func113 rfl Tryz_nm113 rfl) (Tryz_spec_l8Sharers (H3.box 0 rfl) (by assumption) (H3.sees 0 rfl) (H3.sees 1 rfl) (H3.sees 2 rfl) (by assumption) (by assumption) (by assumption)) (fun v2 w5 r2 => ?_)))
  obtain ⟨e5, sa1, sk1, rfl, r2⟩ := r2
  obtain ⟨fp1, H5⟩ := H3.res e5 r2
  refine sV rfl (py_move rfl) (sV rfl (py_extr rfl rfl) (sV rfl (py_extr rfl rfl) (sV rfl (py_assign rfl) (sV rfl (py_assign rfl) (s_nil (W_seq (W_sr (sV rfl (py_move rfl) (sV rfl (py_not rfl) (s_nil (W_if rfl (fun c2 => ?_) (fun c2 => ?_))))))))))))
  ·refine W_sr (sV rfl (py_buildS Tryz_pl72 rfl rfl) (s_stoS (wn rfl) Tryz.sizeOf72 rfl rfl rfl rfl H5 1 rfl rfl (fun w6 e6 H6 => ?_)))
   dsimp only [List.nil_append, List.cons_append, List.set_cons_zero, List.set_cons_succ, layL] at H6
   refine s_nil (W_ret (hQ _ _ (finC Tryz.results45 rfl (run_loadVarS Tryz.underlying72 rfl Tryz.sizeOf72 rfl (At.whole (H6.box 1 rfl))) ?_)))
   rw [sharers_lost aq (by simp_all)]
   exact ⟨H6.ext, none, 0, rfl, bytes_nil (by unfold I64ok; dsimp only; omega)⟩
  ·refine W_skip (W_sr (sV rfl (py_move rfl) (sV rfl (py_buildS Tryz_pl72 rfl rfl) (s_stoS (wn rfl) Tryz.sizeOf72 rfl rfl rfl rfl H5 1 rfl rfl (fun w7 e7 H7 => ?_)))))
   dsimp only [List.nil_append, List.cons_append, List.set_cons_zero, List.set_cons_succ, layL] at H7
   refine s_nil (W_ret (hQ _ _ (finC Tryz.results45 rfl (run_loadVarS Tryz.underlying72 rfl Tryz.sizeOf72 rfl (At.whole (H7.box 1 rfl))) ?_)))
   rw [sharers_yes aq (by simp_all)]
   exact ⟨H7.ext, _, _, rfl, BytesResult.out (x := ⟨0, shrL z g⟩) (H7.sub (.cons _ (.cons _ (.cons_cons _ List.Sublist.slnil)))) (by show I64ok 0; unfold I64ok; omega)⟩
end Go.Wk
namespace Go.Wk
open Go.Proofs Rp
set_option maxRecDepth 10000
theorem Tryz_laws_markBlockS {w : World} {xs : List Block} {xsA : Option Addr} {xsC : Nat} {k : Int} {fp : List Nat} (o : own true w [.slice xsA xs.length xsC] xs fp) (nd : fp.Nodup) (hk : 0 ≤ k ∧ k + mkL mkBlock xs ≤ 4611686018427387904) : Ret Tryz.prog 224 #[.slice xsA xs.length xsC, .int .i64 k] w fun v w' => (v = .int .i64 (k + mkL mkBlock xs) ∧ ∃ xs', Mut w w' fp [.slice xsA xs.length xsC] xs' ∧ (xs'.length = xs.length ∧ mkL mkBlock xs' = mkL mkBlock xs ∧ MkL MkBlock mkBlock xs' k)) := by
 have len := own_len_le o
 unfold maxLen at len
 refine ret_Q (vs := [.slice xsA xs.length xsC, .int .i64 k]) Tryz.func224 rfl Tryz.ntmps224 rfl (fun Q hQ hN => ?_)
 have H0 := Sep.begin o nd
 refine W_sr (sV rfl (py_assign rfl) (s_nil (W_seq (W_sr (sV rfl (py_assign rfl) (s_nil (W_block (W_loop (γ := Nat × List Block × List Nat) (fun (i, ys, f) => [(0, .slice xsA xs.length xsC), (1, .int .i64 (k + sumN (fun i => mkBlock (xs.getD i default)) i)), (5, .int .i64 i)]) (fun (i, ys, f) w' => Sep (· ∈ fp) w [mine [.slice xsA xs.length xsC] ys f] [] w' ∧ MkInv MkBlock mkBlock xs k i ys ∧ True) (fun (i, ys, f) => xs.length - i) (0, xs, fp) ⟨rfl, eqI (by simp [sumN]), rfl, trivial⟩ ⟨H0, mk_begin, trivial⟩ (fun (i, ys, f) w1 H1 => ?_)))))))))
 obtain ⟨H1, hI, _⟩ := H1
 refine W_seq (W_seq ?_)
 have hiB := hI.1
 have hys := hI.2.1
 refine W_reg (sV rfl (py_move rfl) (sV rfl (py_move rfl) (sV rfl (py_len Tryz.underlying148 rfl) (sV rfl (py_lss rfl rfl) (s_nil (W_ifd rfl (fun c1 => ?_) (fun c1 => ?_)))))))
 ·refine W_skip (W_seq (W_block (W_seq ?_)))
  have hiL : i < xs.length := by omega
  have hat := mk_at hI
  obtain ⟨sg, sl⟩ := mkL_at (c := mkBlock) hiL
  have hci : mkBlock (ys.getD i default) = mkBlock (xs.getD i default) := hI.2.2.1 i
  have hcu : mkBlock (ys.getD i default) = 1 + (ys.getD i default).Bytes.length := rfl
  obtain ⟨eb1, eo1, eT1, eF1, eG1, ea1, ek1, eg1, ee1, eK1, eH1⟩ := Block.focus H1 0 rfl i (by omega)
  have eK1U := eK1
  unfold Block.Ok at eK1U
  try unfold I64ok at eK1U
  try unfold maxLen at eK1U
  try dsimp only [List.nil_append, List.cons_append, List.set_cons_zero, List.set_cons_succ] at eH1
  refine W_reg (sV rfl (py_move rfl) (sV rfl (py_move rfl) (sV rfl (py_move rfl) (sV rfl (py_elz Tryz.underlying148 Tryz.sizeOf152 rfl rfl ee1 i (by omega) (by omega)) (sV rfl (py_field Tryz.underlying152 rfl Tryz.sizeOf2 rfl rfl) (s_hsto (wn rfl) Tryz.sizeOf2 eH1 0 0 rfl rfl rfl rfl rfl (fun w2 H2 => ?_)))))))
  dsimp only [List.nil_append, List.cons_append, List.set_cons_zero, List.set_cons_succ, layL] at H2
  refine s_nil (W_sr (sV rfl (py_move rfl) (sV rfl (py_add rfl rfl (in64 ⟨by omega, by omega⟩)) (sV rfl (py_assign rfl) (s_nil (W_reg (sV rfl (py_move rfl) (sV rfl (py_move rfl) (sV rfl (py_elz Tryz.underlying148 Tryz.sizeOf152 rfl rfl ee1 i (by omega) (by omega)) (sV rfl (py_field Tryz.underlying152 rfl Tryz.sizeOf61 rfl rfl) (sV rfl (py_load Tryz.underlying61 rfl rfl (at_cell (H2.holAt 0 rfl) 1 rfl)) (sV rfl (py_move rfl) (s_call (wn rfl) rfl rfl (pc_call Tryz.func56 rfl Tryz_nm56 rfl) (Tryz_laws_markByteS (H2.mine 2 rfl) (H2.nodup1 (i := 2) rfl) (by constructor <;> omega)) (fun v1 w3 r1 => ?_))))))))))))))
  obtain ⟨rfl, mx1, mm1, ml1, mk1⟩ := r1
  obtain ⟨fp1, H3⟩ := H2.mut 2 rfl mm1
  try dsimp only [List.nil_append, List.cons_append, List.set_cons_zero, List.set_cons_succ] at H3
  refine sV rfl (py_assign rfl) (s_nil (W_reg (sV rfl (py_move rfl) (sV rfl (py_add rfl rfl (in64 ⟨by omega, by omega⟩)) (sV rfl (py_assign rfl) (s_nil ?_))))))
  have okz : (⟨(k + sumN (fun i => mkBlock (xs.getD i default)) i), mx1⟩ : Block).Ok := by unfold Block.Ok I64ok; dsimp only; omega
  obtain ⟨fp2, H4⟩ := Block.fill H3 0 2 rfl rfl rfl okz
  try dsimp only [List.nil_append, List.cons_append, List.set_cons_zero, List.set_cons_succ] at H4
  refine ⟨(i + 1, _, _), ⟨rfl, eqI (by omega), rfl, trivial⟩, ⟨(H4.dtake 1), mk_step hI hiL (by rw [← hci]; unfold mkBlock; dsimp only; omega) ⟨rfl, mk1⟩, trivial⟩, by dsimp only; omega⟩
 ·refine W_exit (W_sr (sV rfl (py_move rfl) (sV rfl (py_assign rfl) (s_nil (W_ret (hQ _ _ (fin1 Tryz.results224 rfl ?_)))))))
  obtain rfl : i = xs.length := by omega
  exact ⟨rfl, _, H1.done, mk_end hI⟩
theorem Tryz_laws_markDriveS {w : World} {xs : List Drive} {xsA : Option Addr} {xsC : Nat} {k : Int} {fp : List Nat} (o : own true w [.slice xsA xs.length xsC] xs fp) (nd : fp.Nodup) (hk : 0 ≤ k ∧ k + mkL mkDrive xs ≤ 4611686018427387904) : Ret Tryz.prog 156 #[.slice xsA xs.length xsC, .int .i64 k] w fun v w' => (v = .int .i64 (k + mkL mkDrive xs) ∧ ∃ xs', Mut w w' fp [.slice xsA xs.length xsC] xs' ∧ (xs'.length = xs.length ∧ mkL mkDrive xs' = mkL mkDrive xs ∧ MkL MkDrive mkDrive xs' k)) := by
 have len := own_len_le o
 unfold maxLen at len
 refine ret_Q (vs := [.slice xsA xs.length xsC, .int .i64 k]) Tryz.func156 rfl Tryz.ntmps156 rfl (fun Q hQ hN => ?_)
 have H0 := Sep.begin o nd
 refine W_sr (sV rfl (py_assign rfl) (s_nil (W_seq (W_sr (sV rfl (py_assign rfl) (s_nil (W_block (W_loop (γ := Nat × List Drive × List Nat) (fun (i, ys, f) => [(0, .slice xsA xs.length xsC), (1, .int .i64 (k + sumN (fun i => mkDrive (xs.getD i default)) i)), (5, .int .i64 i)]) (fun (i, ys, f) w' => Sep (· ∈ fp) w [mine [.slice xsA xs.length xsC] ys f] [] w' ∧ MkInv MkDrive mkDrive xs k i ys ∧ True) (fun (i, ys, f) => xs.length - i) (0, xs, fp) ⟨rfl, eqI (by simp [sumN]), rfl, trivial⟩ ⟨H0, mk_begin, trivial⟩ (fun (i, ys, f) w1 H1 => ?_)))))))))
 obtain ⟨H1, hI, _⟩ := H1
 refine W_seq (W_seq ?_)
 have hiB := hI.1
 have hys := hI.2.1
 refine W_reg (sV rfl (py_move rfl) (sV rfl (py_move rfl) (sV rfl (py_len Tryz.underlying147 rfl) (sV rfl (py_lss rfl rfl) (s_nil (W_ifd rfl (fun c1 => ?_) (fun c1 => ?_)))))))
 ·refine W_skip (W_seq (W_block (W_seq ?_)))
  have hiL : i < xs.length := by omega
  have hat := mk_at hI
  obtain ⟨sg, sl⟩ := mkL_at (c := mkDrive) hiL
  have hci : mkDrive (ys.getD i default) = mkDrive (xs.getD i default) := hI.2.2.1 i
  have hcu : mkDrive (ys.getD i default) = 1 + mkL mkBlock (ys.getD i default).Blocks := rfl
  obtain ⟨eb1, eo1, eT1, eF1, eG1, ea1, ek1, eg1, ee1, eK1, eH1⟩ := Drive.focus H1 0 rfl i (by omega)
  have eK1U := eK1
  unfold Drive.Ok at eK1U
  try unfold I64ok at eK1U
  try unfold maxLen at eK1U
  try dsimp only [List.nil_append, List.cons_append, List.set_cons_zero, List.set_cons_succ] at eH1
  refine W_reg (sV rfl (py_move rfl) (sV rfl (py_move rfl) (sV rfl (py_move rfl) (sV rfl (py_rem rfl rfl (by omega)) (sV rfl (py_eql rfl rfl) (sV rfl (py_elz Tryz.underlying147 Tryz.sizeOf150 rfl rfl ee1 i (by omega) (by omega)) (sV rfl (py_field Tryz.underlying150 rfl Tryz.sizeOf4 rfl rfl) (s_hsto (wn rfl) Tryz.sizeOf4 eH1 0 0 rfl rfl rfl rfl rfl (fun w2 H2 => ?_)))))))))
  dsimp only [List.nil_append, List.cons_append, List.set_cons_zero, List.set_cons_succ, layL] at H2
  refine s_nil (W_sr (sV rfl (py_move rfl) (sV rfl (py_add rfl rfl (in64 ⟨by omega, by omega⟩)) (sV rfl (py_assign rfl) (s_nil (W_reg (sV rfl (py_move rfl) (sV rfl (py_move rfl) (sV rfl (py_elz Tryz.underlying147 Tryz.sizeOf150 rfl rfl ee1 i (by omega) (by omega)) (sV rfl (py_field Tryz.underlying150 rfl Tryz.sizeOf148 rfl rfl) (sV rfl (py_load Tryz.underlying148 rfl rfl (at_cell (H2.holAt 0 rfl) 1 rfl)) (sV rfl (py_move rfl) (s_call (wn rfl) rfl rfl (pc_call Tryz.func224 rfl Tryz_nm224 rfl) (Tryz_laws_markBlockS (H2.mine 2 rfl) (H2.nodup1 (i := 2) rfl) (by constructor <;> omega)) (fun v1 w3 r1 => ?_))))))))))))))
  obtain ⟨rfl, mx1, mm1, ml1⟩ := r1
  obtain ⟨fp1, H3⟩ := H2.mut 2 rfl mm1
  try dsimp only [List.nil_append, List.cons_append, List.set_cons_zero, List.set_cons_succ] at H3
  refine sV rfl (py_assign rfl) (s_nil (W_reg (sV rfl (py_move rfl) (sV rfl (py_add rfl rfl (in64 ⟨by omega, by omega⟩)) (sV rfl (py_assign rfl) (s_nil ?_))))))
  have okz : (⟨decide ((k + sumN (fun i => mkDrive (xs.getD i default)) i).tmod 3 = 0), mx1⟩ : Drive).Ok := trivial
  obtain ⟨fp2, H4⟩ := Drive.fill H3 0 2 rfl rfl rfl okz
  try dsimp only [List.nil_append, List.cons_append, List.set_cons_zero, List.set_cons_succ] at H4
  refine ⟨(i + 1, _, _), ⟨rfl, eqI (by omega), rfl, trivial⟩, ⟨(H4.dtake 1), mk_step hI hiL (by rw [← hci]; unfold mkDrive; dsimp only; rw [ml1.2.1]) ⟨rfl, ml1.2.2⟩, trivial⟩, by dsimp only; omega⟩
 ·refine W_exit (W_sr (sV rfl (py_move rfl) (sV rfl (py_assign rfl) (s_nil (W_ret (hQ _ _ (fin1 Tryz.results156 rfl ?_)))))))
  obtain rfl : i = xs.length := by omega
  exact ⟨rfl, _, H1.done, mk_end hI⟩
theorem Tryz_laws_markDriveSS {w : World} {xs : List (List Drive)} {xsA : Option Addr} {xsC : Nat} {k : Int} {fp : List Nat} (o : own true w [.slice xsA xs.length xsC] xs fp) (nd : fp.Nodup) (hk : 0 ≤ k ∧ k + mkL (mkL mkDrive) xs ≤ 4611686018427387904) : Ret Tryz.prog 88 #[.slice xsA xs.length xsC, .int .i64 k] w fun v w' => (v = .int .i64 (k + mkL (mkL mkDrive) xs) ∧ ∃ xs', Mut w w' fp [.slice xsA xs.length xsC] xs' ∧ (xs'.length = xs.length ∧ mkL (mkL mkDrive) xs' = mkL (mkL mkDrive) xs ∧ MkL (MkL MkDrive mkDrive) (mkL mkDrive) xs' k)) := by
 have len := own_len_le o
 unfold maxLen at len
 refine ret_Q (vs := [.slice xsA xs.length xsC, .int .i64 k]) Tryz.func88 rfl Tryz.ntmps88 rfl (fun Q hQ hN => ?_)
 have H0 := Sep.begin o nd
 refine W_sr (sV rfl (py_assign rfl) (s_nil (W_seq (W_sr (sV rfl (py_assign rfl) (s_nil (W_block (W_loop (γ := Nat × List (List Drive) × List Nat) (fun (i, ys, f) => [(0, .slice xsA xs.length xsC), (1, .int .i64 (k + sumN (fun i => (mkL mkDrive) (xs.getD i default)) i)), (5, .int .i64 i)]) (fun (i, ys, f) w' => Sep (· ∈ fp) w [mine [.slice xsA xs.length xsC] ys f] [] w' ∧ MkInv (MkL MkDrive mkDrive) (mkL mkDrive) xs k i ys ∧ True) (fun (i, ys, f) => xs.length - i) (0, xs, fp) ⟨rfl, eqI (by simp [sumN]), rfl, trivial⟩ ⟨H0, mk_begin, trivial⟩ (fun (i, ys, f) w1 H1 => ?_)))))))))
 obtain ⟨H1, hI, _⟩ := H1
 refine W_seq (W_seq ?_)
 have hiB := hI.1
 have hys := hI.2.1
 refine W_reg (sV rfl (py_move rfl) (sV rfl (py_move rfl) (sV rfl (py_len Tryz.underlying34 rfl) (sV rfl (py_lss rfl rfl) (s_nil (W_ifd rfl (fun c1 => ?_) (fun c1 => ?_)))))))
 ·refine W_skip (W_seq (W_block ?_))
  have hiL : i < xs.length := by omega
  have hat := mk_at hI
  obtain ⟨sg, sl⟩ := mkL_at (c := (mkL mkDrive)) hiL
  have hci : (mkL mkDrive) (ys.getD i default) = (mkL mkDrive) (xs.getD i default) := hI.2.2.1 i
  have hcu : mkL mkDrive (ys.getD i default) = mkL mkDrive (ys.getD i []) := rfl
  obtain ⟨eb1, eo1, eT1, eF1, eG1, ea1, ek1, eg1, ee1, eH1⟩ := H1.focusL 0 rfl i (by omega)
  try dsimp only [List.nil_append, List.cons_append, List.set_cons_zero, List.set_cons_succ] at eH1
  refine W_reg (sV rfl (py_move rfl) (sV rfl (py_move rfl) (sV rfl (py_elz Tryz.underlying34 Tryz.sizeOf147 rfl rfl ee1 i (by omega) (by omega)) (sV rfl (py_load Tryz.underlying147 rfl rfl (at_cell (eH1.holAt 0 rfl) 0 rfl)) (sV rfl (py_move rfl) (s_call (wn rfl) rfl rfl (pc_call Tryz.func156 rfl Tryz_nm156 rfl) (Tryz_laws_markDriveS (eH1.mine 1 rfl) (eH1.nodup1 (i := 1) rfl) (by constructor <;> omega)) (fun v1 w2 r1 => ?_)))))))
  obtain ⟨rfl, mx1, mm1, ml1⟩ := r1
  obtain ⟨fp1, H2⟩ := eH1.mut 1 rfl mm1
  try dsimp only [List.nil_append, List.cons_append, List.set_cons_zero, List.set_cons_succ] at H2
  refine sV rfl (py_assign rfl) (s_nil (W_reg (sV rfl (py_move rfl) (sV rfl (py_add rfl rfl (in64 ⟨by omega, by omega⟩)) (sV rfl (py_assign rfl) (s_nil ?_))))))
  obtain ⟨fp2, H3⟩ := H2.fill 0 1 rfl rfl rfl
  try dsimp only [List.nil_append, List.cons_append, List.set_cons_zero, List.set_cons_succ] at H3
  refine ⟨(i + 1, _, _), ⟨rfl, eqI (by omega), rfl, trivial⟩, ⟨(H3.dtake 1), mk_step hI hiL (by rw [← hci]; exact ml1.2.1) ml1.2.2, trivial⟩, by dsimp only; omega⟩
 ·refine W_exit (W_sr (sV rfl (py_move rfl) (sV rfl (py_assign rfl) (s_nil (W_ret (hQ _ _ (fin1 Tryz.results88 rfl ?_)))))))
  obtain rfl : i = xs.length := by omega
  exact ⟨rfl, _, H1.done, mk_end hI⟩
theorem Tryz_laws_markText {w : World} {k : Int} (hk : -1000 ≤ k ∧ k ≤ 4611686018427388904) : Ret Tryz.prog 204 #[.int .i64 k] w fun v w' => Ext No w w' ∧ (v = .string (mText k) ∧ (mText k).size ≤ maxLen) := by
 refine ret_Q (vs := [.int .i64 k]) Tryz.func204 rfl Tryz.ntmps204 rfl (fun Q hQ hN => ?_)
 have H0 := Sep.start (w := w) (F := []) (by simp)
 refine W_sr (sV rfl (py_assign rfl) (s_nil (W_seq (W_sr (sV rfl (py_move rfl) (sV rfl (py_leq rfl rfl) (s_nil (W_ifd rfl (fun c1 => ?_) (fun c1 => ?_)))))))))
 ·refine W_sr (sV rfl (py_assign rfl) (s_nil (W_ret (hQ _ _ (fin1 Tryz.results204 rfl ?_)))))
  exact ⟨H0.ext, by rw [mText, if_pos (by omega)], by rw [mText, if_pos (by omega)]; exact Nat.le_of_ble_eq_true rfl⟩
 ·refine W_skip (W_sr (sV rfl (py_assign rfl) (s_nil (W_seq (W_block (W_loopS (γ := Nat × Nat × ByteArray) H0 [(2, _)] ⟨rfl, trivial⟩ (fun (f, m, out) => [(0, .int .i64 (m : Nat)), (3, .string out)]) (fun (f, m, out) => (m : Int) ≤ k ∧ m < 10 ^ f ∧ out.size + f ≤ 30 ∧ digits 30 k.toNat ⟨#[]⟩ = digits f m out) (fun (f, m, out) => m) (30, k.toNat, ⟨#[]⟩) ⟨eqI (by omega), rfl, trivial⟩ ⟨by omega, digits_bd (by omega), by decide, rfl⟩ (fun (f, m, out) w1 H1 ⟨hm, hf, ho, hd⟩ => ?_)))))))
  dsimp only [List.cons_append, List.nil_append]
  refine W_seq (W_sr (sV rfl (py_move rfl) (sV rfl (py_gtr rfl rfl) (s_nil (W_ifd rfl (fun c2 => ?_) (fun c2 => ?_))))))
  ·refine W_skip (W_block (W_seq ?_))
   have hb := tmod_bd (a := (m : Int)) (b := 10) (by omega) (by omega)
   refine W_reg (sV rfl (py_move rfl) (sV rfl (py_rem rfl rfl (by omega)) (sV rfl (py_add rfl rfl (in64 ⟨by omega, by omega⟩)) (sV rfl (py_conv8 Tryz.underlying3 Tryz.underlying5 rfl) (s_lit1 (wn rfl) rfl Tryz.underlying61 Tryz_ty5 rfl rfl rfl rfl H1 (fun b1 w2 e1 g1 H2 => ?_))))))
   have H3 := H2.litW 0 rfl (own_b8 (x := u8Of (48 + (m : Int).tmod 10)))
   try dsimp only [List.nil_append, List.cons_append, List.set_cons_zero, List.set_cons_succ] at H3
   refine sV rfl (py_b2s Tryz.underlying61 Tryz.underlying5 Tryz.underlying9 rfl (H3.mine 0 rfl)) ((sV rfl (py_move rfl) (sV rfl (py_sadd rfl rfl (by rw [strB_size]; simp only [List.length_cons, List.length_nil]; omega)) (sV rfl (py_assign rfl) (s_nil ?_)))))
   have hb2 := tdiv_bd (a := (m : Int)) (b := 10) (by omega) (by omega)
   refine W_reg (sV rfl (py_move rfl) (sV rfl (py_quo rfl rfl (by omega) (in64 ⟨by omega, by omega⟩)) (sV rfl (py_assign rfl) (s_nil ?_))))
   rcases f with _ | f
   ·simp at hf; omega
   ·refine ⟨(f, m / 10, strB [UInt8.ofNat (48 + m % 10)] ++ out), ⟨eqI (by rw [Int.tdiv_eq_ediv_of_nonneg (by omega)]; dsimp only; omega), eqStr (by rw [dig_eq]), rfl, trivial⟩, ⟨(H3.dtake 0), by dsimp only; omega, by rw [Nat.pow_succ] at hf; dsimp only; omega, by dsimp only; rw [ByteArray.size_append, strB_size]; simp only [List.length_cons, List.length_nil]; omega, hd.trans (digits_step (by omega))⟩, by dsimp only; omega⟩
  ·refine W_exit (W_seq ?_)
   have h1z : (⟨#[109]⟩ : ByteArray).size = 1 := rfl
   refine W_reg (sV rfl (py_move rfl) (sV rfl (py_sadd rfl rfl (by omega)) (sV rfl (py_assign rfl) (s_nil (W_ret (hQ _ _ (fin1 Tryz.results204 rfl ?_)))))))
   obtain rfl : m = 0 := by omega
   have hq : mText k = ⟨#[109]⟩ ++ out := by rw [mText, if_neg (by omega), hd, digits_zero]
   exact ⟨H1.ext, by rw [hq], by rw [hq, ByteArray.size_append]; unfold maxLen; omega⟩
theorem Tryz_laws_markRecS {w : World} {xs : List Rec} {xsA : Option Addr} {xsC : Nat} {k : Int} {fp : List Nat} (o : own true w [.slice xsA xs.length xsC] xs fp) (nd : fp.Nodup) (hk : 0 ≤ k ∧ k + mkL mkRec xs ≤ 4611686018427387904) : Ret Tryz.prog 133 #[.slice xsA xs.length xsC, .int .i64 k] w fun v w' => (v = .int .i64 (k + mkL mkRec xs) ∧ ∃ xs', Mut w w' fp [.slice xsA xs.length xsC] xs' ∧ (xs'.length = xs.length ∧ mkL mkRec xs' = mkL mkRec xs ∧ MkL MkRec mkRec xs' k)) := by
 have len := own_len_le o
 unfold maxLen at len
 refine ret_Q (vs := [.slice xsA xs.length xsC, .int .i64 k]) Tryz.func133 rfl Tryz.ntmps133 rfl (fun Q hQ hN => ?_)
 have H0 := Sep.begin o nd
 refine W_sr (sV rfl (py_assign rfl) (s_nil (W_seq (W_sr (sV rfl (py_assign rfl) (s_nil (W_block (W_loop (γ := Nat × List Rec × List Nat) (fun (i, ys, f) => [(0, .slice xsA xs.length xsC), (1, .int .i64 (k + sumN (fun i => mkRec (xs.getD i default)) i)), (5, .int .i64 i)]) (fun (i, ys, f) w' => Sep (· ∈ fp) w [mine [.slice xsA xs.length xsC] ys f] [] w' ∧ MkInv MkRec mkRec xs k i ys ∧ True) (fun (i, ys, f) => xs.length - i) (0, xs, fp) ⟨rfl, eqI (by simp [sumN]), rfl, trivial⟩ ⟨H0, mk_begin, trivial⟩ (fun (i, ys, f) w1 H1 => ?_)))))))))
 obtain ⟨H1, hI, _⟩ := H1
 refine W_seq (W_seq ?_)
 have hiB := hI.1
 have hys := hI.2.1
 refine W_reg (sV rfl (py_move rfl) (sV rfl (py_move rfl) (sV rfl (py_len Tryz.underlying82 rfl) (sV rfl (py_lss rfl rfl) (s_nil (W_ifd rfl (fun c1 => ?_) (fun c1 => ?_)))))))
 ·refine W_skip (W_seq (W_block (W_seq ?_)))
  have hiL : i < xs.length := by omega
  have hat := mk_at hI
  obtain ⟨sg, sl⟩ := mkL_at (c := mkRec) hiL
  have hci : mkRec (ys.getD i default) = mkRec (xs.getD i default) := hI.2.2.1 i
  have hcu : mkRec (ys.getD i default) = 6 + (ys.getD i default).Rows.length + (ys.getD i default).Data.length + (ys.getD i default).Delta.length := rfl
  obtain ⟨eb1, eo1, eT1, eF1, eG1, ea1, ek1, ea2, ek2, ea3, ek3, eg1, eg2, eg3, ee1, eK1, eH1⟩ := Rec.focus H1 0 rfl i (by omega)
  have eK1U := eK1
  unfold Rec.Ok at eK1U
  try unfold I64ok at eK1U
  try unfold maxLen at eK1U
  try dsimp only [List.nil_append, List.cons_append, List.set_cons_zero, List.set_cons_succ] at eH1
  refine W_reg (sV rfl (py_move rfl) (sV rfl (py_move rfl) (sV rfl (py_move rfl) (sV rfl (py_elz Tryz.underlying82 Tryz.sizeOf66 rfl rfl ee1 i (by omega) (by omega)) (sV rfl (py_field Tryz.underlying66 rfl Tryz.sizeOf2 rfl rfl) (s_hsto (wn rfl) Tryz.sizeOf2 eH1 0 0 rfl rfl rfl rfl rfl (fun w2 H2 => ?_)))))))
  dsimp only [List.nil_append, List.cons_append, List.set_cons_zero, List.set_cons_succ, layL] at H2
  refine s_nil (W_sr (sV rfl (py_move rfl) (sV rfl (py_add rfl rfl (in64 ⟨by omega, by omega⟩)) (sV rfl (py_assign rfl) (s_nil (W_sr (sV rfl (py_move rfl) (sV rfl (py_move rfl) (sV rfl (py_move rfl) (sV rfl (py_elz Tryz.underlying82 Tryz.sizeOf66 rfl rfl ee1 i (by omega) (by omega)) (sV rfl (py_field Tryz.underlying66 rfl Tryz.sizeOf2 rfl rfl) (s_hsto (wn rfl) Tryz.sizeOf2 H2 0 1 rfl rfl rfl rfl rfl (fun w3 H3 => ?_)))))))))))))
  dsimp only [List.nil_append, List.cons_append, List.set_cons_zero, List.set_cons_succ, layL] at H3
  refine s_nil (W_sr (sV rfl (py_move rfl) (sV rfl (py_add rfl rfl (in64 ⟨by omega, by omega⟩)) (sV rfl (py_assign rfl) (s_nil (W_sr (sV rfl (py_move rfl) (sV rfl (py_move rfl) (sV rfl (py_move rfl) (s_call (wn rfl) rfl rfl (pc_call Tryz.func204 rfl Tryz_nm204 rfl) (Tryz_laws_markText (by omega)) (fun v1 w4 r1 => ?_)))))))))))
  obtain ⟨e3, rfl, mt1⟩ := r1
  have H4 := H3.to e3
  refine sV rfl (py_elz Tryz.underlying82 Tryz.sizeOf66 rfl rfl ee1 i (by omega) (by omega)) (sV rfl (py_field Tryz.underlying66 rfl Tryz.sizeOf9 rfl rfl) (s_hsto (wn rfl) Tryz.sizeOf9 H4 0 2 rfl rfl rfl rfl rfl (fun w5 H5 => ?_)))
  dsimp only [List.nil_append, List.cons_append, List.set_cons_zero, List.set_cons_succ, layL] at H5
  refine s_nil (W_sr (sV rfl (py_move rfl) (sV rfl (py_add rfl rfl (in64 ⟨by omega, by omega⟩)) (sV rfl (py_assign rfl) (s_nil (W_sr (sV rfl (py_move rfl) (sV rfl (py_move rfl) (sV rfl (py_move rfl) (sV rfl (py_elz Tryz.underlying82 Tryz.sizeOf66 rfl rfl ee1 i (by omega) (by omega)) (sV rfl (py_field Tryz.underlying66 rfl Tryz.sizeOf2 rfl rfl) (s_hsto (wn rfl) Tryz.sizeOf2 H5 0 3 rfl rfl rfl rfl rfl (fun w6 H6 => ?_)))))))))))))
  dsimp only [List.nil_append, List.cons_append, List.set_cons_zero, List.set_cons_succ, layL] at H6
  refine s_nil (W_sr (sV rfl (py_move rfl) (sV rfl (py_add rfl rfl (in64 ⟨by omega, by omega⟩)) (sV rfl (py_assign rfl) (s_nil (W_sr (sV rfl (py_move rfl) (sV rfl (py_move rfl) (sV rfl (py_move rfl) (sV rfl (py_elz Tryz.underlying82 Tryz.sizeOf66 rfl rfl ee1 i (by omega) (by omega)) (sV rfl (py_field Tryz.underlying66 rfl Tryz.sizeOf2 rfl rfl) (s_hsto (wn rfl) Tryz.sizeOf2 H6 0 4 rfl rfl rfl rfl rfl (fun w7 H7 => ?_)))))))))))))
  dsimp only [List.nil_append, List.cons_append, List.set_cons_zero, List.set_cons_succ, layL] at H7
  refine s_nil (W_sr (sV rfl (py_move rfl) (sV rfl (py_add rfl rfl (in64 ⟨by omega, by omega⟩)) (sV rfl (py_assign rfl) (s_nil (W_sr (sV rfl (py_move rfl) (sV rfl (py_move rfl) (sV rfl (py_move rfl) (sV rfl (py_elz Tryz.underlying82 Tryz.sizeOf66 rfl rfl ee1 i (by omega) (by omega)) (sV rfl (py_field Tryz.underlying66 rfl Tryz.sizeOf2 rfl rfl) (s_hsto (wn rfl) Tryz.sizeOf2 H7 0 5 rfl rfl rfl rfl rfl (fun w8 H8 => ?_)))))))))))))
  dsimp only [List.nil_append, List.cons_append, List.set_cons_zero, List.set_cons_succ, layL] at H8
  refine s_nil (W_sr (sV rfl (py_move rfl) (sV rfl (py_add rfl rfl (in64 ⟨by omega, by omega⟩)) (sV rfl (py_assign rfl) (s_nil (W_sr (sV rfl (py_move rfl) (sV rfl (py_move rfl) (sV rfl (py_elz Tryz.underlying82 Tryz.sizeOf66 rfl rfl ee1 i (by omega) (by omega)) (sV rfl (py_field Tryz.underlying66 rfl Tryz.sizeOf25 rfl rfl) (sV rfl (py_load Tryz.underlying25 rfl rfl (at_cell (H8.holAt 0 rfl) 6 rfl)) (sV rfl (py_move rfl) (s_call (wn rfl) rfl rfl (pc_call Tryz.func89 rfl Tryz_nm89 rfl) (Tryz_laws_markInt64S (H8.mine 2 rfl) (H8.nodup1 (i := 2) rfl) (by constructor <;> omega)) (fun v2 w9 r2 => ?_))))))))))))))
  obtain ⟨rfl, mx1, mm1, ml1, mk1⟩ := r2
  obtain ⟨fp1, H9⟩ := H8.mut 2 rfl mm1
  try dsimp only [List.nil_append, List.cons_append, List.set_cons_zero, List.set_cons_succ] at H9
  refine sV rfl (py_assign rfl) (s_nil (W_sr (sV rfl (py_move rfl) (sV rfl (py_move rfl) (sV rfl (py_elz Tryz.underlying82 Tryz.sizeOf66 rfl rfl ee1 i (by omega) (by omega)) (sV rfl (py_field Tryz.underlying66 rfl Tryz.sizeOf61 rfl rfl) (sV rfl (py_load Tryz.underlying61 rfl rfl (at_cell (H9.holAt 0 rfl) 7 rfl)) (sV rfl (py_move rfl) (s_call (wn rfl) rfl rfl (pc_call Tryz.func56 rfl Tryz_nm56 rfl) (Tryz_laws_markByteS (H9.mine 3 rfl) (H9.nodup1 (i := 3) rfl) (by constructor <;> omega)) (fun v3 w10 r3 => ?_))))))))))
  obtain ⟨rfl, mx2, mm2, ml2, mk2⟩ := r3
  obtain ⟨fp2, H10⟩ := H9.mut 3 rfl mm2
  try dsimp only [List.nil_append, List.cons_append, List.set_cons_zero, List.set_cons_succ] at H10
  refine sV rfl (py_assign rfl) (s_nil (W_reg (sV rfl (py_move rfl) (sV rfl (py_move rfl) (sV rfl (py_elz Tryz.underlying82 Tryz.sizeOf66 rfl rfl ee1 i (by omega) (by omega)) (sV rfl (py_field Tryz.underlying66 rfl Tryz.sizeOf61 rfl rfl) (sV rfl (py_load Tryz.underlying61 rfl rfl (at_cell (H10.holAt 0 rfl) 8 rfl)) (sV rfl (py_move rfl) (s_call (wn rfl) rfl rfl (pc_call Tryz.func56 rfl Tryz_nm56 rfl) (Tryz_laws_markByteS (H10.mine 4 rfl) (H10.nodup1 (i := 4) rfl) (by constructor <;> omega)) (fun v4 w11 r4 => ?_))))))))))
  obtain ⟨rfl, mx3, mm3, ml3, mk3⟩ := r4
  obtain ⟨fp3, H11⟩ := H10.mut 4 rfl mm3
  try dsimp only [List.nil_append, List.cons_append, List.set_cons_zero, List.set_cons_succ] at H11
  refine sV rfl (py_assign rfl) (s_nil (W_reg (sV rfl (py_move rfl) (sV rfl (py_add rfl rfl (in64 ⟨by omega, by omega⟩)) (sV rfl (py_assign rfl) (s_nil ?_))))))
  have okz : (⟨(k + sumN (fun i => mkRec (xs.getD i default)) i), (k + sumN (fun i => mkRec (xs.getD i default)) i) + 1, mText ((k + sumN (fun i => mkRec (xs.getD i default)) i) + 1 + 1), (k + sumN (fun i => mkRec (xs.getD i default)) i) + 1 + 1 + 1, (k + sumN (fun i => mkRec (xs.getD i default)) i) + 1 + 1 + 1 + 1, (k + sumN (fun i => mkRec (xs.getD i default)) i) + 1 + 1 + 1 + 1 + 1, mx1, mx2, mx3⟩ : Rec).Ok := by unfold Rec.Ok I64ok; dsimp only; omega
  obtain ⟨fp4, H12⟩ := Rec.fill H11 0 2 3 4 rfl rfl rfl rfl rfl rfl rfl rfl rfl rfl okz
  try dsimp only [List.nil_append, List.cons_append, List.set_cons_zero, List.set_cons_succ] at H12
  refine ⟨(i + 1, _, _), ⟨rfl, eqI (by omega), rfl, trivial⟩, ⟨(H12.dtake 1), mk_step hI hiL (by rw [← hci]; unfold mkRec; dsimp only; omega) (by
   refine ⟨rfl, rfl, ?_, by dsimp only; omega, by dsimp only; omega, by dsimp only; omega, ?_, ?_, ?_⟩
   ·dsimp only; congr 1; omega
   ·have := mk1; dsimp only; rwa [show (k + sumN (fun i => mkRec (xs.getD i default)) i) + 1 + 1 + 1 + 1 + 1 + 1 = (k + sumN (fun i => mkRec (xs.getD i default)) i) + 6 by omega] at this
   ·have := mk2; dsimp only; rwa [show (k + sumN (fun i => mkRec (xs.getD i default)) i) + 1 + 1 + 1 + 1 + 1 + 1 + ((ys.getD i default).Rows.length : Int) = (k + sumN (fun i => mkRec (xs.getD i default)) i) + 6 + mx1.length by omega] at this
   ·have := mk3; dsimp only; rwa [show (k + sumN (fun i => mkRec (xs.getD i default)) i) + 1 + 1 + 1 + 1 + 1 + 1 + ((ys.getD i default).Rows.length : Int) + ((ys.getD i default).Data.length : Int) = (k + sumN (fun i => mkRec (xs.getD i default)) i) + 6 + mx1.length + mx2.length by omega] at this), trivial⟩, by dsimp only; omega⟩
 ·refine W_exit (W_sr (sV rfl (py_move rfl) (sV rfl (py_assign rfl) (s_nil (W_ret (hQ _ _ (fin1 Tryz.results133 rfl ?_)))))))
  obtain rfl : i = xs.length := by omega
  exact ⟨rfl, _, H1.done, mk_end hI⟩
theorem Tryz_laws_markTapeS {w : World} {xs : List Tape} {xsA : Option Addr} {xsC : Nat} {k : Int} {fp : List Nat} (o : own true w [.slice xsA xs.length xsC] xs fp) (nd : fp.Nodup) (hk : 0 ≤ k ∧ k + mkL mkTape xs ≤ 4611686018427387904) : Ret Tryz.prog 90 #[.slice xsA xs.length xsC, .int .i64 k] w fun v w' => (v = .int .i64 (k + mkL mkTape xs) ∧ ∃ xs', Mut w w' fp [.slice xsA xs.length xsC] xs' ∧ (xs'.length = xs.length ∧ mkL mkTape xs' = mkL mkTape xs ∧ MkL MkTape mkTape xs' k)) := by
 have len := own_len_le o
 unfold maxLen at len
 refine ret_Q (vs := [.slice xsA xs.length xsC, .int .i64 k]) Tryz.func90 rfl Tryz.ntmps90 rfl (fun Q hQ hN => ?_)
 have H0 := Sep.begin o nd
 refine W_sr (sV rfl (py_assign rfl) (s_nil (W_seq (W_sr (sV rfl (py_assign rfl) (s_nil (W_block (W_loop (γ := Nat × List Tape × List Nat) (fun (i, ys, f) => [(0, .slice xsA xs.length xsC), (1, .int .i64 (k + sumN (fun i => mkTape (xs.getD i default)) i)), (5, .int .i64 i)]) (fun (i, ys, f) w' => Sep (· ∈ fp) w [mine [.slice xsA xs.length xsC] ys f] [] w' ∧ MkInv MkTape mkTape xs k i ys ∧ True) (fun (i, ys, f) => xs.length - i) (0, xs, fp) ⟨rfl, eqI (by simp [sumN]), rfl, trivial⟩ ⟨H0, mk_begin, trivial⟩ (fun (i, ys, f) w1 H1 => ?_)))))))))
 obtain ⟨H1, hI, _⟩ := H1
 refine W_seq (W_seq ?_)
 have hiB := hI.1
 have hys := hI.2.1
 refine W_reg (sV rfl (py_move rfl) (sV rfl (py_move rfl) (sV rfl (py_len Tryz.underlying35 rfl) (sV rfl (py_lss rfl rfl) (s_nil (W_ifd rfl (fun c1 => ?_) (fun c1 => ?_)))))))
 ·refine W_skip (W_seq (W_block (W_seq ?_)))
  have hiL : i < xs.length := by omega
  have hat := mk_at hI
  obtain ⟨sg, sl⟩ := mkL_at (c := mkTape) hiL
  have hci : mkTape (ys.getD i default) = mkTape (xs.getD i default) := hI.2.2.1 i
  have hcu : mkTape (ys.getD i default) = 1 + mkL mkRec (ys.getD i default).Recs := rfl
  obtain ⟨eb1, eo1, eT1, eF1, eG1, ea1, ek1, eg1, ee1, eK1, eH1⟩ := Tape.focus H1 0 rfl i (by omega)
  have eK1U := eK1
  unfold Tape.Ok at eK1U
  try unfold I64ok at eK1U
  try unfold maxLen at eK1U
  try dsimp only [List.nil_append, List.cons_append, List.set_cons_zero, List.set_cons_succ] at eH1
  refine W_reg (sV rfl (py_move rfl) (sV rfl (py_move rfl) (sV rfl (py_move rfl) (sV rfl (py_rem rfl rfl (by omega)) (sV rfl (py_eql rfl rfl) (sV rfl (py_elz Tryz.underlying35 Tryz.sizeOf155 rfl rfl ee1 i (by omega) (by omega)) (sV rfl (py_field Tryz.underlying155 rfl Tryz.sizeOf4 rfl rfl) (s_hsto (wn rfl) Tryz.sizeOf4 eH1 0 0 rfl rfl rfl rfl rfl (fun w2 H2 => ?_)))))))))
  dsimp only [List.nil_append, List.cons_append, List.set_cons_zero, List.set_cons_succ, layL] at H2
  refine s_nil (W_sr (sV rfl (py_move rfl) (sV rfl (py_add rfl rfl (in64 ⟨by omega, by omega⟩)) (sV rfl (py_assign rfl) (s_nil (W_reg (sV rfl (py_move rfl) (sV rfl (py_move rfl) (sV rfl (py_elz Tryz.underlying35 Tryz.sizeOf155 rfl rfl ee1 i (by omega) (by omega)) (sV rfl (py_field Tryz.underlying155 rfl Tryz.sizeOf82 rfl rfl) (sV rfl (py_load Tryz.underlying82 rfl rfl (at_cell (H2.holAt 0 rfl) 1 rfl)) (sV rfl (py_move rfl) (s_call (wn rfl) rfl rfl (pc_call Tryz.func133 rfl Tryz_nm133 rfl) (Tryz_laws_markRecS (H2.mine 2 rfl) (H2.nodup1 (i := 2) rfl) (by constructor <;> omega)) (fun v1 w3 r1 => ?_))))))))))))))
  obtain ⟨rfl, mx1, mm1, ml1⟩ := r1
  obtain ⟨fp1, H3⟩ := H2.mut 2 rfl mm1
  try dsimp only [List.nil_append, List.cons_append, List.set_cons_zero, List.set_cons_succ] at H3
  refine sV rfl (py_assign rfl) (s_nil (W_reg (sV rfl (py_move rfl) (sV rfl (py_add rfl rfl (in64 ⟨by omega, by omega⟩)) (sV rfl (py_assign rfl) (s_nil ?_))))))
  have okz : (⟨decide ((k + sumN (fun i => mkTape (xs.getD i default)) i).tmod 3 = 0), mx1⟩ : Tape).Ok := trivial
  obtain ⟨fp2, H4⟩ := Tape.fill H3 0 2 rfl rfl rfl okz
  try dsimp only [List.nil_append, List.cons_append, List.set_cons_zero, List.set_cons_succ] at H4
  refine ⟨(i + 1, _, _), ⟨rfl, eqI (by omega), rfl, trivial⟩, ⟨(H4.dtake 1), mk_step hI hiL (by rw [← hci]; unfold mkTape; dsimp only; rw [ml1.2.1]) ⟨rfl, ml1.2.2⟩, trivial⟩, by dsimp only; omega⟩
 ·refine W_exit (W_sr (sV rfl (py_move rfl) (sV rfl (py_assign rfl) (s_nil (W_ret (hQ _ _ (fin1 Tryz.results90 rfl ?_)))))))
  obtain rfl : i = xs.length := by omega
  exact ⟨rfl, _, H1.done, mk_end hI⟩
end Go.Wk
namespace Go.Wk
open Go.Proofs Rp
set_option maxRecDepth 10000
theorem Tryz_laws_markWorld {w : World} {x : Wld} {xA9 : Option Addr} {xC9 : Nat} {xA10 : Option Addr} {xC10 : Nat} {xA11 : Option Addr} {xC11 : Nat} {k : Int} {fp : List Nat} (xK : x.Ok) (o : own true w [.int .i64 x.Shape.Groups, .int .i64 x.Shape.Column, .int .i64 x.Shape.Data, .int .i64 x.Shape.Spare, .int .i64 x.Shape.Rows, .int .i64 x.Shape.Cap, .int .i64 x.Shape.Batch, .int .i64 x.Shape.Queue, .int .i64 x.Shape.Stage, .slice xA9 x.Groups.length xC9, .slice xA10 x.On.length xC10, .slice xA11 x.Tapes.length xC11, .int .i64 x.Writes, .int .i64 x.Stop, .bool x.Down] x fp) (nd : fp.Nodup) (hk : 0 ≤ k ∧ k + mkWld x ≤ 4611686018427387904) : Ret Tryz.prog 24 #[x.val xA9 xC9 xA10 xC10 xA11 xC11, .int .i64 k] w fun v w' => (v = .int .i64 (k + mkWld x) ∧ ∃ x' : Wld, Mut w w' fp [.int .i64 x.Shape.Groups, .int .i64 x.Shape.Column, .int .i64 x.Shape.Data, .int .i64 x.Shape.Spare, .int .i64 x.Shape.Rows, .int .i64 x.Shape.Cap, .int .i64 x.Shape.Batch, .int .i64 x.Shape.Queue, .int .i64 x.Shape.Stage, .slice xA9 x.Groups.length xC9, .slice xA10 x.On.length xC10, .slice xA11 x.Tapes.length xC11, .int .i64 x.Writes, .int .i64 x.Stop, .bool x.Down] x' ∧ (x'.Groups.length = x.Groups.length ∧ x'.On.length = x.On.length ∧ x'.Tapes.length = x.Tapes.length ∧ mkWld x' = mkWld x ∧ MkWld x' k ∧ x'.Shape = x.Shape ∧ x'.Writes = x.Writes ∧ x'.Stop = x.Stop ∧ x'.Down = x.Down)) := by
 unfold mkWld at hk
 refine ret_Q (vs := [x.val xA9 xC9 xA10 xC10 xA11 xC11, .int .i64 k]) Tryz.func24 rfl Tryz.ntmps24 rfl (fun Q hQ hN => ?_)
 obtain ⟨f9, f10, f11, ef, ok, o9, o10, o11⟩ := own_WldC o
 have H0 := (Sep.begin o nd).part 0 rfl [mine [.slice xA9 x.Groups.length xC9] x.Groups f9, mine [.slice xA10 x.On.length xC10] x.On f10, mine [.slice xA11 x.Tapes.length xC11] x.Tapes f11] (all_cons o9 (all_cons o10 (all_cons o11 (by simp)))) (by simp [blocks, mine, ef])
 try dsimp only [List.nil_append, List.cons_append, List.set_cons_zero, List.set_cons_succ] at H0
 refine W_sr (s_box (wn rfl) rfl rfl H0 (fun b1 w1 e1 g1 H1 => ?_))
 refine sV rfl (py_assign rfl) (s_nil (W_sr (sV rfl (py_field Tryz.underlying37 rfl Tryz.sizeOf34 rfl rfl) (sV rfl (py_load Tryz.underlying34 rfl rfl (cell_atL (H1.box 4 rfl) rfl)) (sV rfl (py_move rfl) (s_call (wn rfl) rfl rfl (pc_call Tryz.func88 rfl Tryz_nm88 rfl) (Tryz_laws_markDriveSS (H1.mine 1 rfl) (H1.nodup1 (i := 1) rfl) (by constructor <;> omega)) (fun v1 w2 r1 => ?_)))))))
 obtain ⟨rfl, mx1, mm1, ml1⟩ := r1
 obtain ⟨fp1, H2⟩ := H1.mut 1 rfl mm1
 try dsimp only [List.nil_append, List.cons_append, List.set_cons_zero, List.set_cons_succ] at H2
 refine sV rfl (py_assign rfl) (s_nil (W_sr (sV rfl (py_field Tryz.underlying37 rfl Tryz.sizeOf25 rfl rfl) (sV rfl (py_load Tryz.underlying25 rfl rfl (cell_atL (H2.box 4 rfl) rfl)) (sV rfl (py_move rfl) (s_call (wn rfl) rfl rfl (pc_call Tryz.func89 rfl Tryz_nm89 rfl) (Tryz_laws_markInt64S (H2.mine 2 rfl) (H2.nodup1 (i := 2) rfl) (by constructor <;> omega)) (fun v2 w3 r2 => ?_)))))))
 obtain ⟨rfl, mx2, mm2, ml2, mk1⟩ := r2
 obtain ⟨fp2, H3⟩ := H2.mut 2 rfl mm2
 try dsimp only [List.nil_append, List.cons_append, List.set_cons_zero, List.set_cons_succ] at H3
 refine sV rfl (py_assign rfl) (s_nil (W_sr (sV rfl (py_field Tryz.underlying37 rfl Tryz.sizeOf35 rfl rfl) (sV rfl (py_load Tryz.underlying35 rfl rfl (cell_atL (H3.box 4 rfl) rfl)) (sV rfl (py_move rfl) (s_call (wn rfl) rfl rfl (pc_call Tryz.func90 rfl Tryz_nm90 rfl) (Tryz_laws_markTapeS (H3.mine 3 rfl) (H3.nodup1 (i := 3) rfl) (by constructor <;> omega)) (fun v3 w4 r3 => ?_)))))))
 obtain ⟨rfl, mx3, mm3, ml3⟩ := r3
 obtain ⟨fp3, H4⟩ := H3.mut 3 rfl mm3
 try dsimp only [List.nil_append, List.cons_append, List.set_cons_zero, List.set_cons_succ] at H4
 refine sV rfl (py_assign rfl) (s_nil (W_sr (sV rfl (py_move rfl) (sV rfl (py_assign rfl) (s_nil (W_ret (hQ _ _ (fin1 Tryz.results24 rfl ?_))))))))
 exact ⟨congrArg (Value.int .i64) (by unfold mkWld; omega), Wld.mkOut ok (H4.dtake 4) ml1 ml2 mk1 ml3⟩
theorem Tryz_w_markBytesResult {w : World} {xs : List UInt8} {xsA : Option Addr} {xsC : Nat} {c k : Int} {fp : List Nat} (o : own true w [.slice xsA xs.length xsC] xs fp) (nd : fp.Nodup) (hk : 0 ≤ k ∧ k + xs.length ≤ 4611686018427387904) : Ret Tryz.prog 48 #[.agg #[.int .i64 c, .slice xsA xs.length xsC], .int .i64 k] w fun v w' => (v = .int .i64 (k + xs.length) ∧ ∃ xs', Mut w w' fp [.slice xsA xs.length xsC] xs' ∧ xs'.length = xs.length ∧ MarkB xs' k) := by
 refine ret_Q (vs := [.agg #[.int .i64 c, .slice xsA xs.length xsC], .int .i64 k]) Tryz.func48 rfl Tryz.ntmps48 rfl (fun Q hQ hN => ?_)
 have H0 := Sep.begin o nd
 refine W_sr (s_box (wn rfl) rfl rfl H0 (fun b1 w1 e1 g1 H1 => ?_))
 refine sV rfl (py_assign rfl) (s_nil (W_sr (sV rfl (py_field Tryz.underlying72 rfl Tryz.sizeOf61 rfl rfl) (sV rfl (py_load Tryz.underlying61 rfl rfl (cell_atL (H1.box 1 rfl) rfl)) (sV rfl (py_move rfl) (s_call (wn rfl) rfl rfl (pc_call Tryz.func56 rfl Tryz_nm56 rfl) (Tryz_laws_markByteS (H1.mine 0 rfl) (H1.nodup1 (i := 0) rfl) (by constructor <;> omega)) (fun v1 w2 r1 => ?_)))))))
 obtain ⟨rfl, mx1, mm1, ml1, mk1⟩ := r1
 obtain ⟨fp1, H2⟩ := H1.mut 0 rfl mm1
 try dsimp only [List.nil_append, List.cons_append, List.set_cons_zero, List.set_cons_succ] at H2
 refine sV rfl (py_assign rfl) (s_nil (W_sr (sV rfl (py_move rfl) (sV rfl (py_assign rfl) (s_nil (W_ret (hQ _ _ (fin1 Tryz.results48 rfl ?_))))))))
 have hz := H2.dtake 1
 exact ⟨rfl, _, hz.done, ml1, mk1⟩
theorem Tryz_w_heldBytesResult {w : World} {xs : List UInt8} {xsA : Option Addr} {n xsC : Nat} {c k : Int} (xsS : Sees w [.slice xsA n xsC] xs) (hk : 0 ≤ k ∧ k + xs.length ≤ 4611686018427387904) (hm : MarkB xs k) : Ret Tryz.prog 49 #[.agg #[.int .i64 c, .slice xsA n xsC], .int .i64 k] w fun v w' => Ext No w w' ∧ (v = .int .i64 (k + xs.length)) := by
 obtain ⟨xsF, xsO⟩ := xsS
 obtain rfl := own_n xsO
 refine ret_Q (vs := [.agg #[.int .i64 c, .slice xsA xs.length xsC], .int .i64 k]) Tryz.func49 rfl Tryz.ntmps49 rfl (fun Q hQ hN => ?_)
 have H0 := Sep.start (w := w) (F := [seen false [.slice xsA xs.length xsC] xs xsF]) (all_cons xsO (by simp))
 refine W_sr (s_box (wn rfl) rfl rfl H0 (fun b1 w1 e1 g1 H1 => ?_))
 refine sV rfl (py_assign rfl) (s_nil (W_sr (sV rfl (py_field Tryz.underlying72 rfl Tryz.sizeOf61 rfl rfl) (sV rfl (py_load Tryz.underlying61 rfl rfl (cell_atL (H1.box 0 rfl) rfl)) (sV rfl (py_move rfl) (s_call (wn rfl) rfl rfl (pc_call Tryz.func115 rfl Tryz_nm115 rfl) (Tryz_laws_heldByteS (H1.sees 0 rfl) (by constructor <;> omega) (by assumption)) (fun v1 w2 r1 => ?_)))))))
 obtain ⟨e2, rfl⟩ := r1
 have H2 := H1.to e2
 refine sV rfl (py_assign rfl) (s_nil (W_seq (W_sr (sV rfl (py_move rfl) (sV rfl (py_lss rfl rfl) (s_nil (W_ifd rfl (fun c1 => ?_) (fun c1 => ?_))))))))
 ·refine W_sr (sV rfl (py_assign rfl) (s_nil (W_ret (hQ _ _ (fin1 Tryz.results49 rfl ?_)))))
  exact absurd c1 (by omega)
 ·refine W_skip (W_sr (sV rfl (py_move rfl) (sV rfl (py_assign rfl) (s_nil (W_ret (hQ _ _ (fin1 Tryz.results49 rfl ?_)))))))
  exact ⟨H2.ext, rfl⟩
theorem Tryz_w_eqBytesResult {w : World} {a : BytesResult} {aA1 : Option Addr} {aC1 : Nat} {b : BytesResult} {bA1 : Option Addr} {bC1 : Nat} (aK : a.Ok) (aS1 : Sees w [.slice aA1 a.Bytes.length aC1] a.Bytes) (bK : b.Ok) (bS1 : Sees w [.slice bA1 b.Bytes.length bC1] b.Bytes) : Ret Tryz.prog 47 #[a.val aA1 aC1, b.val bA1 bC1] w fun v w' => Ext No w w' ∧ (v = .bool (decide (a = b))) := by
 have aK2 := aK
 unfold BytesResult.Ok at aK2
 try unfold I64ok at aK2
 try unfold maxLen at aK2
 have aL1 := sees_len aS1
 unfold maxLen at aL1
 obtain ⟨aF1, aO1⟩ := aS1
 have bK2 := bK
 unfold BytesResult.Ok at bK2
 try unfold I64ok at bK2
 try unfold maxLen at bK2
 have bL1 := sees_len bS1
 unfold maxLen at bL1
 obtain ⟨bF1, bO1⟩ := bS1
 refine ret_Q (vs := [a.val aA1 aC1, b.val bA1 bC1]) Tryz.func47 rfl Tryz.ntmps47 rfl (fun Q hQ hN => ?_)
 have H0 := Sep.start (w := w) (F := [seen false [.slice aA1 a.Bytes.length aC1] a.Bytes aF1, seen false [.slice bA1 b.Bytes.length bC1] b.Bytes bF1]) (all_cons aO1 (all_cons bO1 (by simp)))
 refine W_sr (s_box (wn rfl) rfl rfl H0 (fun b1 w1 e1 g1 H1 => ?_))
 refine s_box (wn rfl) rfl rfl H1 (fun b2 w2 e2 g2 H2 => ?_)
 refine sV rfl (py_assign rfl) (s_nil (W_seq (W_sr (sV rfl (py_field Tryz.underlying72 rfl Tryz.sizeOf2 rfl rfl) (sV rfl (py_load Tryz.underlying2 rfl rfl (cell_atL (H2.box 0 rfl) rfl)) (sV rfl (py_field Tryz.underlying72 rfl Tryz.sizeOf2 rfl rfl) (sV rfl (py_load Tryz.underlying2 rfl rfl (cell_atL (H2.box 1 rfl) rfl)) (sV rfl (py_neq rfl rfl) (s_nil (W_ifd rfl (fun c1 => ?_) (fun c1 => ?_)))))))))))
 ·refine W_sr (sV rfl (py_assign rfl) (s_nil (W_ret (hQ _ _ (fin1 Tryz.results47 rfl (⟨H2.ext, ?_⟩))))))
  rw [decide_eq_false (fun e => by subst e; first | exact c1 rfl | simp at c1)]
 ·refine W_skip (W_seq (W_sr (sV rfl (py_field Tryz.underlying72 rfl Tryz.sizeOf61 rfl rfl) (sV rfl (py_load Tryz.underlying61 rfl rfl (cell_atL (H2.box 0 rfl) rfl)) (sV rfl (py_field Tryz.underlying72 rfl Tryz.sizeOf61 rfl rfl) (sV rfl (py_load Tryz.underlying61 rfl rfl (cell_atL (H2.box 1 rfl) rfl)) (s_call (wn rfl) rfl rfl (pc_call Tryz.func55 rfl Tryz_nm55 rfl) (Tryz_laws_eqByteS (H2.sees 0 rfl) (H2.sees 1 rfl)) (fun v1 w3 r1 => ?_))))))))
  obtain ⟨e3, rfl⟩ := r1
  have H3 := H2.to e3
  refine sV rfl (py_not rfl) (s_nil (W_if rfl (fun c2 => ?_) (fun c2 => ?_)))
  ·refine W_sr (sV rfl (py_assign rfl) (s_nil (W_ret (hQ _ _ (fin1 Tryz.results47 rfl (⟨H3.ext, ?_⟩))))))
   rw [decide_eq_false (fun e => by subst e; first | exact c2 rfl | simp at c2)]
  ·refine W_skip (W_sr (sV rfl (py_assign rfl) (s_nil (W_ret (hQ _ _ (fin1 Tryz.results47 rfl (⟨H3.ext, ?_⟩)))))))
   rw [decide_eq_true]
   cases a; cases b; simp_all
end Go.Wk
namespace Go.Wk
open Go.Proofs Rp
set_option maxRecDepth 10000
theorem Tryz_laws_FnExactSharersOf {w : World} {z : Wld} {zA9 : Option Addr} {zC9 : Nat} {zA10 : Option Addr} {zC10 : Nat} {zA11 : Option Addr} {zC11 : Nat} {g : Int} (zK : z.Ok) (zS9 : Sees w [.slice zA9 z.Groups.length zC9] z.Groups) (zS10 : Sees w [.slice zA10 z.On.length zC10] z.On) (zS11 : Sees w [.slice zA11 z.Tapes.length zC11] z.Tapes) : Ret Tryz.prog 9 #[z.val zA9 zC9 zA10 zC10 zA11 zC11, .int .i64 g] w fun v w' => Ext No w w' ∧ (v = .bool true) := by
 have zK2 := zK
 unfold Wld.Ok Shape.Ok at zK2
 try unfold I64ok at zK2
 try unfold maxLen at zK2
 have zL9 := sees_len zS9
 unfold maxLen at zL9
 obtain ⟨zF9, zO9⟩ := zS9
 have zL10 := sees_len zS10
 unfold maxLen at zL10
 obtain ⟨zF10, zO10⟩ := zS10
 have zL11 := sees_len zS11
 unfold maxLen at zL11
 obtain ⟨zF11, zO11⟩ := zS11
 refine ret_Q (vs := [z.val zA9 zC9 zA10 zC10 zA11 zC11, .int .i64 g]) Tryz.func9 rfl Tryz.ntmps9 rfl (fun Q hQ hN => ?_)
 have H0 := Sep.start (w := w) (F := [seen false [.slice zA9 z.Groups.length zC9] z.Groups zF9, seen false [.slice zA10 z.On.length zC10] z.On zF10, seen false [.slice zA11 z.Tapes.length zC11] z.Tapes zF11]) (all_cons zO9 (all_cons zO10 (all_cons zO11 (by simp))))
 refine W_sr (s_box (wn rfl) rfl rfl H0 (fun b1 w1 e1 g1 H1 => ?_))
 refine sV rfl (py_assign rfl) (s_nil (W_sr (sV rfl (py_assign rfl) (s_nil (W_sr (sV rfl (py_loadS Tryz.underlying28 rfl Tryz.sizeOf28 rfl rfl (At.whole (H1.box 0 rfl))) (sV rfl (py_move rfl) (s_call (wn rfl) rfl rfl (pc_call Tryz.func15 rfl Tryz_nm15 rfl) (Tryz_laws_szWorld (by assumption) (H1.sees 0 rfl) (H1.sees 1 rfl) (H1.sees 2 rfl) (by omega)) (fun v1 w2 r1 => ?_)))))))))
 obtain ⟨e2, rfl⟩ := r1
 have H2 := H1.to e2
 refine sV rfl (py_assign rfl) (s_nil (W_seq (W_sr (sV rfl (py_move rfl) (sV rfl (py_lss rfl rfl) (s_nil (W_ifd rfl (fun c1 => ?_) (fun c1 => ?_))))))))
 ·refine W_sr (sV rfl (py_assign rfl) (s_nil (W_ret (hQ _ _ (fin1 Tryz.results9 rfl ?_)))))
  exact ⟨H2.ext, rfl⟩
 ·refine W_skip (W_seq ?_)
  have hsz : szWld z ≤ 1048576 := by omega
  have hmk := mkWld_le z
  have cnt := sharersOf_len (z := z) (g := g)
  have hOk := sharersOf_Ok (z := z) (g := g)
  refine W_reg (sV rfl (py_loadS Tryz.underlying28 rfl Tryz.sizeOf28 rfl rfl (At.whole (H2.box 0 rfl))) (s_call (wn rfl) rfl rfl (pc_call Tryz.func17 rfl Tryz_nm17 rfl) (Tryz_laws_toWorld (by assumption) (H2.sees 0 rfl) (H2.sees 1 rfl) (H2.sees 2 rfl) (by assumption)) (fun v2 w3 r2 => ?_)))
  obtain ⟨e3, sa1, sk1, sa2, sk2, sa3, sk3, rfl, r2⟩ := r2
  obtain ⟨fp1, H3⟩ := H2.res e3 r2
  have H4 := H3.share 1 rfl
  obtain ⟨sf1, sf2, sf3, sq1, sok1, so1, so2, so3⟩ := own_WldC (H4.seen 3 rfl)
  have H6 := H4.look1 3 rfl so1 (fun b hb => by rw [sq1]; simp [hb])
  have H7 := H6.look1 3 rfl so2 (fun b hb => by rw [sq1]; simp [hb])
  have H8 := H7.look1 3 rfl so3 (fun b hb => by rw [sq1]; simp [hb])
  refine sV rfl (py_move rfl) (s_call (wn rfl) rfl rfl (pc_call Tryz.func45 rfl Tryz_nm45 rfl) (Tryz_spec_SharersOf (by assumption) (H8.sees 4 rfl) (H8.sees 5 rfl) (H8.sees 6 rfl)) (fun v3 w4 r3 => ?_))
  obtain ⟨e4, sa4, sk4, rfl, r3⟩ := r3
  obtain ⟨fp2, H9⟩ := H8.res e4 r3
  have H10 := H9.share 2 rfl
  obtain ⟨sf4, sq2, sok2, so4⟩ := own_BytesResultC (H10.seen 7 rfl)
  have H12 := H10.look1 7 rfl so4 (fun b hb => by rw [sq2]; simp [hb])
  refine s_var (wn rfl) rfl Tryz.zeroValue72 H12 (fun b2 w5 e5 g2 H13 => ?_)
  refine s_stoS (wn rfl) Tryz.sizeOf72 rfl rfl rfl rfl H13 3 rfl rfl (fun w6 e6 H14 => ?_)
  dsimp only [List.nil_append, List.cons_append, List.set_cons_zero, List.set_cons_succ, layL] at H14
  refine s_nil (W_sr (sV rfl (py_loadS Tryz.underlying28 rfl Tryz.sizeOf28 rfl rfl (At.whole (H14.box 0 rfl))) (s_call (wn rfl) rfl rfl (pc_call Tryz.func17 rfl Tryz_nm17 rfl) (Tryz_laws_toWorld (by assumption) (H14.sees 0 rfl) (H14.sees 1 rfl) (H14.sees 2 rfl) (by assumption)) (fun v4 w7 r4 => ?_))))
  obtain ⟨e7, sa5, sk5, sa6, sk6, sa7, sk7, rfl, r4⟩ := r4
  obtain ⟨fp3, H15⟩ := H14.res e7 r4
  refine s_var (wn rfl) rfl Tryz.zeroValue37 H15 (fun b3 w8 e8 g3 H16 => ?_)
  refine s_stoS (wn rfl) Tryz.sizeOf37 rfl rfl rfl rfl H16 5 rfl rfl (fun w9 e9 H17 => ?_)
  dsimp only [List.nil_append, List.cons_append, List.set_cons_zero, List.set_cons_succ, layL] at H17
  refine s_nil (W_sr (sV rfl (py_loadS Tryz.underlying37 rfl Tryz.sizeOf37 rfl rfl (At.whole (H17.box 5 rfl))) (sV rfl (py_move rfl) (s_call (wn rfl) rfl rfl (pc_call Tryz.func46 rfl Tryz_nm46 rfl) (Tryz_impl_SharersOf (by assumption) (Wld.see9 (H17.mine 4 rfl)) (Wld.see10 (H17.mine 4 rfl)) (Wld.see11 (H17.mine 4 rfl))) (fun v5 w10 r5 => ?_)))))
  obtain ⟨e10, sa8, sk8, rfl, r5⟩ := r5
  obtain ⟨fp4, H18⟩ := H17.res e10 r5
  obtain ⟨sf5, sq3, sok3, so5⟩ := own_BytesResultC (H18.mine 6 rfl)
  have H19 := H18.part 6 rfl [mine [.slice _ (sharersOf z g).Bytes.length _] (sharersOf z g).Bytes sf5] (all_cons so5 (by simp)) (by simp [blocks, mine, sq3])
  try dsimp only [List.nil_append, List.cons_append, List.set_cons_zero, List.set_cons_succ] at H19
  refine s_var (wn rfl) rfl Tryz.zeroValue72 H19 (fun b4 w11 e11 g4 H20 => ?_)
  refine s_stoS (wn rfl) Tryz.sizeOf72 rfl rfl rfl rfl H20 8 rfl rfl (fun w12 e12 H21 => ?_)
  dsimp only [List.nil_append, List.cons_append, List.set_cons_zero, List.set_cons_succ, layL] at H21
  refine s_nil (W_seq (W_sr (sV rfl (py_loadS Tryz.underlying72 rfl Tryz.sizeOf72 rfl rfl (At.whole (H21.box 8 rfl))) (sV rfl (py_loadS Tryz.underlying72 rfl Tryz.sizeOf72 rfl rfl (At.whole (H21.box 3 rfl))) (s_call (wn rfl) rfl rfl (pc_call Tryz.func47 rfl Tryz_nm47 rfl) (Tryz_w_eqBytesResult (by assumption) (H21.msees 7 rfl) (by assumption) (H21.sees 8 rfl)) (fun v6 w13 r6 => ?_))))))
  obtain ⟨e13, rfl⟩ := r6
  have H22 := H21.to e13
  refine sV rfl (py_not rfl) (s_nil (W_if rfl (fun c2 => ?_) (fun c2 => ?_)))
  ·exfalso; simp_all
  ·refine W_skip (W_seq (W_seq (W_drw (S := Ext No _) [(0, true), (1, true), (2, false), (3, false), (4, false)] (by kernel_rfl) (by kernel_rfl) (by kernel_rfl) rfl (fun _ => Ext.refl.drawn _) (fun q1 => ?_))))
   have H23 := H22.drawn q1
   refine dV rfl rfl (fun zw hx => py_loadS Tryz.underlying37 rfl Tryz.sizeOf37 rfl rfl (At.whole (hx.heap (H23.box 5 rfl)))) (dV rfl rfl (fun zw hx => py_loadS Tryz.underlying28 rfl Tryz.sizeOf28 rfl rfl (At.whole (hx.heap (H23.box 0 rfl)))) (d_call rfl (wn rfl) rfl rfl (pc_call Tryz.func17 rfl Tryz_nm17 rfl) (Tryz_laws_toWorld (by assumption) (H23.sees 0 rfl) (H23.sees 1 rfl) (H23.sees 2 rfl) (by assumption)) (fun hS _ _ r _ => hS.trans r.1.no) (fun v7 w14 r7 => ?_)))
   obtain ⟨e14, sa9, sk9, sa10, sk10, sa11, sk11, rfl, r7⟩ := r7
   obtain ⟨fp5, H24⟩ := H23.res e14 r7
   have H25 := H24.share 9 rfl
   obtain ⟨sf6, sf7, sf8, sq4, sok4, so6, so7, so8⟩ := own_WldC (H25.seen 9 rfl)
   have H27 := H25.look1 9 rfl so6 (fun b hb => by rw [sq4]; simp [hb])
   have H28 := H27.look1 9 rfl so7 (fun b hb => by rw [sq4]; simp [hb])
   have H29 := H28.look1 9 rfl so8 (fun b hb => by rw [sq4]; simp [hb])
   refine d_call rfl (wn rfl) rfl rfl (pc_call Tryz.func20 rfl Tryz_nm20 rfl) (Tryz_laws_eqWorld (by assumption) (Wld.see9 (H29.mine 4 rfl)) (Wld.see10 (H29.mine 4 rfl)) (Wld.see11 (H29.mine 4 rfl)) (by assumption) (H29.sees 10 rfl) (H29.sees 11 rfl) (H29.sees 12 rfl)) (fun hS _ _ r _ => hS.trans r.1.no) (fun v8 w15 r8 => ?_)
   obtain ⟨e15, rfl⟩ := r8
   have H30 := H29.to e15
   refine d_end rfl (wn rfl) rfl rfl (py_not rfl) (d_nil (W_if rfl (fun c3 => ?_) (fun c3 => ?_)))
   ·exfalso; simp_all
   ·refine W_skip (W_sr (sV rfl (py_assign rfl) (s_nil (W_sr (sV rfl (py_loadS Tryz.underlying37 rfl Tryz.sizeOf37 rfl rfl (At.whole (H30.box 5 rfl))) (sV rfl (py_move rfl) (s_call (wn rfl) rfl rfl (pc_call Tryz.func24 rfl Tryz_nm24 rfl) (Tryz_laws_markWorld (by assumption) (H30.mine 4 rfl) (H30.nodup1 (i := 4) rfl) (by constructor <;> omega)) (fun v9 w16 r9 => ?_))))))))
    obtain ⟨rfl, mx1, mm1, ml1⟩ := r9
    obtain ⟨fp6, H31⟩ := H30.mut 4 rfl mm1
    try dsimp only [List.nil_append, List.cons_append, List.set_cons_zero, List.set_cons_succ] at H31
    refine sV rfl (py_assign rfl) (s_nil (W_seq (W_sr (sV rfl (py_move rfl) (sV rfl (py_lss rfl rfl) (sV rfl (py_move rfl) (s_grp 4 (j := 2) (want := false) (t := 45) rfl rfl rfl rfl (fun hg1 kk1 => s_val (wgE rfl rfl rfl hg1) rfl rfl (py_loadS Tryz.underlying72 rfl Tryz.sizeOf72 rfl rfl (At.whole (H31.box 8 rfl))) (s_val (wgE rfl rfl rfl hg1) rfl rfl (py_loadS Tryz.underlying72 rfl Tryz.sizeOf72 rfl rfl (At.whole (H31.box 3 rfl))) (s_callv (wgE rfl rfl rfl hg1) rfl rfl (pc_call Tryz.func47 rfl Tryz_nm47 rfl) (Tryz_w_eqBytesResult (by assumption) (H31.msees 7 rfl) (by assumption) (H31.sees 8 rfl)) (fun w18 e18 => s_val (wgE rfl rfl rfl hg1) rfl rfl (py_not rfl) (kk1 _ _ (kx rfl (kx rfl (kx rfl (kx rfl k0)))) rfl (Ext.refl.trans e18)))))) (fun w17 e17 => ?_))))))))
    have H32 := H31.to e17
    refine sV rfl (py_bor rfl rfl) (s_nil (W_if rfl (fun c4 => ?_) (fun c4 => ?_)))
    ·exact absurd c4 (by simp; omega)
    ·refine W_skip (W_sr (sV rfl (py_assign rfl) (s_nil (W_sr (sV rfl (py_loadS Tryz.underlying72 rfl Tryz.sizeOf72 rfl rfl (At.whole (H32.box 8 rfl))) (sV rfl (py_move rfl) (s_call (wn rfl) rfl rfl (pc_call Tryz.func48 rfl Tryz_nm48 rfl) (Tryz_w_markBytesResult (H32.mine 7 rfl) (H32.nodup1 (i := 7) rfl) (by constructor <;> omega)) (fun v10 w19 r10 => ?_))))))))
     obtain ⟨rfl, mx2, mm2, ml2, mk1⟩ := r10
     obtain ⟨fp7, H33⟩ := H32.mut 7 rfl mm2
     try dsimp only [List.nil_append, List.cons_append, List.set_cons_zero, List.set_cons_succ] at H33
     refine sV rfl (py_assign rfl) (s_nil (W_sr (sV rfl (py_assign rfl) (s_nil (W_sr (sV rfl (py_loadS Tryz.underlying72 rfl Tryz.sizeOf72 rfl rfl (At.whole (H33.box 8 rfl))) (sV rfl (py_move rfl) (s_call (wn rfl) rfl rfl (pc_call Tryz.func49 rfl Tryz_nm49 rfl) (Tryz_w_heldBytesResult (H33.msees 7 rfl) (by constructor <;> omega) (by assumption)) (fun v11 w20 r11 => ?_)))))))))
     obtain ⟨e20, rfl⟩ := r11
     have H34 := H33.to e20
     refine sV rfl (py_assign rfl) (s_nil (W_seq (W_sr (sV rfl (py_move rfl) (sV rfl (py_lss rfl rfl) (s_nil (W_ifd rfl (fun c5 => ?_) (fun c5 => ?_))))))))
     ·exact absurd c5 (by omega)
     ·refine W_skip (W_seq (W_sr (sV rfl (py_move rfl) (sV rfl (py_move rfl) (sV rfl (py_neq rfl rfl) (s_nil (W_ifd rfl (fun c6 => ?_) (fun c6 => ?_))))))))
      ·exact absurd c6 (by omega)
      ·refine W_skip (W_sr (sV rfl (py_loadS Tryz.underlying28 rfl Tryz.sizeOf28 rfl rfl (At.whole (H34.box 0 rfl))) (s_call (wn rfl) rfl rfl (pc_call Tryz.func17 rfl Tryz_nm17 rfl) (Tryz_laws_toWorld (by assumption) (H34.sees 0 rfl) (H34.sees 1 rfl) (H34.sees 2 rfl) (by assumption)) (fun v12 w21 r12 => ?_))))
       obtain ⟨e21, sa12, sk12, sa13, sk13, sa14, sk14, rfl, r12⟩ := r12
       obtain ⟨fp8, H35⟩ := H34.res e21 r12
       have H36 := H35.share 10 rfl
       obtain ⟨sf9, sf10, sf11, sq5, sok5, so9, so10, so11⟩ := own_WldC (H36.seen 13 rfl)
       have H38 := H36.look1 13 rfl so9 (fun b hb => by rw [sq5]; simp [hb])
       have H39 := H38.look1 13 rfl so10 (fun b hb => by rw [sq5]; simp [hb])
       have H40 := H39.look1 13 rfl so11 (fun b hb => by rw [sq5]; simp [hb])
       refine sV rfl (py_move rfl) (s_call (wn rfl) rfl rfl (pc_call Tryz.func46 rfl Tryz_nm46 rfl) (Tryz_impl_SharersOf (by assumption) (H40.sees 14 rfl) (H40.sees 15 rfl) (H40.sees 16 rfl)) (fun v13 w22 r13 => ?_))
       obtain ⟨e22, sa15, sk15, rfl, r13⟩ := r13
       obtain ⟨fp9, H41⟩ := H40.res e22 r13
       have H42 := H41.share 11 rfl
       obtain ⟨sf12, sq6, sok6, so12⟩ := own_BytesResultC (H42.seen 17 rfl)
       have H44 := H42.look1 17 rfl so12 (fun b hb => by rw [sq6]; simp [hb])
       refine s_var (wn rfl) rfl Tryz.zeroValue72 H44 (fun b5 w23 e23 g5 H45 => ?_)
       refine s_stoS (wn rfl) Tryz.sizeOf72 rfl rfl rfl rfl H45 12 rfl rfl (fun w24 e24 H46 => ?_)
       dsimp only [List.nil_append, List.cons_append, List.set_cons_zero, List.set_cons_succ, layL] at H46
       refine s_nil (W_seq (W_sr (sV rfl (py_loadS Tryz.underlying72 rfl Tryz.sizeOf72 rfl rfl (At.whole (H46.box 12 rfl))) (sV rfl (py_loadS Tryz.underlying72 rfl Tryz.sizeOf72 rfl rfl (At.whole (H46.box 3 rfl))) (s_call (wn rfl) rfl rfl (pc_call Tryz.func47 rfl Tryz_nm47 rfl) (Tryz_w_eqBytesResult (by assumption) (H46.sees 18 rfl) (by assumption) (H46.sees 8 rfl)) (fun v14 w25 r14 => ?_))))))
       obtain ⟨e25, rfl⟩ := r14
       have H47 := H46.to e25
       refine sV rfl (py_not rfl) (s_nil (W_if rfl (fun c7 => ?_) (fun c7 => ?_)))
       ·exfalso; simp_all
       ·refine W_skip (W_sr (sV rfl (py_assign rfl) (s_nil (W_sr (sV rfl (py_loadS Tryz.underlying72 rfl Tryz.sizeOf72 rfl rfl (At.whole (H47.box 8 rfl))) (sV rfl (py_move rfl) (s_call (wn rfl) rfl rfl (pc_call Tryz.func49 rfl Tryz_nm49 rfl) (Tryz_w_heldBytesResult (H47.msees 7 rfl) (by constructor <;> omega) (by assumption)) (fun v15 w26 r15 => ?_))))))))
        obtain ⟨e26, rfl⟩ := r15
        have H48 := H47.to e26
        refine sV rfl (py_assign rfl) (s_nil (W_seq (W_sr (sV rfl (py_move rfl) (sV rfl (py_lss rfl rfl) (s_nil (W_ifd rfl (fun c8 => ?_) (fun c8 => ?_))))))))
        ·exact absurd c8 (by omega)
        ·refine W_skip (W_seq (W_sr (sV rfl (py_move rfl) (sV rfl (py_move rfl) (sV rfl (py_neq rfl rfl) (s_nil (W_ifd rfl (fun c9 => ?_) (fun c9 => ?_))))))))
         ·exact absurd c9 (by omega)
         ·refine W_skip (W_sr (sV rfl (py_assign rfl) (s_nil (W_ret (hQ _ _ (fin1 Tryz.results9 rfl ?_))))))
          exact ⟨H48.ext, rfl⟩
end Go.Wk
