/-
  Laws on walking, and the functions walked, each once: what this claim comes to.
-/
import Derived.Test.YthfpkjhjkbpbiaaGreatZf0
set_option linter.unusedVariables false
set_option linter.unusedSimpArgs false
namespace Go.Wk
open Go.Proofs
theorem ts112 : type_of% @Tryz.sizeOf112 := @Tryz.sizeOf112
theorem ts132 : type_of% @Tryz.sizeOf132 := @Tryz.sizeOf132
theorem ts134 : type_of% @Tryz.sizeOf134 := @Tryz.sizeOf134
theorem ts136 : type_of% @Tryz.sizeOf136 := @Tryz.sizeOf136
theorem ts139 : type_of% @Tryz.sizeOf139 := @Tryz.sizeOf139
theorem ts142 : type_of% @Tryz.sizeOf142 := @Tryz.sizeOf142
theorem ts167 : type_of% @Tryz.sizeOf167 := @Tryz.sizeOf167
theorem ts178 : type_of% @Tryz.sizeOf178 := @Tryz.sizeOf178
theorem ts180 : type_of% @Tryz.sizeOf180 := @Tryz.sizeOf180
theorem ts182 : type_of% @Tryz.sizeOf182 := @Tryz.sizeOf182
theorem ts2 : type_of% @Tryz.sizeOf2 := @Tryz.sizeOf2
theorem ts208 : type_of% @Tryz.sizeOf208 := @Tryz.sizeOf208
theorem ts210 : type_of% @Tryz.sizeOf210 := @Tryz.sizeOf210
theorem ts23 : type_of% @Tryz.sizeOf23 := @Tryz.sizeOf23
theorem ts24 : type_of% @Tryz.sizeOf24 := @Tryz.sizeOf24
theorem ts25 : type_of% @Tryz.sizeOf25 := @Tryz.sizeOf25
theorem ts26 : type_of% @Tryz.sizeOf26 := @Tryz.sizeOf26
theorem ts28 : type_of% @Tryz.sizeOf28 := @Tryz.sizeOf28
theorem ts283 : type_of% @Tryz.sizeOf283 := @Tryz.sizeOf283
theorem ts30 : type_of% @Tryz.sizeOf30 := @Tryz.sizeOf30
theorem ts34 : type_of% @Tryz.sizeOf34 := @Tryz.sizeOf34
theorem ts35 : type_of% @Tryz.sizeOf35 := @Tryz.sizeOf35
theorem ts36 : type_of% @Tryz.sizeOf36 := @Tryz.sizeOf36
theorem ts38 : type_of% @Tryz.sizeOf38 := @Tryz.sizeOf38
theorem ts4 : type_of% @Tryz.sizeOf4 := @Tryz.sizeOf4
theorem ts45 : type_of% @Tryz.sizeOf45 := @Tryz.sizeOf45
theorem ts5 : type_of% @Tryz.sizeOf5 := @Tryz.sizeOf5
theorem ts63 : type_of% @Tryz.sizeOf63 := @Tryz.sizeOf63
theorem ts66 : type_of% @Tryz.sizeOf66 := @Tryz.sizeOf66
theorem ts68 : type_of% @Tryz.sizeOf68 := @Tryz.sizeOf68
theorem ts9 : type_of% @Tryz.sizeOf9 := @Tryz.sizeOf9
theorem tu112 : type_of% @Tryz.underlying112 := @Tryz.underlying112
theorem tu132 : type_of% @Tryz.underlying132 := @Tryz.underlying132
theorem tu134 : type_of% @Tryz.underlying134 := @Tryz.underlying134
theorem tu136 : type_of% @Tryz.underlying136 := @Tryz.underlying136
theorem tu139 : type_of% @Tryz.underlying139 := @Tryz.underlying139
theorem tu142 : type_of% @Tryz.underlying142 := @Tryz.underlying142
theorem tu167 : type_of% @Tryz.underlying167 := @Tryz.underlying167
theorem tu178 : type_of% @Tryz.underlying178 := @Tryz.underlying178
theorem tu180 : type_of% @Tryz.underlying180 := @Tryz.underlying180
theorem tu182 : type_of% @Tryz.underlying182 := @Tryz.underlying182
theorem tu2 : type_of% @Tryz.underlying2 := @Tryz.underlying2
theorem tu208 : type_of% @Tryz.underlying208 := @Tryz.underlying208
theorem tu210 : type_of% @Tryz.underlying210 := @Tryz.underlying210
theorem tu23 : type_of% @Tryz.underlying23 := @Tryz.underlying23
theorem tu237 : type_of% @Tryz.underlying237 := @Tryz.underlying237
theorem tu24 : type_of% @Tryz.underlying24 := @Tryz.underlying24
theorem tu25 : type_of% @Tryz.underlying25 := @Tryz.underlying25
theorem tu26 : type_of% @Tryz.underlying26 := @Tryz.underlying26
theorem tu28 : type_of% @Tryz.underlying28 := @Tryz.underlying28
theorem tu283 : type_of% @Tryz.underlying283 := @Tryz.underlying283
theorem tu3 : type_of% @Tryz.underlying3 := @Tryz.underlying3
theorem tu30 : type_of% @Tryz.underlying30 := @Tryz.underlying30
theorem tu34 : type_of% @Tryz.underlying34 := @Tryz.underlying34
theorem tu35 : type_of% @Tryz.underlying35 := @Tryz.underlying35
theorem tu36 : type_of% @Tryz.underlying36 := @Tryz.underlying36
theorem tu38 : type_of% @Tryz.underlying38 := @Tryz.underlying38
theorem tu4 : type_of% @Tryz.underlying4 := @Tryz.underlying4
theorem tu45 : type_of% @Tryz.underlying45 := @Tryz.underlying45
theorem tu5 : type_of% @Tryz.underlying5 := @Tryz.underlying5
theorem tu63 : type_of% @Tryz.underlying63 := @Tryz.underlying63
theorem tu66 : type_of% @Tryz.underlying66 := @Tryz.underlying66
theorem tu68 : type_of% @Tryz.underlying68 := @Tryz.underlying68
theorem tu82 : type_of% @Tryz.underlying82 := @Tryz.underlying82
theorem tu9 : type_of% @Tryz.underlying9 := @Tryz.underlying9
end Go.Wk
namespace Go.Wk
open Go.Proofs Rp
set_option maxRecDepth 10000
theorem Tryz_laws_szInt64S {w : World} {xs : List Int} {xsA : Option Addr} {xsC : Nat} {l : Int} (xsS : Sees w [.slice xsA xs.length xsC] xs) (hl : -1 ≤ l ∧ l ≤ 1048576) : Ret Tryz.prog 60 #[.slice xsA xs.length xsC, .int .i64 l] w fun v w' => Ext No w w' ∧ (v = .int .i64 (if l - xs.length < 0 then -1 else l - xs.length)) := by
 have xsL := sL xsS
 obtain ⟨xsF, xsO⟩ := xsS
 refine ret_Q (vs := [.slice xsA xs.length xsC, .int .i64 l]) Tryz.func60 rfl Tryz.ntmps60 rfl (fun Q hQ hN => ?_)
 have H0 := Sep.start (w := w) (F := [seen false [.slice xsA xs.length xsC] xs xsF]) (all_cons xsO (by simp))
 refine W_sr (sA rfl rfl (s_nil (W_sr (sM rfl rfl (sM rfl rfl (sV rfl (py_len tu25 rfl) (sV rfl (py_sub rfl rfl (in64 ⟨by omega, by omega⟩)) (sA rfl rfl (s_nil (W_seq (W_sr (sM rfl rfl (sV rfl (py_lss rfl rfl) (s_nil (W_ifd rfl (fun c1 => ?_) (fun c1 => ?_))))))))))))))))
 ·refine W_sr (sA rfl rfl (s_nil (rT hQ Tryz.results60 rfl ?_)))
  exact ⟨H0.ext, by rw [if_pos c1]⟩
 ·refine W_skip (W_sr (sM rfl rfl (sA rfl rfl (s_nil (rT hQ Tryz.results60 rfl ?_)))))
  exact ⟨H0.ext, by rw [if_neg c1]⟩
theorem Tryz_laws_eqInt64S {w : World} {xs ys : List Int} {xsA ysA : Option Addr} {xsC ysC : Nat} (xsS : Sees w [.slice xsA xs.length xsC] xs) (ysS : Sees w [.slice ysA ys.length ysC] ys) : Ret Tryz.prog 78 #[.slice xsA xs.length xsC, .slice ysA ys.length ysC] w fun v w' => Ext No w w' ∧ (v = .bool (decide (xs = ys))) := by
 have xsL := sL xsS
 obtain ⟨xsF, xsO⟩ := xsS
 have ysL := sL ysS
 obtain ⟨ysF, ysO⟩ := ysS
 refine ret_Q (vs := [.slice xsA xs.length xsC, .slice ysA ys.length ysC]) Tryz.func78 rfl Tryz.ntmps78 rfl (fun Q hQ hN => ?_)
 have H0 := Sep.start (w := w) (F := [seen false [.slice xsA xs.length xsC] xs xsF, seen false [.slice ysA ys.length ysC] ys ysF]) (all_cons xsO (all_cons ysO (by simp)))
 refine W_sr (sA rfl rfl (s_nil (W_seq (W_sr (sM rfl rfl (sV rfl (py_len tu25 rfl) (sM rfl rfl (sV rfl (py_len tu25 rfl) (sV rfl (py_neq rfl rfl) (s_nil (W_ifd rfl (fun c1 => ?_) (fun c1 => ?_))))))))))))
 ·refine W_sr (sA rfl rfl (s_nil (rT hQ Tryz.results78 rfl (⟨H0.ext, ?_⟩))))
  rw [decide_eq_false (fun e => by subst e; exact c1 rfl)]
 ·refine W_skip (W_seq (W_sr (sA rfl rfl (s_nil (W_block (W_loop (γ := Nat) (fun k => [(0, .slice xsA xs.length xsC), (1, .slice ysA ys.length ysC), (5, .int .i64 k)]) (fun k w' => Sep No w [] [seen false [.slice xsA xs.length xsC] xs xsF, seen false [.slice ysA ys.length ysC] ys ysF] w' ∧ k ≤ xs.length ∧ (∀ i, i < k → xs.getD i 0 = ys.getD i 0)) (fun k => xs.length - k) 0 ⟨rfl, rfl, rfl, trivial⟩ ⟨H0, by omega, fun i hi => by omega⟩ (fun k w1 H1 => ?_)))))))
  obtain ⟨H1, hk, he⟩ := H1
  refine W_seq (W_sr (sM rfl rfl (sM rfl rfl (sV rfl (py_len tu25 rfl) (sV rfl (py_lss rfl rfl) (s_nil (W_ifd rfl (fun c2 => ?_) (fun c2 => ?_))))))))
  ·refine W_skip (W_seq (W_block (W_seq ?_)))
   obtain ⟨eb1, eo1, ee1, ec1⟩ := elem_int (H1.seen 0 rfl) k (by omega)
   have eI1 := elem_i64 (H1.seen 0 rfl) k (by omega)
   obtain ⟨eb2, eo2, ee2, ec2⟩ := elem_int (H1.seen 1 rfl) k (by omega)
   have eI2 := elem_i64 (H1.seen 1 rfl) k (by omega)
   refine W_drw (S := Ext No _) [(0, true), (1, true), (2, true), (3, true), (4, true), (5, true), (6, true), (7, true), (8, false)] (by kernel_rfl) (by kernel_rfl) (by kernel_rfl) rfl (fun _ => Ext.refl.drawn _) (fun q1 => ?_)
   have H2 := H1.drawn q1
   refine dM rfl rfl rfl (dM rfl rfl rfl (dV rfl rfl (fun zw hx => py_elz tu25 ts2 rfl rfl ee1 k (by omega) (by omega)) (dV rfl rfl (fun zw hx => py_load tu2 rfl rfl (hx.cell ec1)) (dM rfl rfl rfl (dM rfl rfl rfl (dV rfl rfl (fun zw hx => py_elz tu25 ts2 rfl rfl ee2 k (by omega) (by omega)) (dV rfl rfl (fun zw hx => py_load tu2 rfl rfl (hx.cell ec2)) (d_end rfl (wn rfl) rfl rfl (py_neq rfl rfl) (d_nil (W_ifd rfl (fun c3 => ?_) (fun c3 => ?_)))))))))))
   ·refine W_sr (sA rfl rfl (s_nil (rT hQ Tryz.results78 rfl (⟨H2.ext, ?_⟩))))
    rw [decide_eq_false (fun e => by subst e; exact c3 rfl)]
   ·refine W_skip (W_reg (sM rfl rfl (sV rfl (py_add rfl rfl (in64 ⟨by omega, by omega⟩)) (sA rfl rfl (s_nil (⟨k + 1, ⟨rfl, rfl, rfl, trivial⟩, ⟨H2, by omega, fun i hi => ?_⟩, by dsimp only; omega⟩))))))
    have c4 : xs.getD k 0 = ys.getD k 0 := by omega
    by_cases e : i = k
    ·subst e; exact c4
    ·exact he i (by omega)
  ·refine W_exit (W_sr (sA rfl rfl (s_nil (rT hQ Tryz.results78 rfl (⟨H1.ext, ?_⟩)))))
   rw [decide_eq_true (getD_ext (d := 0) (by omega) fun i hi => he i (by omega))]
theorem Tryz_laws_szByteS {w : World} {xs : List UInt8} {xsA : Option Addr} {xsC : Nat} {l : Int} (xsS : Sees w [.slice xsA xs.length xsC] xs) (hl : -1 ≤ l ∧ l ≤ 1048576) : Ret Tryz.prog 110 #[.slice xsA xs.length xsC, .int .i64 l] w fun v w' => Ext No w w' ∧ (v = .int .i64 (if l - xs.length < 0 then -1 else l - xs.length)) := by
 have xsL := sL xsS
 obtain ⟨xsF, xsO⟩ := xsS
 refine ret_Q (vs := [.slice xsA xs.length xsC, .int .i64 l]) Tryz.func110 rfl Tryz.ntmps110 rfl (fun Q hQ hN => ?_)
 have H0 := Sep.start (w := w) (F := [seen false [.slice xsA xs.length xsC] xs xsF]) (all_cons xsO (by simp))
 refine W_sr (sA rfl rfl (s_nil (W_sr (sM rfl rfl (sM rfl rfl (sV rfl (py_len tu45 rfl) (sV rfl (py_sub rfl rfl (in64 ⟨by omega, by omega⟩)) (sA rfl rfl (s_nil (W_seq (W_sr (sM rfl rfl (sV rfl (py_lss rfl rfl) (s_nil (W_ifd rfl (fun c1 => ?_) (fun c1 => ?_))))))))))))))))
 ·refine W_sr (sA rfl rfl (s_nil (rT hQ Tryz.results110 rfl ?_)))
  exact ⟨H0.ext, by rw [if_pos c1]⟩
 ·refine W_skip (W_sr (sM rfl rfl (sA rfl rfl (s_nil (rT hQ Tryz.results110 rfl ?_)))))
  exact ⟨H0.ext, by rw [if_neg c1]⟩
theorem Tryz_laws_eqByteS {w : World} {xs ys : List UInt8} {xsA ysA : Option Addr} {xsC ysC : Nat} (xsS : Sees w [.slice xsA xs.length xsC] xs) (ysS : Sees w [.slice ysA ys.length ysC] ys) : Ret Tryz.prog 87 #[.slice xsA xs.length xsC, .slice ysA ys.length ysC] w fun v w' => Ext No w w' ∧ (v = .bool (decide (xs = ys))) := by
 have xsL := sL xsS
 obtain ⟨xsF, xsO⟩ := xsS
 have ysL := sL ysS
 obtain ⟨ysF, ysO⟩ := ysS
 refine ret_Q (vs := [.slice xsA xs.length xsC, .slice ysA ys.length ysC]) Tryz.func87 rfl Tryz.ntmps87 rfl (fun Q hQ hN => ?_)
 have H0 := Sep.start (w := w) (F := [seen false [.slice xsA xs.length xsC] xs xsF, seen false [.slice ysA ys.length ysC] ys ysF]) (all_cons xsO (all_cons ysO (by simp)))
 refine W_sr (sA rfl rfl (s_nil (W_seq (W_sr (sM rfl rfl (sV rfl (py_len tu45 rfl) (sM rfl rfl (sV rfl (py_len tu45 rfl) (sV rfl (py_neq rfl rfl) (s_nil (W_ifd rfl (fun c1 => ?_) (fun c1 => ?_))))))))))))
 ·refine W_sr (sA rfl rfl (s_nil (rT hQ Tryz.results87 rfl (⟨H0.ext, ?_⟩))))
  rw [decide_eq_false (fun e => by subst e; exact c1 rfl)]
 ·refine W_skip (W_seq (W_sr (sA rfl rfl (s_nil (W_block (W_loop (γ := Nat) (fun k => [(0, .slice xsA xs.length xsC), (1, .slice ysA ys.length ysC), (5, .int .i64 k)]) (fun k w' => Sep No w [] [seen false [.slice xsA xs.length xsC] xs xsF, seen false [.slice ysA ys.length ysC] ys ysF] w' ∧ k ≤ xs.length ∧ (∀ i, i < k → xs.getD i 0 = ys.getD i 0)) (fun k => xs.length - k) 0 ⟨rfl, rfl, rfl, trivial⟩ ⟨H0, by omega, fun i hi => by omega⟩ (fun k w1 H1 => ?_)))))))
  obtain ⟨H1, hk, he⟩ := H1
  refine W_seq (W_sr (sM rfl rfl (sM rfl rfl (sV rfl (py_len tu45 rfl) (sV rfl (py_lss rfl rfl) (s_nil (W_ifd rfl (fun c2 => ?_) (fun c2 => ?_))))))))
  ·refine W_skip (W_seq (W_block (W_seq ?_)))
   obtain ⟨eb1, eo1, ee1, ec1⟩ := elem_u8 (H1.seen 0 rfl) k (by omega)
   obtain ⟨eb2, eo2, ee2, ec2⟩ := elem_u8 (H1.seen 1 rfl) k (by omega)
   refine W_drw (S := Ext No _) [(0, true), (1, true), (2, true), (3, true), (4, true), (5, true), (6, true), (7, true), (8, false)] (by kernel_rfl) (by kernel_rfl) (by kernel_rfl) rfl (fun _ => Ext.refl.drawn _) (fun q1 => ?_)
   have H2 := H1.drawn q1
   refine dM rfl rfl rfl (dM rfl rfl rfl (dV rfl rfl (fun zw hx => py_elz tu45 ts5 rfl rfl ee1 k (by omega) (by omega)) (dV rfl rfl (fun zw hx => py_load tu5 rfl rfl (hx.cell ec1)) (dM rfl rfl rfl (dM rfl rfl rfl (dV rfl rfl (fun zw hx => py_elz tu45 ts5 rfl rfl ee2 k (by omega) (by omega)) (dV rfl rfl (fun zw hx => py_load tu5 rfl rfl (hx.cell ec2)) (d_end rfl (wn rfl) rfl rfl (py_neq rfl rfl) (d_nil (W_ifd rfl (fun c3 => ?_) (fun c3 => ?_)))))))))))
   ·refine W_sr (sA rfl rfl (s_nil (rT hQ Tryz.results87 rfl (⟨H2.ext, ?_⟩))))
    rw [decide_eq_false (fun e => by subst e; exact c3 rfl)]
   ·refine W_skip (W_reg (sM rfl rfl (sV rfl (py_add rfl rfl (in64 ⟨by omega, by omega⟩)) (sA rfl rfl (s_nil (⟨k + 1, ⟨rfl, rfl, rfl, trivial⟩, ⟨H2, by omega, fun i hi => ?_⟩, by dsimp only; omega⟩))))))
    have c4 : xs.getD k 0 = ys.getD k 0 := by apply u8_inj.1; omega
    by_cases e : i = k
    ·subst e; exact c4
    ·exact he i (by omega)
  ·refine W_exit (W_sr (sA rfl rfl (s_nil (rT hQ Tryz.results87 rfl (⟨H1.ext, ?_⟩)))))
   rw [decide_eq_true (getD_ext (d := 0) (by omega) fun i hi => he i (by omega))]
theorem Tryz_laws_toInt64S {w : World} {xs : List Int} {xsA : Option Addr} {xsC : Nat} (xsS : Sees w [.slice xsA xs.length xsC] xs) (hl : xs.length ≤ 1048576) : Ret Tryz.prog 68 #[.slice xsA xs.length xsC] w fun v w' => Ext No w w' ∧ (Res w w' [v] xs) := by
 have xsL := sL xsS
 obtain ⟨xsF, xsO⟩ := xsS
 refine ret_Q (vs := [.slice xsA xs.length xsC]) Tryz.func68 rfl Tryz.ntmps68 rfl (fun Q hQ hN => ?_)
 have H0 := Sep.start (w := w) (F := [seen false [.slice xsA xs.length xsC] xs xsF]) (all_cons xsO (by simp))
 refine W_sr (sA rfl rfl (s_nil (W_sr (sM rfl rfl (sV rfl (py_len tu25 rfl) (s_make (wn rfl) rfl tu25 Tryz_ty2 own_zi rfl (by omega) (by unfold maxLen; omega) H0 (fun b1 w1 e1 g1 H1 => ?_)))))))
 refine sA rfl rfl (s_nil (W_seq (W_sr (sA rfl rfl (s_nil (W_block (W_loop (γ := Nat × List Nat) (fun (k, fp) => [(0, .slice xsA xs.length xsC), (3, .slice (some ⟨b1, 0, none⟩) xs.length xs.length), (4, .int .i64 k)]) (fun (k, fp) w' => Sep No w [mine [.slice (some ⟨b1, 0, none⟩) xs.length xs.length] (cp xs k 0) fp] [seen false [.slice xsA xs.length xsC] xs xsF] w' ∧ k ≤ xs.length) (fun (k, fp) => xs.length - k) (0, [b1]) ⟨rfl, rfl, rfl, trivial⟩ ⟨cp_zero ▸ H1, by omega⟩ (fun (k, fp) w2 H2 => ?_))))))))
 obtain ⟨H2, hk⟩ := H2
 refine W_seq (W_sr (sM rfl rfl (sM rfl rfl (sV rfl (py_len tu25 rfl) (sV rfl (py_lss rfl rfl) (s_nil (W_ifd rfl (fun c1 => ?_) (fun c1 => ?_))))))))
 ·refine W_skip (W_seq (W_block ?_))
  obtain ⟨eb1, eo1, ee1, ec1⟩ := elem_int (H2.seen 0 rfl) k (by omega)
  have eI1 := elem_i64 (H2.seen 0 rfl) k (by omega)
  obtain ⟨eb2, eo2, ee2, ec2⟩ := elem_int (H2.mine 0 rfl) k (by rw [cp_len (xs := xs) (k := k) (by omega)]; omega)
  refine W_reg (sM rfl rfl (sM rfl rfl (sM rfl rfl (sM rfl rfl (sV rfl (py_elz tu25 ts2 rfl rfl ee1 k (by omega) (by omega)) (sV rfl (py_load tu2 rfl rfl ec1) (sV rfl (py_elz tu25 ts2 rfl rfl ee2 k (by omega) (by omega)) (s_elst (wn rfl) ts2 rfl H2 0 rfl k (by rw [cp_len (xs := xs) (k := k) (by omega)]; omega) rfl ee2 rfl (own_bi (by first | assumption | (unfold I64ok; omega))) (fun w3 fp1 e2 H3 => ?_)))))))))
  refine s_nil (W_reg (sM rfl rfl (sV rfl (py_add rfl rfl (in64 ⟨by omega, by omega⟩)) (sA rfl rfl (s_nil (⟨(k + 1, _), ⟨rfl, rfl, rfl, trivial⟩, ⟨cp_set (xs := xs) (k := k) (d := 0) (by omega) ▸ H3, by omega⟩, by dsimp only; omega⟩))))))
 ·refine W_exit (W_sr (sM rfl rfl (sA rfl rfl (s_nil (rT hQ Tryz.results68 rfl ?_)))))
  obtain rfl : k = xs.length := by omega
  exact ⟨H2.ext, by
   have h := H2.out 0 rfl
   rwa [cp_all] at h⟩
theorem Tryz_laws_toByteS {w : World} {xs : List UInt8} {xsA : Option Addr} {xsC : Nat} (xsS : Sees w [.slice xsA xs.length xsC] xs) (hl : xs.length ≤ 1048576) : Ret Tryz.prog 116 #[.slice xsA xs.length xsC] w fun v w' => Ext No w w' ∧ (Res w w' [v] xs) := by
 have xsL := sL xsS
 obtain ⟨xsF, xsO⟩ := xsS
 refine ret_Q (vs := [.slice xsA xs.length xsC]) Tryz.func116 rfl Tryz.ntmps116 rfl (fun Q hQ hN => ?_)
 have H0 := Sep.start (w := w) (F := [seen false [.slice xsA xs.length xsC] xs xsF]) (all_cons xsO (by simp))
 refine W_sr (sA rfl rfl (s_nil (W_sr (sM rfl rfl (sV rfl (py_len tu45 rfl) (s_make (wn rfl) rfl tu45 Tryz_ty5 own_z8 rfl (by omega) (by unfold maxLen; omega) H0 (fun b1 w1 e1 g1 H1 => ?_)))))))
 refine sA rfl rfl (s_nil (W_seq (W_sr (sA rfl rfl (s_nil (W_block (W_loop (γ := Nat × List Nat) (fun (k, fp) => [(0, .slice xsA xs.length xsC), (3, .slice (some ⟨b1, 0, none⟩) xs.length xs.length), (4, .int .i64 k)]) (fun (k, fp) w' => Sep No w [mine [.slice (some ⟨b1, 0, none⟩) xs.length xs.length] (cp xs k 0) fp] [seen false [.slice xsA xs.length xsC] xs xsF] w' ∧ k ≤ xs.length) (fun (k, fp) => xs.length - k) (0, [b1]) ⟨rfl, rfl, rfl, trivial⟩ ⟨cp_zero ▸ H1, by omega⟩ (fun (k, fp) w2 H2 => ?_))))))))
 obtain ⟨H2, hk⟩ := H2
 refine W_seq (W_sr (sM rfl rfl (sM rfl rfl (sV rfl (py_len tu45 rfl) (sV rfl (py_lss rfl rfl) (s_nil (W_ifd rfl (fun c1 => ?_) (fun c1 => ?_))))))))
 ·refine W_skip (W_seq (W_block ?_))
  obtain ⟨eb1, eo1, ee1, ec1⟩ := elem_u8 (H2.seen 0 rfl) k (by omega)
  obtain ⟨eb2, eo2, ee2, ec2⟩ := elem_u8 (H2.mine 0 rfl) k (by rw [cp_len (xs := xs) (k := k) (by omega)]; omega)
  refine W_reg (sM rfl rfl (sM rfl rfl (sM rfl rfl (sM rfl rfl (sV rfl (py_elz tu45 ts5 rfl rfl ee1 k (by omega) (by omega)) (sV rfl (py_load tu5 rfl rfl ec1) (sV rfl (py_elz tu45 ts5 rfl rfl ee2 k (by omega) (by omega)) (s_elst (wn rfl) ts5 rfl H2 0 rfl k (by rw [cp_len (xs := xs) (k := k) (by omega)]; omega) rfl ee2 rfl own_b8 (fun w3 fp1 e2 H3 => ?_)))))))))
  refine s_nil (W_reg (sM rfl rfl (sV rfl (py_add rfl rfl (in64 ⟨by omega, by omega⟩)) (sA rfl rfl (s_nil (⟨(k + 1, _), ⟨rfl, rfl, rfl, trivial⟩, ⟨cp_set (xs := xs) (k := k) (d := 0) (by omega) ▸ H3, by omega⟩, by dsimp only; omega⟩))))))
 ·refine W_exit (W_sr (sM rfl rfl (sA rfl rfl (s_nil (rT hQ Tryz.results116 rfl ?_)))))
  obtain rfl : k = xs.length := by omega
  exact ⟨H2.ext, by
   have h := H2.out 0 rfl
   rwa [cp_all] at h⟩
theorem Tryz_spec_l1Has {w : World} {xs : List Int} {xsA : Option Addr} {xsC : Nat} {x : Int} (xsS : Sees w [.slice xsA xs.length xsC] xs) : Ret Tryz.prog 156 #[.slice xsA xs.length xsC, .int .i64 x] w fun v w' => Ext No w w' ∧ (v = .bool (decide (x ∈ xs))) := by
 have xsL := sL xsS
 obtain ⟨xsF, xsO⟩ := xsS
 refine ret_Q (vs := [.slice xsA xs.length xsC, .int .i64 x]) Tryz.func156 rfl Tryz.ntmps156 rfl (fun Q hQ hN => ?_)
 have H0 := Sep.start (w := w) (F := [seen false [.slice xsA xs.length xsC] xs xsF]) (all_cons xsO (by simp))
 refine W_sr (sA rfl rfl (s_nil (W_seq (W_sr (sA rfl rfl (s_nil (W_block (W_loop (γ := Nat) (fun k => [(0, .slice xsA xs.length xsC), (1, .int .i64 x), (5, .int .i64 k)]) (fun k w' => Sep No w [] [seen false [.slice xsA xs.length xsC] xs xsF] w' ∧ k ≤ xs.length ∧ (∀ i, i < k → xs.getD i 0 ≠ x)) (fun k => xs.length - k) 0 ⟨rfl, rfl, rfl, trivial⟩ ⟨H0, by omega, fun i hi => by omega⟩ (fun k w1 H1 => ?_)))))))))
 obtain ⟨H1, hk, he⟩ := H1
 refine W_seq (W_sr (sM rfl rfl (sM rfl rfl (sV rfl (py_len tu25 rfl) (sV rfl (py_lss rfl rfl) (s_nil (W_ifd rfl (fun c1 => ?_) (fun c1 => ?_))))))))
 ·refine W_skip (W_seq (W_block (W_seq ?_)))
  obtain ⟨eb1, eo1, ee1, ec1⟩ := elem_int (H1.seen 0 rfl) k (by omega)
  have eI1 := elem_i64 (H1.seen 0 rfl) k (by omega)
  refine W_reg (sM rfl rfl (sM rfl rfl (sV rfl (py_elz tu25 ts2 rfl rfl ee1 k (by omega) (by omega)) (sV rfl (py_load tu2 rfl rfl ec1) (sM rfl rfl (sV rfl (py_eql rfl rfl) (s_nil (W_ifd rfl (fun c2 => ?_) (fun c2 => ?_)))))))))
  ·refine W_sr (sA rfl rfl (s_nil (rT hQ Tryz.results156 rfl ?_)))
   exact ⟨H1.ext, by rw [decide_eq_true (mem_getD (d := 0) (k := k) (by omega) c2)]⟩
  ·refine W_skip (W_reg (sM rfl rfl (sV rfl (py_add rfl rfl (in64 ⟨by omega, by omega⟩)) (sA rfl rfl (s_nil (⟨k + 1, ⟨rfl, rfl, rfl, trivial⟩, ⟨H1, by omega, fun i hi => ?_⟩, by dsimp only; omega⟩))))))
   by_cases e : i = k
   ·subst e; omega
   ·exact he i (by omega)
 ·refine W_exit (W_sr (sA rfl rfl (s_nil (rT hQ Tryz.results156 rfl ?_))))
  exact ⟨H1.ext, by rw [decide_eq_false (not_mem_getD (d := 0) fun i hi => he i (by omega))]⟩
theorem Tryz_slices_Index_int64_int64 {w : World} {xs : List Int} {xsA : Option Addr} {xsC : Nat} {x : Int} (xsS : Sees w [.slice xsA xs.length xsC] xs) : Ret Tryz.prog 309 #[.slice xsA xs.length xsC, .int .i64 x] w fun v w' => Ext No w w' ∧ (v = .int .i64 (idxOf xs x)) := by
 have xsL := sL xsS
 obtain ⟨xsF, xsO⟩ := xsS
 refine ret_Q (vs := [.slice xsA xs.length xsC, .int .i64 x]) Tryz.func309 rfl Tryz.ntmps309 rfl (fun Q hQ hN => ?_)
 have H0 := Sep.start (w := w) (F := [seen false [.slice xsA xs.length xsC] xs xsF]) (all_cons xsO (by simp))
 refine W_sr (sA rfl rfl (s_nil (W_seq (W_sr (sM rfl rfl (sV rfl (py_len tu25 rfl) (sM rfl rfl (s_nil (W_block (W_loop (γ := Nat) (fun k => [(0, .slice xsA xs.length xsC), (1, .int .i64 x), (7, .int .i64 xs.length), (8, .int .i64 k)]) (fun k w' => Sep No w [] [seen false [.slice xsA xs.length xsC] xs xsF] w' ∧ k ≤ xs.length ∧ (∀ i, i < k → xs.getD i 0 ≠ x)) (fun k => xs.length - k) 0 ⟨rfl, rfl, rfl, rfl, trivial⟩ ⟨H0, by omega, fun i hi => by omega⟩ (fun k w1 H1 => ?_)))))))))))
 obtain ⟨H1, hk, he⟩ := H1
 refine W_sr (sV rfl (py_lss rfl rfl) (s_nil (W_seq (W_ifd rfl (fun c1 => ?_) (fun c1 => ?_)))))
 ·refine W_skip (W_seq (W_block (W_sr (sM rfl rfl (sA rfl rfl (s_nil (W_seq ?_)))))))
  obtain ⟨eb1, eo1, ee1, ec1⟩ := elem_int (H1.seen 0 rfl) k (by omega)
  have eI1 := elem_i64 (H1.seen 0 rfl) k (by omega)
  refine W_reg (sM rfl rfl (sM rfl rfl (sM rfl rfl (sV rfl (py_elz tu25 ts2 rfl rfl ee1 k (by omega) (by omega)) (sV rfl (py_load tu2 rfl rfl ec1) (sV rfl (py_eql rfl rfl) (s_nil (W_ifd rfl (fun c2 => ?_) (fun c2 => ?_)))))))))
  ·refine W_sr (sM rfl rfl (sA rfl rfl (s_nil (rT hQ Tryz.results309 rfl ?_))))
   exact ⟨H1.ext, congrArg (Value.int .i64) (idxOf_eq (by omega) c2.symm he).symm⟩
  ·refine W_skip (W_reg (sV rfl (py_add rfl rfl (in64 ⟨by omega, by omega⟩)) (sM rfl rfl (s_nil (⟨k + 1, ⟨rfl, rfl, rfl, rfl, trivial⟩, ⟨H1, by omega, fun i hi => ?_⟩, by dsimp only; omega⟩)))))
   by_cases e : i = k
   ·subst e; omega
   ·exact he i (by omega)
 ·refine W_exit (W_sr (sA rfl rfl (s_nil (rT hQ Tryz.results309 rfl ?_))))
  exact ⟨H1.ext, congrArg (Value.int .i64) (idxOf_no fun i hi => he i (by omega)).symm⟩
theorem Tryz_slices_Contains_int64_int64 {w : World} {xs : List Int} {xsA : Option Addr} {xsC : Nat} {x : Int} (xsS : Sees w [.slice xsA xs.length xsC] xs) : Ret Tryz.prog 243 #[.slice xsA xs.length xsC, .int .i64 x] w fun v w' => Ext No w w' ∧ (v = .bool (decide (x ∈ xs))) := by
 have xsL := sL xsS
 obtain ⟨xsF, xsO⟩ := xsS
 refine ret_Q (vs := [.slice xsA xs.length xsC, .int .i64 x]) Tryz.func243 rfl Tryz.ntmps243 rfl (fun Q hQ hN => ?_)
 have H0 := Sep.start (w := w) (F := [seen false [.slice xsA xs.length xsC] xs xsF]) (all_cons xsO (by simp))
 refine W_sr (sA rfl rfl (s_nil (W_sr (sM rfl rfl (sM rfl rfl (s_call (wn rfl) rfl rfl (pc_call Tryz.func309 rfl Tryz_nm309 rfl) (Tryz_slices_Index_int64_int64 (H0.sees 0 rfl)) (fun v1 w1 r1 => ?_)))))))
 obtain ⟨e1, rfl⟩ := r1
 have H1 := H0.to e1
 refine sV rfl (py_geq rfl rfl) (sA rfl rfl (s_nil (rT hQ Tryz.results243 rfl ?_)))
 exact ⟨H1.ext, by rw [idxOf_has]⟩
end Go.Wk
namespace Go.Wk
open Go.Proofs Rp
set_option maxRecDepth 10000
theorem Tryz_spec_l1In {w : World} {v0 lo hi : Int}  : Ret Tryz.prog 97 #[.int .i64 v0, .int .i64 lo, .int .i64 hi] w fun v w' => Ext No w w' ∧ (v = .bool (ins v0 lo hi)) := by
 refine ret_Q (vs := [.int .i64 v0, .int .i64 lo, .int .i64 hi]) Tryz.func97 rfl Tryz.ntmps97 rfl (fun Q hQ hN => ?_)
 have H0 := Sep.start (w := w) (F := []) (by simp)
 refine W_sr (sA rfl rfl (s_nil (W_sr (sM rfl rfl (sM rfl rfl (sV rfl (py_geq rfl rfl) (sM rfl rfl (s_grp 3 (j := 3) (want := true) (t := 13) rfl rfl rfl rfl (fun hg1 kk1 => s_val (wgE rfl rfl rfl hg1) rfl rfl (py_move rfl) (s_val (wgE rfl rfl rfl hg1) rfl rfl (py_move rfl) (s_val (wgE rfl rfl rfl hg1) rfl rfl (py_leq rfl rfl) (kk1 _ _ (kx rfl (kx rfl (kx rfl k0))) rfl Ext.refl)))) (fun w1 e1 => ?_)))))))))
 have H1 := H0.to e1
 refine sV rfl (py_band rfl rfl) (sA rfl rfl (s_nil (rT hQ Tryz.results97 rfl ?_)))
 exact ⟨H1.ext, rfl⟩
theorem Tryz_impl_inside {w : World} {v0 lo hi : Int}  : Ret Tryz.prog 147 #[.int .i64 v0, .int .i64 lo, .int .i64 hi] w fun v w' => Ext No w w' ∧ (v = .bool (ins v0 lo hi)) := by
 refine ret_Q (vs := [.int .i64 v0, .int .i64 lo, .int .i64 hi]) Tryz.func147 rfl Tryz.ntmps147 rfl (fun Q hQ hN => ?_)
 have H0 := Sep.start (w := w) (F := []) (by simp)
 refine W_sr (sA rfl rfl (s_nil (W_sr (sM rfl rfl (sM rfl rfl (sV rfl (py_geq rfl rfl) (sM rfl rfl (s_grp 3 (j := 3) (want := true) (t := 13) rfl rfl rfl rfl (fun hg1 kk1 => s_val (wgE rfl rfl rfl hg1) rfl rfl (py_move rfl) (s_val (wgE rfl rfl rfl hg1) rfl rfl (py_move rfl) (s_val (wgE rfl rfl rfl hg1) rfl rfl (py_leq rfl rfl) (kk1 _ _ (kx rfl (kx rfl (kx rfl k0))) rfl Ext.refl)))) (fun w1 e1 => ?_)))))))))
 have H1 := H0.to e1
 refine sV rfl (py_band rfl rfl) (sA rfl rfl (s_nil (rT hQ Tryz.results147 rfl ?_)))
 exact ⟨H1.ext, rfl⟩
theorem Tryz_spec_l3Shape {w : World} {x y : Int}  : Ret Tryz.prog 254 #[.int .i64 x, .int .i64 y] w fun v w' => Ext No w w' ∧ (v = .bool (cOK x y)) := by
 refine ret_Q (vs := [.int .i64 x, .int .i64 y]) Tryz.func254 rfl Tryz.ntmps254 rfl (fun Q hQ hN => ?_)
 have H0 := Sep.start (w := w) (F := []) (by simp)
 refine W_sr (sA rfl rfl (s_nil (W_sr (sM rfl rfl (s_call (wn rfl) rfl rfl (pc_call Tryz.func97 rfl Tryz_nm97 rfl) Tryz_spec_l1In (fun v1 w1 r1 => ?_))))))
 obtain ⟨e1, rfl⟩ := r1
 have H1 := H0.to e1
 refine sM rfl rfl (s_grp 2 (j := 2) (want := true) (t := 9) rfl rfl rfl rfl (fun hg1 kk1 => s_val (wgE rfl rfl rfl hg1) rfl rfl (py_move rfl) (s_callv (wgE rfl rfl rfl hg1) rfl rfl (pc_call Tryz.func97 rfl Tryz_nm97 rfl) Tryz_spec_l1In (fun w3 e3 => kk1 _ _ (kx rfl (kx rfl k0)) rfl (Ext.refl.trans e3)))) (fun w2 e2 => ?_))
 have H2 := H1.to e2
 refine sV rfl (py_band rfl rfl) (sA rfl rfl (s_nil (rT hQ Tryz.results254 rfl ?_)))
 exact ⟨H2.ext, rfl⟩
theorem Tryz_spec_l2Shape {w : World} {x y : Int}  : Ret Tryz.prog 255 #[.int .i64 x, .int .i64 y] w fun v w' => Ext No w w' ∧ (v = .bool (rOK x y)) := by
 refine ret_Q (vs := [.int .i64 x, .int .i64 y]) Tryz.func255 rfl Tryz.ntmps255 rfl (fun Q hQ hN => ?_)
 have H0 := Sep.start (w := w) (F := []) (by simp)
 refine W_sr (sA rfl rfl (s_nil (W_sr (sM rfl rfl (s_call (wn rfl) rfl rfl (pc_call Tryz.func97 rfl Tryz_nm97 rfl) Tryz_spec_l1In (fun v1 w1 r1 => ?_))))))
 obtain ⟨e1, rfl⟩ := r1
 have H1 := H0.to e1
 refine sM rfl rfl (s_grp 2 (j := 2) (want := true) (t := 9) rfl rfl rfl rfl (fun hg1 kk1 => s_val (wgE rfl rfl rfl hg1) rfl rfl (py_move rfl) (s_callv (wgE rfl rfl rfl hg1) rfl rfl (pc_call Tryz.func97 rfl Tryz_nm97 rfl) Tryz_spec_l1In (fun w3 e3 => kk1 _ _ (kx rfl (kx rfl k0)) rfl (Ext.refl.trans e3)))) (fun w2 e2 => ?_))
 have H2 := H1.to e2
 refine sV rfl (py_band rfl rfl) (sA rfl rfl (s_nil (rT hQ Tryz.results255 rfl ?_)))
 exact ⟨H2.ext, rfl⟩
theorem Tryz_spec_ShapeFault {w : World} {s : Shape}  : Ret Tryz.prog 159 #[s.v] w fun v w' => Ext No w w' ∧ (v = .int .i64 s.fault) := by
 refine ret_Q (vs := [s.v]) Tryz.func159 rfl Tryz.ntmps159 rfl (fun Q hQ hN => ?_)
 have H0 := Sep.start (w := w) (F := []) (by simp)
 refine W_sr (s_box (wn rfl) rfl rfl H0 (fun b1 w1 e1 g1 H1 => ?_))
 refine sA rfl rfl (s_nil (W_seq (W_sr (sV rfl (py_field tu34 rfl ts2 rfl rfl) (sV rfl (py_load tu2 rfl rfl (cell_atL (H1.box 0 rfl) rfl)) (sV rfl (py_field tu34 rfl ts2 rfl rfl) (sV rfl (py_load tu2 rfl rfl (cell_atL (H1.box 0 rfl) rfl)) (s_call (wn rfl) rfl rfl (pc_call Tryz.func254 rfl Tryz_nm254 rfl) Tryz_spec_l3Shape (fun v1 w2 r1 => ?_)))))))))
 obtain ⟨e2, rfl⟩ := r1
 have H2 := H1.to e2
 refine sV rfl (py_not rfl) (sM rfl rfl (s_grp 6 (j := 6) (want := false) (t := 15) rfl rfl rfl rfl (fun hg1 kk1 => s_val (wgE rfl rfl rfl hg1) rfl rfl (py_field tu34 rfl ts2 rfl rfl) (s_val (wgE rfl rfl rfl hg1) rfl rfl (py_load tu2 rfl rfl (cell_atL (H2.box 0 rfl) rfl)) (s_val (wgE rfl rfl rfl hg1) rfl rfl (py_field tu34 rfl ts2 rfl rfl) (s_val (wgE rfl rfl rfl hg1) rfl rfl (py_load tu2 rfl rfl (cell_atL (H2.box 0 rfl) rfl)) (s_callv (wgE rfl rfl rfl hg1) rfl rfl (pc_call Tryz.func255 rfl Tryz_nm255 rfl) Tryz_spec_l2Shape (fun w4 e4 => s_val (wgE rfl rfl rfl hg1) rfl rfl (py_not rfl) (kk1 _ _ (kx rfl (kx rfl (kx rfl (kx rfl (kx rfl (kx rfl k0)))))) rfl (Ext.refl.trans e4)))))))) (fun w3 e3 => ?_)))
 have H3 := H2.to e3
 refine sV rfl (py_bor rfl rfl) (sM rfl rfl (s_grp 4 (j := 14) (want := false) (t := 21) rfl rfl rfl rfl (fun hg2 kk2 => s_val (wgE rfl rfl rfl hg2) rfl rfl (py_field tu34 rfl ts2 rfl rfl) (s_val (wgE rfl rfl rfl hg2) rfl rfl (py_load tu2 rfl rfl (cell_atL (H3.box 0 rfl) rfl)) (s_callv (wgE rfl rfl rfl hg2) rfl rfl (pc_call Tryz.func97 rfl Tryz_nm97 rfl) Tryz_spec_l1In (fun w6 e6 => s_val (wgE rfl rfl rfl hg2) rfl rfl (py_not rfl) (kk2 _ _ (kx rfl (kx rfl (kx rfl (kx rfl k0)))) rfl (Ext.refl.trans e6)))))) (fun w5 e5 => ?_)))
 have H4 := H3.to e5
 refine sV rfl (py_bor rfl rfl) (sM rfl rfl (s_grp 4 (j := 20) (want := false) (t := 27) rfl rfl rfl rfl (fun hg3 kk3 => s_val (wgE rfl rfl rfl hg3) rfl rfl (py_field tu34 rfl ts2 rfl rfl) (s_val (wgE rfl rfl rfl hg3) rfl rfl (py_load tu2 rfl rfl (cell_atL (H4.box 0 rfl) rfl)) (s_callv (wgE rfl rfl rfl hg3) rfl rfl (pc_call Tryz.func97 rfl Tryz_nm97 rfl) Tryz_spec_l1In (fun w8 e8 => s_val (wgE rfl rfl rfl hg3) rfl rfl (py_not rfl) (kk3 _ _ (kx rfl (kx rfl (kx rfl (kx rfl k0)))) rfl (Ext.refl.trans e8)))))) (fun w7 e7 => ?_)))
 have H5 := H4.to e7
 refine sV rfl (py_bor rfl rfl) (sM rfl rfl (s_grp 4 (j := 26) (want := false) (t := 33) rfl rfl rfl rfl (fun hg4 kk4 => s_val (wgE rfl rfl rfl hg4) rfl rfl (py_field tu34 rfl ts2 rfl rfl) (s_val (wgE rfl rfl rfl hg4) rfl rfl (py_load tu2 rfl rfl (cell_atL (H5.box 0 rfl) rfl)) (s_callv (wgE rfl rfl rfl hg4) rfl rfl (pc_call Tryz.func97 rfl Tryz_nm97 rfl) Tryz_spec_l1In (fun w10 e10 => s_val (wgE rfl rfl rfl hg4) rfl rfl (py_not rfl) (kk4 _ _ (kx rfl (kx rfl (kx rfl (kx rfl k0)))) rfl (Ext.refl.trans e10)))))) (fun w9 e9 => ?_)))
 have H6 := H5.to e9
 refine sV rfl (py_bor rfl rfl) (sM rfl rfl (s_grp 4 (j := 32) (want := false) (t := 39) rfl rfl rfl rfl (fun hg5 kk5 => s_val (wgE rfl rfl rfl hg5) rfl rfl (py_field tu34 rfl ts2 rfl rfl) (s_val (wgE rfl rfl rfl hg5) rfl rfl (py_load tu2 rfl rfl (cell_atL (H6.box 0 rfl) rfl)) (s_callv (wgE rfl rfl rfl hg5) rfl rfl (pc_call Tryz.func97 rfl Tryz_nm97 rfl) Tryz_spec_l1In (fun w12 e12 => s_val (wgE rfl rfl rfl hg5) rfl rfl (py_not rfl) (kk5 _ _ (kx rfl (kx rfl (kx rfl (kx rfl k0)))) rfl (Ext.refl.trans e12)))))) (fun w11 e11 => ?_)))
 have H7 := H6.to e11
 refine sV rfl (py_bor rfl rfl) (sM rfl rfl (s_grp 4 (j := 38) (want := false) (t := 45) rfl rfl rfl rfl (fun hg6 kk6 => s_val (wgE rfl rfl rfl hg6) rfl rfl (py_field tu34 rfl ts2 rfl rfl) (s_val (wgE rfl rfl rfl hg6) rfl rfl (py_load tu2 rfl rfl (cell_atL (H7.box 0 rfl) rfl)) (s_callv (wgE rfl rfl rfl hg6) rfl rfl (pc_call Tryz.func97 rfl Tryz_nm97 rfl) Tryz_spec_l1In (fun w14 e14 => s_val (wgE rfl rfl rfl hg6) rfl rfl (py_not rfl) (kk6 _ _ (kx rfl (kx rfl (kx rfl (kx rfl k0)))) rfl (Ext.refl.trans e14)))))) (fun w13 e13 => ?_)))
 have H8 := H7.to e13
 refine sV rfl (py_bor rfl rfl) (s_nil (W_if rfl (fun c1 => ?_) (fun c1 => ?_)))
 ·refine W_sr (sA rfl rfl (s_nil (rT hQ Tryz.results159 rfl ?_)))
  exact ⟨H8.ext, Shape.no (by simpa only [Shape.ok, Bool.not_and] using c1)⟩
 ·refine W_skip (W_sr (sA rfl rfl (s_nil (rT hQ Tryz.results159 rfl ?_))))
  exact ⟨H8.ext, Shape.yes (by simpa only [Shape.ok, Bool.not_and] using c1)⟩
theorem Tryz_impl_ShapeFault {w : World} {s : Shape}  : Ret Tryz.prog 143 #[s.v] w fun v w' => Ext No w w' ∧ (v = .int .i64 s.fault) := by
 refine ret_Q (vs := [s.v]) Tryz.func143 rfl Tryz.ntmps143 rfl (fun Q hQ hN => ?_)
 have H0 := Sep.start (w := w) (F := []) (by simp)
 refine W_sr (s_box (wn rfl) rfl rfl H0 (fun b1 w1 e1 g1 H1 => ?_))
 refine sA rfl rfl (s_nil (W_sr (sV rfl (py_field tu34 rfl ts2 rfl rfl) (sV rfl (py_load tu2 rfl rfl (cell_atL (H1.box 0 rfl) rfl)) (s_call (wn rfl) rfl rfl (pc_call Tryz.func147 rfl Tryz_nm147 rfl) Tryz_impl_inside (fun v1 w2 r1 => ?_))))))
 obtain ⟨e2, rfl⟩ := r1
 have H2 := H1.to e2
 refine sM rfl rfl (s_grp 3 (j := 3) (want := true) (t := 10) rfl rfl rfl rfl (fun hg1 kk1 => s_val (wgE rfl rfl rfl hg1) rfl rfl (py_field tu34 rfl ts2 rfl rfl) (s_val (wgE rfl rfl rfl hg1) rfl rfl (py_load tu2 rfl rfl (cell_atL (H2.box 0 rfl) rfl)) (s_callv (wgE rfl rfl rfl hg1) rfl rfl (pc_call Tryz.func147 rfl Tryz_nm147 rfl) Tryz_impl_inside (fun w4 e4 => kk1 _ _ (kx rfl (kx rfl (kx rfl k0))) rfl (Ext.refl.trans e4))))) (fun w3 e3 => ?_))
 have H3 := H2.to e3
 refine sV rfl (py_band rfl rfl) (sM rfl rfl (s_grp 3 (j := 8) (want := true) (t := 15) rfl rfl rfl rfl (fun hg2 kk2 => s_val (wgE rfl rfl rfl hg2) rfl rfl (py_field tu34 rfl ts2 rfl rfl) (s_val (wgE rfl rfl rfl hg2) rfl rfl (py_load tu2 rfl rfl (cell_atL (H3.box 0 rfl) rfl)) (s_callv (wgE rfl rfl rfl hg2) rfl rfl (pc_call Tryz.func147 rfl Tryz_nm147 rfl) Tryz_impl_inside (fun w6 e6 => kk2 _ _ (kx rfl (kx rfl (kx rfl k0))) rfl (Ext.refl.trans e6))))) (fun w5 e5 => ?_)))
 have H4 := H3.to e5
 refine sV rfl (py_band rfl rfl) (sM rfl rfl (s_grp 3 (j := 13) (want := true) (t := 20) rfl rfl rfl rfl (fun hg3 kk3 => s_val (wgE rfl rfl rfl hg3) rfl rfl (py_field tu34 rfl ts2 rfl rfl) (s_val (wgE rfl rfl rfl hg3) rfl rfl (py_load tu2 rfl rfl (cell_atL (H4.box 0 rfl) rfl)) (s_callv (wgE rfl rfl rfl hg3) rfl rfl (pc_call Tryz.func147 rfl Tryz_nm147 rfl) Tryz_impl_inside (fun w8 e8 => kk3 _ _ (kx rfl (kx rfl (kx rfl k0))) rfl (Ext.refl.trans e8))))) (fun w7 e7 => ?_)))
 have H5 := H4.to e7
 refine sV rfl (py_band rfl rfl) (sA rfl rfl (s_nil (W_sr (sM rfl rfl (sM rfl rfl (s_grp 3 (j := 1) (want := true) (t := 26) rfl rfl rfl rfl (fun hg4 kk4 => s_val (wgE rfl rfl rfl hg4) rfl rfl (py_field tu34 rfl ts2 rfl rfl) (s_val (wgE rfl rfl rfl hg4) rfl rfl (py_load tu2 rfl rfl (cell_atL (H5.box 0 rfl) rfl)) (s_callv (wgE rfl rfl rfl hg4) rfl rfl (pc_call Tryz.func147 rfl Tryz_nm147 rfl) Tryz_impl_inside (fun w10 e10 => kk4 _ _ (kx rfl (kx rfl (kx rfl k0))) rfl (Ext.refl.trans e10))))) (fun w9 e9 => ?_)))))))
 have H6 := H5.to e9
 refine sV rfl (py_band rfl rfl) (sM rfl rfl (s_grp 3 (j := 6) (want := true) (t := 31) rfl rfl rfl rfl (fun hg5 kk5 => s_val (wgE rfl rfl rfl hg5) rfl rfl (py_field tu34 rfl ts2 rfl rfl) (s_val (wgE rfl rfl rfl hg5) rfl rfl (py_load tu2 rfl rfl (cell_atL (H6.box 0 rfl) rfl)) (s_callv (wgE rfl rfl rfl hg5) rfl rfl (pc_call Tryz.func147 rfl Tryz_nm147 rfl) Tryz_impl_inside (fun w12 e12 => kk5 _ _ (kx rfl (kx rfl (kx rfl k0))) rfl (Ext.refl.trans e12))))) (fun w11 e11 => ?_)))
 have H7 := H6.to e11
 refine sV rfl (py_band rfl rfl) (sM rfl rfl (s_grp 3 (j := 11) (want := true) (t := 36) rfl rfl rfl rfl (fun hg6 kk6 => s_val (wgE rfl rfl rfl hg6) rfl rfl (py_field tu34 rfl ts2 rfl rfl) (s_val (wgE rfl rfl rfl hg6) rfl rfl (py_load tu2 rfl rfl (cell_atL (H7.box 0 rfl) rfl)) (s_callv (wgE rfl rfl rfl hg6) rfl rfl (pc_call Tryz.func147 rfl Tryz_nm147 rfl) Tryz_impl_inside (fun w14 e14 => kk6 _ _ (kx rfl (kx rfl (kx rfl k0))) rfl (Ext.refl.trans e14))))) (fun w13 e13 => ?_)))
 have H8 := H7.to e13
 refine sV rfl (py_band rfl rfl) (sM rfl rfl (s_grp 3 (j := 16) (want := true) (t := 41) rfl rfl rfl rfl (fun hg7 kk7 => s_val (wgE rfl rfl rfl hg7) rfl rfl (py_field tu34 rfl ts2 rfl rfl) (s_val (wgE rfl rfl rfl hg7) rfl rfl (py_load tu2 rfl rfl (cell_atL (H8.box 0 rfl) rfl)) (s_callv (wgE rfl rfl rfl hg7) rfl rfl (pc_call Tryz.func147 rfl Tryz_nm147 rfl) Tryz_impl_inside (fun w16 e16 => kk7 _ _ (kx rfl (kx rfl (kx rfl k0))) rfl (Ext.refl.trans e16))))) (fun w15 e15 => ?_)))
 have H9 := H8.to e15
 refine sV rfl (py_band rfl rfl) (sA rfl rfl (s_nil (W_seq (W_sr (sM rfl rfl (sV rfl (py_not rfl) (sM rfl rfl (s_grp 4 (j := 2) (want := false) (t := 49) rfl rfl rfl rfl (fun hg8 kk8 => s_val (wgE rfl rfl rfl hg8) rfl rfl (py_field tu34 rfl ts2 rfl rfl) (s_val (wgE rfl rfl rfl hg8) rfl rfl (py_load tu2 rfl rfl (cell_atL (H9.box 0 rfl) rfl)) (s_callv (wgE rfl rfl rfl hg8) rfl rfl (pc_call Tryz.func147 rfl Tryz_nm147 rfl) Tryz_impl_inside (fun w18 e18 => s_val (wgE rfl rfl rfl hg8) rfl rfl (py_not rfl) (kk8 _ _ (kx rfl (kx rfl (kx rfl (kx rfl k0)))) rfl (Ext.refl.trans e18)))))) (fun w17 e17 => ?_)))))))))
 have H10 := H9.to e17
 refine sV rfl (py_bor rfl rfl) (s_nil (W_if rfl (fun c1 => ?_) (fun c1 => ?_)))
 ·refine W_sr (sA rfl rfl (s_nil (rT hQ Tryz.results143 rfl ?_)))
  exact ⟨H10.ext, Shape.no (by simpa only [Shape.ok, cOK, rOK, Bool.not_and, Bool.or_assoc] using c1)⟩
 ·refine W_skip (W_sr (sA rfl rfl (s_nil (rT hQ Tryz.results143 rfl ?_))))
  exact ⟨H10.ext, Shape.yes (by simpa only [Shape.ok, cOK, rOK, Bool.not_and, Bool.or_assoc] using c1)⟩
end Go.Wk
namespace Go.Wk
open Rp (sz own)
def encK (xs : List UInt8) (n : Nat) (k : Int) : List UInt8 := mixTo (chunks xs 4 n) (genG n k 0) 4 (chunks xs 4 n).length
def encG (n m : Nat) (xs : List UInt8) : List (List UInt8) := (List.range m).map fun k : Nat => encK xs n (k : Int)
def encS (n s : Nat) (xs : List UInt8) : List (List UInt8) := chunks xs 4 n ++ (List.range s).map fun j : Nat => encK xs n ((n : Int) + (j : Int))
theorem encG_len {n m : Nat} {xs} : (encG n m xs).length = m := by simp [encG]
theorem encS_len {n m : Nat} {xs} : (encS n m xs).length = n + m := by simp [encS, chunks_len]
theorem encG_step {n m : Nat} {xs} : encG n m xs ++ [encK xs n m] = encG n (m + 1) xs := by simp [encG, List.range_succ]
theorem encS_zero {n : Nat} {xs} : encS n 0 xs = chunks xs 4 n := by simp [encS]
theorem encS_step {n j : Nat} {xs} : encS n j xs ++ [encK xs n ((n : Int) + j)] = encS n (j + 1) xs := by simp [encS, List.range_succ]
theorem chunks_step {α : Type} {xs : List α} {m i : Nat} : chunks xs m i ++ [cut xs (i * m) (i * m + m)] = chunks xs m (i + 1) := by simp [chunks, List.range_succ]
theorem chunks_all {α : Type} {xs : List α} {m n : Nat} (h : xs.length = n * m) : ∀ i, i < (chunks xs m n).length → ((chunks xs m n).getD i []).length = m := fun i hi => by
  rw [chunks_len] at hi
  rw [chunks_get hi, cut_len (by have := mul_step h hi; omega)]
  omega
theorem scaleG_one (xs : List UInt8) : scaleG xs 1 = xs := by simp [scaleG, mul_one_r]
theorem scaleG_zero (xs : List UInt8) : scaleG xs 0 = List.replicate xs.length 0 := by
  refine List.ext_getElem (by simp [scaleG]) fun i h1 h2 => ?_
  simp [scaleG, mul_zero_r]
theorem addG_get {xs ys : List UInt8} {i : Nat} (h : i < xs.length) (h2 : i < ys.length) : (addG xs ys).getD i 0 = xs.getD i 0 ^^^ ys.getD i 0 := by
  simp [addG, List.getD, List.getElem?_zipWith, h, h2]
theorem addG_zero_r {xs : List UInt8} {m : Nat} (h : xs.length = m) : addG xs (List.replicate m 0) = xs := by
  refine getD_ext (d := 0) (by rw [addG_len (by simp [h])]) fun k hk => ?_
  rw [addG_len (by simp [h])] at hk
  rw [addG_get hk (by simp; omega)]
  have : k < m := by omega
  simp [List.getD, List.getElem?_replicate, this]
theorem addG_zero_l {xs : List UInt8} {m : Nat} (h : xs.length = m) : addG (List.replicate m 0) xs = xs := by
  refine getD_ext (d := 0) (by rw [addG_len (by simp [h])]; simp [h]) fun k hk => ?_
  rw [addG_len (by simp [h])] at hk
  simp at hk
  rw [addG_get (by simpa using hk) (by omega)]
  simp [List.getD, List.getElem?_replicate, hk]
theorem mix_unit {ls : List (List UInt8)} {cs : List UInt8} {n j : Nat} (h : ∀ i, i < ls.length → (ls.getD i []).length = n) (hc : ∀ i, i < ls.length → cs.getD i 0 = if i = j then 1 else 0) (hj : j < ls.length) :
    ∀ k, k ≤ ls.length → mixTo ls cs n k = if j < k then ls.getD j [] else List.replicate n 0
  | 0, _ => by simp [mixTo]
  | k + 1, hk => by
    have ih := mix_unit h hc hj k (by omega)
    rw [mixTo, ih, hc k (by omega)]
    by_cases e : k = j
    · subst e
      rw [if_neg (by omega), if_pos rfl, if_pos (by omega), scaleG_one, addG_zero_l (h k hj)]
    · rw [if_neg e, scaleG_zero, h k (by omega)]
      by_cases e2 : j < k
      · rw [if_pos e2, if_pos (by omega), addG_zero_r (h j hj)]
      · rw [if_neg e2, if_neg (by omega), addG_zero_r (by simp)]
theorem genG_get {n i : Nat} {p base : Int} (h : i < n) : (genG n p base).getD i 0 = genAt n p base i := by
  simp [genG, List.getD, h]
theorem encK_low {xs : List UInt8} {n j : Nat} (h : xs.length = n * 4) (hj : j < n) : encK xs n j = (chunks xs 4 n).getD j [] := by
  have hl : (chunks xs 4 n).length = n := chunks_len
  rw [encK, mix_unit (j := j) (chunks_all h) (fun i hi => ?_) (by omega) _ (Nat.le_refl _), if_pos (by omega)]
  rw [genG_get (by omega), genAt, if_neg (by omega)]
  by_cases e : i = j
  · subst e; rw [if_pos rfl, if_pos rfl]
  · rw [if_neg (by omega), if_neg e]
theorem encS_eq {n s : Nat} {xs : List UInt8} (h : xs.length = n * 4) : encS n s xs = encG n (n + s) xs := by
  refine List.ext_getElem (by rw [encS_len, encG_len]) fun k h1 h2 => ?_
  rw [encG_len] at h2
  simp only [encG, List.getElem_map, List.getElem_range]
  by_cases hk : k < n
  · rw [encK_low h hk]
    simp only [encS]
    rw [List.getElem_append_left (by rw [chunks_len]; exact hk)]
    simp [List.getD, chunks_len, hk]
  · simp only [encS]
    rw [List.getElem_append_right (by rw [chunks_len]; omega)]
    simp only [List.getElem_map, List.getElem_range, chunks_len]
    congr 1
    omega
theorem encG_lens {n m : Nat} {xs : List UInt8} (h : xs.length = n * 4) (k : Nat) (hk : k < m) : ((encG n m xs).getD k []).length = 4 := by
  have : (encG n m xs).getD k [] = encK xs n k := by simp [encG, List.getD, hk]
  rw [this, encK, mixTo_len (chunks_all h) (Nat.le_refl _)]
theorem Sep.part {M w0 Δ F} {w : World} (h : Sep M w0 Δ F w) (i : Nat) {r : Rsc} (hi : Δ[i]? = some r) (rs : List Rsc) (hrs : ∀ q ∈ rs, q.φ w) (hb : blocks rs = r.fp) : Sep M w0 (Δ.set i gone ++ rs) F w := by
  have hx := not_mem_set hi h.nd
  have hsub : ∀ b, b ∈ blocks (Δ.set i gone) → b ∈ blocks Δ := fun b hb => by
    rcases blocks_set hi b hb with h | h
    · simp [gone] at h
    · exact h
  have hmem : ∀ b ∈ r.fp, b ∈ blocks Δ := fun b hb => mem_blocks.2 ⟨r, List.mem_of_getElem? hi, hb⟩
  refine ⟨h.ext, fun q hq => ?_, ?_, fun b hb' => ?_, h.fs, fun q hq b hbq hb' => ?_⟩
  · rcases List.mem_append.1 hq with hq | hq
    · rcases set_other (q := gone) hi h.nd q hq with rfl | ⟨hq, _⟩
      · trivial
      · exact h.rs q hq
    · exact hrs q hq
  · rw [blocks_append, hb]
    refine List.nodup_append.2 ⟨nodup_set hi h.nd (by simp [gone]) (by simp [gone]), h.nodup1 hi, fun x hx1 y hy e => ?_⟩
    subst e
    exact hx x hy hx1
  · rw [blocks_append, hb] at hb'
    rcases List.mem_append.1 hb' with hb' | hb'
    · exact h.new b (hsub b hb')
    · exact h.new b (hmem b hb')
  · rw [blocks_append, hb] at hb'
    rcases List.mem_append.1 hb' with hb' | hb'
    · exact h.ap q hq b hbq (hsub b hb')
    · exact h.ap q hq b hbq (hmem b hb')
end Go.Wk
namespace Go.Wk
open Rp (sz own)
section
variable {P : Program} {n : Nat} {L : Env} {w : World} {d : Option Tmp} {ty : TypeId} {p : String} {af : Array Edge} {g : Option (Nat × Bool)}
theorem pc_callv {f : FuncId} {fn : Func} {x : Operand} {xs : Array Operand} {ats : Array TypeId} {vs lb : List Value} (hx : evL L x = some (.func (.func f) #[] lb.toArray)) (hf : P.funcs[f]? = some fn) (hb : fn.body.isNone = false) (hnm : (fn.name == "runtime.NumGoroutine") = false)
    (hv : evLs L xs.toList = some vs) : Pc P n L w ⟨d, .call ⟨.value x, xs, ats⟩, ty, p, af, g⟩ f (vs ++ lb).toArray := fun a ha => by
  have hm : xs.map a.eval = vs.toArray := by
    have key : ∀ (l : List Operand) (vs : List Value), evLs L l = some vs → l.map a.eval = vs := by
      intro l
      induction l with
      | nil => intro vs h; simp [evLs] at h; simp [h]
      | cons x l ih =>
        intro vs h
        unfold evLs at h
        split at h
        · rename_i v us hv hus
          cases h
          simp [ha.eval hv, ih us hus]
        · cases h
    have := key _ _ hv
    apply Array.toList_inj.1
    simpa using this
  have hb' : ¬ fn.body = none := fun e => by rw [e] at hb; simp at hb
  have hnm' : ¬ fn.name = "runtime.NumGoroutine" := fun e => by rw [e] at hnm; simp at hnm
  simp [execOp, resolve, Deferred.ofValue, invoke, callFunc, hf, hb', hnm', hm, ha.eval hx]
def strB (xs : List UInt8) : ByteArray := ⟨xs.toArray⟩
theorem strB_inj {xs ys : List UInt8} : strB xs = strB ys ↔ xs = ys := by
  constructor
  · intro h
    have : (strB xs).data.toList = (strB ys).data.toList := by rw [h]
    simpa [strB] using this
  · rintro rfl; rfl
theorem strB_size (xs : List UInt8) : (strB xs).size = xs.length := by simp [strB, ByteArray.size]
theorem strOf (xs : List UInt8) : strOfNums (xs.map fun x => (x.toNat : Int)) = strB xs := by
  simp only [strOfNums, strB, List.map_map]
  congr 2
  refine (List.map_congr_left (g := id) fun a _ => ?_).trans (List.map_id xs)
  simp
theorem run_b2s {src e dst : TypeId} (hs : P.underlying src = some (.slice e)) (he : P.underlying e = some (.int .u8)) (hd : P.underlying dst = some .string) {s ad n cap} {xs : List UInt8} {f} (h : own s w [.slice ad n cap] xs f) :
    (convert src dst (.slice ad n cap)).run P w = .ok (.string (strB xs)) w := by
  obtain rfl := own_n h
  cases ad with
  | none =>
    have : xs = [] := by
      by_cases h0 : 0 < xs.length
      · obtain ⟨_, _, _, _, e, _⟩ := own_all h h0; cases e
      · exact List.eq_nil_of_length_eq_zero (by omega)
    subst this
    rw [run_convert_bytes_nil w src e hs he _ _ dst hd]
    rfl
  | some a =>
    by_cases h0 : 0 < xs.length
    · obtain ⟨b, o, _, _, e1, _⟩ := own_all h h0
      cases e1
      rw [run_convert_bytes_arg w src e hs he b o xs.length cap (xs.map fun x => (x.toNat : Int)) (by simp) (fun i hi => ?_) dst hd, strOf]
      obtain ⟨b2, o2, e2, hc⟩ := elem_u8 h i hi
      cases e2
      rw [Nat.mul_one] at hc
      rw [hc]
      simp [List.getD, hi]
    · have : xs = [] := List.eq_nil_of_length_eq_zero (by omega)
      subst this
      rw [run_convert_bytes_string w src dst e _ _ cap hs he hd, run_bytesToString w _ _ cap [] (by simp [loadCells, loadCellsFrom])]
      rfl
theorem py_b2s {src e dst : TypeId} {x : Operand} {s ad m cap} {xs : List UInt8} {f} (hs : P.underlying src = some (.slice e)) (he : P.underlying e = some (.int .u8)) (hd : P.underlying dst = some .string) (hx : evL L x = some (.slice ad m cap))
    (h : own s w [.slice ad m cap] xs f) : Py P n L w ⟨d, .convert src dst x, ty, p, af, g⟩ (.string (strB xs)) := fun a ha => by
  simp [execOp, ha.eval hx, run_b2s hs he hd h]
end
end Go.Wk
namespace Go.Wk
open Rp (sz own)
def firstOf {α : Type} (p : α → Bool) (xs : List α) : Int := match xs.findIdx? p with
  | some k => k
  | none => -1
theorem firstOf_at {α : Type} {p : α → Bool} {xs : List α} {d : α} {k : Nat} (hk : k < xs.length) (h : p (xs.getD k d) = true) (hn : ∀ i, i < k → p (xs.getD i d) = false) : firstOf p xs = k := by
  have : xs.findIdx? p = some k := by
    rw [List.findIdx?_eq_some_iff_getElem]
    refine ⟨hk, ?_, fun j hj => ?_⟩
    · simpa [List.getD, hk] using h
    · have := hn j hj
      have hj' : j < xs.length := by omega
      simpa [List.getD, hj'] using this
  simp [firstOf, this]
theorem firstOf_no {α : Type} {p : α → Bool} {xs : List α} {d : α} (hn : ∀ i, i < xs.length → p (xs.getD i d) = false) : firstOf p xs = -1 := by
  have : xs.findIdx? p = none := by
    rw [List.findIdx?_eq_none_iff]
    intro x hx
    obtain ⟨i, hi, rfl⟩ := List.getElem_of_mem hx
    have := hn i hi
    simpa [List.getD, hi] using this
  simp [firstOf, this]
theorem firstOf_any {α : Type} {p : α → Bool} {xs : List α} : decide (0 ≤ firstOf p xs) = xs.any p := by
  unfold firstOf
  cases h : xs.findIdx? p with
  | none =>
    rw [List.findIdx?_eq_none_iff] at h
    have : xs.any p = false := by simpa using h
    simp [this]
  | some k =>
    rw [List.findIdx?_eq_some_iff_getElem] at h
    obtain ⟨hk, hp, _⟩ := h
    have : xs.any p = true := List.any_eq_true.2 ⟨_, List.getElem_mem hk, hp⟩
    simp [this]
end Go.Wk
namespace Go.Wk
open Rp (sz own)
section
variable {P : Program} {n : Nat} {ops : Array Oper} {Q : Post} {S : World → Prop} {L : Env} {w w0 : World} {M : Nat → Prop} {Δ F : List Rsc} {i : Nat} {d : Tmp} {ty : TypeId} {p : String} {af : Array Edge} {g : Option (Nat × Bool)} {rest : List (Nat × Bool)}
theorem d_sto {t : TypeId} {x y : Operand} {b off : Nat} {cs : List Value} {T v} (ho : ops.toList[i]? = some ⟨none, .store t x y, ty, p, af, g⟩) (hw : Wn ops n L ⟨none, .store t x y, ty, p, af, g⟩) (hs : ∀ w, (sizeOf t).run P w = .ok 1 w) (hx : evL L x = some (.pointer (some ⟨b, off, none⟩))) (hy : evL L y = some v) (h1 : v.oneCell' = true)
    (H : Sep M w0 Δ F w) (j : Nat) (hi : Δ[j]? = some (box b (.cells cs.toArray T))) (hf : Nat.blt off cs.length = true) (hS : ∀ w', S w → Ext (· = b) w w' → rest ≠ [] → S w')
    (k : ∀ w', Ext (· = b) w w' → Sep M w0 (Δ.set j (box b (.cells (cs.set off v).toArray T))) F w' → DL P n ops Q S rest L w') :
    DL P n ops Q S ((i, false) :: rest) L w := by
  have h := k _ (Ext.refl.put (.inl rfl)) (H.put j _ hi)
  rw [← List.setIfInBounds_toArray] at h
  exact d_do ho hw rfl (pd_store hs hx hy h1 (H.box j hi) (by rw [List.size_toArray]; exact Nat.le_of_ble_eq_true hf)) (fun hSw hr => hS _ hSw (Ext.refl.put (.inl rfl)) hr) h
end
end Go.Wk
namespace Go.Wk
open Rp (sz own)
section
variable {P : Program} {n : Nat} {L : Env} {w : World} {d : Option Tmp} {ty : TypeId} {p : String} {af : Array Edge} {g : Option (Nat × Bool)}
theorem run_eql_slnil {t e : TypeId} {a : Option Addr} {m c : Nat} (hu : P.underlying t = some (.slice e)) : (binOp .eql t (.slice a m c) (.slice none 0 0)).run P w = .ok (.bool a.isNone) w := by
  have h : ∀ d, (Op.equalIn (d + 1) t (.slice a m c) (.slice none 0 0)).run P w = .ok a.isNone w := by
    intro d; cases a <;> simp [Op.equalIn, run_underlying hu]
  have h2 : (Op.equal t (.slice a m c) (.slice none 0 0)).run P w = .ok a.isNone w := h 9999
  simp only [binOp]
  simp [h2]
theorem py_slnil {t e : TypeId} {x y : Operand} {yt : TypeId} {a : Option Addr} {m c : Nat} (hu : P.underlying t = some (.slice e)) (hx : evL L x = some (.slice a m c)) (hy : evL L y = some (.slice none 0 0)) :
    Py P n L w ⟨d, .binOp .eql t x y yt, ty, p, af, g⟩ (.bool a.isNone) := fun a ha => by
  simp [execOp, ha.eval hx, ha.eval hy, eqGuard, run_eql_slnil hu]
end
theorem own_none {α : Type} [Rp α] {s w ad m c} {xs : List α} {f} (h : own s w [.slice ad m c] xs f) (ha : ad.isNone = true) : xs = [] := by
  by_cases h0 : 0 < xs.length
  · obtain ⟨b, o, _, _, e, _⟩ := own_all h h0
    subst e; simp at ha
  · exact List.eq_nil_of_length_eq_zero (by omega)
theorem tdiv_bd {a b : Int} (h : 0 ≤ a) (hb : 0 < b) : 0 ≤ a.tdiv b ∧ a.tdiv b ≤ a := by
  rw [Int.tdiv_eq_ediv_of_nonneg h]
  exact ⟨Int.ediv_nonneg h (by omega), Int.ediv_le_self _ h⟩
theorem tmod_bd {a b : Int} (h : 0 ≤ a) (hb : 0 < b) : 0 ≤ a.tmod b ∧ a.tmod b < b := ⟨Int.tmod_nonneg _ h, Int.tmod_lt_of_pos _ hb⟩
end Go.Wk
namespace Go.Wk
open Rp (sz own)
abbrev Mat := List (List UInt8)
end Go.Wk
namespace Go.Wk
open Rp (sz own)
section
variable {P : Program} {n : Nat} {ops : Array Oper} {Q : Post} {S : World → Prop} {L : Env} {w w0 wr : World} {M M' : Nat → Prop} {Δ F : List Rsc} {i : Nat} {d : Tmp} {ty : TypeId} {p : String} {af : Array Edge} {g : Option (Nat × Bool)} {rest : List (Nat × Bool)} {α : Type} [Rp α]
theorem d_S {l : List (Nat × Bool)} (h : S w → DL P n ops Q S l L w) (hl : l ≠ []) : DL P n ops Q S l L w := fun hs a ha hS => h (hS hl) hs a ha hS
theorem d_appFS [Flat α] {x y : Operand} {t e : TypeId} {z : Value} {bytes : Nat} {v : Value} {xs ys : List α} {fp fy : List Nat} {s ad m c2} (ho : ops.toList[i]? = some ⟨some d, .call ⟨.builtin .append, #[x, y], #[t, t]⟩, ty, p, af, g⟩) (hw : Wn ops n L ⟨some d, .call ⟨.builtin .append, #[x, y], #[t, t]⟩, ty, p, af, g⟩) (hn : Nat.blt d n = true)
    (ht : P.underlying t = some (.slice e)) (hT : Ty P e z (sz α) bytes) (hz : z.cells.size = sz α) (hx : evL L x = some v) (hy : evL L y = some (.slice ad m c2))
    (H : Sep M w0 Δ F w) (q : Nat) (hi : Δ[q]? = some (mine [v] xs fp)) (hu : own s w [.slice ad m c2] ys fy) (h63 : xs.length + ys.length ≤ maxLen) (hb48 : (xs.length + ys.length) * bytes ≤ 140737488355328)
    (hf : ∀ b ∈ fp, wr.heap.size ≤ b)
    (k : ∀ v' w' fp', (∀ b ∈ fp', b ∈ fp ∨ w.heap.size ≤ b) → Sep M w0 (Δ.set q (mine [v'] (xs ++ ys) fp')) F w' → DL P n ops Q (Ext M' wr) rest ((d, v') :: L) w') :
    DL P n ops Q (Ext M' wr) ((i, false) :: rest) L w := by
  obtain ⟨v', w', fp', h1, h2, h3, h4, h5⟩ := run_appendF (ty := ty) ht hT hz (H.mine q hi) hu (H.nodup1 hi) h63 hb48
  exact d_new ho hw rfl hn (pn_app hx hy h1) (fun h _ => h.step h3 fun b hb => .inr (hf b hb)) (k _ _ _ h4 (H.set hi (q := Wk.mine [v'] (xs ++ ys) fp') h3 h2 h5 h4))
end
end Go.Wk
namespace Go.Wk
open Rp (sz own)
def reord (r : Rsc) (fp : List Nat) (h : ∀ b, b ∈ fp ↔ b ∈ r.fp) : Rsc := ⟨fp, r.φ, fun a e => r.st a fun b hb => e b ((h b).2 hb), fun a b hb => r.lt a b ((h b).1 hb)⟩
section
variable {M : Nat → Prop} {w0 w w' : World} {Δ F : List Rsc} {β : Type} [Rp β]
theorem set_swap {a b : Rsc} {t : List Rsc} : ∀ {Δ : List Rsc} {i : Nat}, i < Δ.length → (Δ.set i a ++ b :: t).Perm (Δ.set i b ++ a :: t)
  | [], _, h => by simp at h
  | x :: Δ, 0, _ => by
    show (a :: (Δ ++ b :: t)).Perm (b :: (Δ ++ a :: t))
    exact (List.perm_middle.cons a).trans ((List.Perm.swap _ _ _).trans (List.perm_middle.symm.cons b))
  | x :: Δ, i + 1, h => (set_swap (Δ := Δ) (i := i) (by simpa using h)).cons x
end
def hv (n : Nat) (have_ : List Int) (base : Int) (t : Nat) : List UInt8 := genG n (have_.getD t 0) base
end Go.Wk
namespace Go.Wk
theorem wou {n : Nat} {ops : Array Oper} {L : Env} {o : Oper} {j t b} (h : o.guard = some (j, b)) (hd : dstOf ops j = some t) (hb : look L t = some undef) : Wo ops n L o := fun a hg => by
  have hy : yielded ops a.tmps j = none := by
    have h := hg.cov t _ hb
    have hd' : (ops[j]?).bind (·.dst) = some t := by simpa [dstOf] using hd
    simp only [yielded, hd', Option.bind_some]
    simp only [Array.getD_eq_getD_getElem?] at h
    cases ht : a.tmps[t]? with
    | none => rfl
    | some v => rw [ht] at h; simp at h; subst h; rfl
  simp [Region.wanted, h, hy]
def riseAt (xs : List Int) (m : Int) (i : Nat) : Bool := decide (0 ≤ xs.getD i 0) && decide (xs.getD i 0 ≤ m) && (decide (i = 0) || decide (xs.getD (i - 1) 0 < xs.getD i 0))
def rises (xs : List Int) (m : Int) : Bool := (List.range xs.length).all (riseAt xs m)
theorem rises_yes {xs m} (h : ∀ i, i < xs.length → riseAt xs m i = true) : rises xs m = true := by
  rw [rises, List.all_eq_true]
  exact fun i hi => h i (by simpa using hi)
theorem rises_no {xs m} (i : Nat) (hi : i < xs.length) (h : riseAt xs m i = false) : rises xs m = false := by
  cases hr : rises xs m with
  | false => rfl
  | true =>
    rw [rises, List.all_eq_true] at hr
    rw [hr i (by simpa using hi)] at h
    cases h
theorem rises_get {xs m} (h : rises xs m = true) (i : Nat) (hi : i < xs.length) : 0 ≤ xs.getD i 0 ∧ xs.getD i 0 ≤ m := by
  rw [rises, List.all_eq_true] at h
  have := h i (by simpa using hi)
  simp only [riseAt, Bool.and_eq_true, decide_eq_true_eq] at this
  exact this.1
end Go.Wk
namespace Go.Wk
open Go.Proofs Rp
set_option maxRecDepth 10000
theorem Tryz_impl_risesIn {w : World} {xs : List Int} {xsA : Option Addr} {xsC : Nat} {m : Int} (xsS : Sees w [.slice xsA xs.length xsC] xs) (hm : -1000 ≤ m ∧ m ≤ 1000000) : Ret Tryz.prog 279 #[.slice xsA xs.length xsC, .int .i64 m] w fun v w' => Ext No w w' ∧ (v = .bool (rises xs (m - 1))) := by
 have xsL := sL xsS
 obtain ⟨xsF, xsO⟩ := xsS
 refine ret_Q (vs := [.slice xsA xs.length xsC, .int .i64 m]) Tryz.func279 rfl Tryz.ntmps279 rfl (fun Q hQ hN => ?_)
 have H0 := Sep.start (w := w) (F := [seen false [.slice xsA xs.length xsC] xs xsF]) (all_cons xsO (by simp))
 refine W_sr (sA rfl rfl (s_nil (W_seq (W_sr (sM rfl rfl (sV rfl (py_len tu25 rfl) (sM rfl rfl (s_nil (W_block (W_loop (γ := Nat) (fun k => [(0, .slice xsA xs.length xsC), (1, .int .i64 m), (7, .slice xsA xs.length xsC), (8, .int .i64 xs.length), (9, .int .i64 k)]) (fun k w' => Sep No w [] [seen false [.slice xsA xs.length xsC] xs xsF] w' ∧ k ≤ xs.length ∧ (∀ i, i < k → riseAt xs (m - 1) i = true)) (fun k => xs.length - k) 0 ⟨rfl, rfl, rfl, rfl, rfl, trivial⟩ ⟨H0, by omega, fun i hi => by omega⟩ (fun k w1 H1 => ?_)))))))))))
 obtain ⟨H1, hk, he⟩ := H1
 refine W_sr (sV rfl (py_lss rfl rfl) (s_nil (W_seq (W_ifd rfl (fun c1 => ?_) (fun c1 => ?_)))))
 ·refine W_skip (W_seq (W_block (W_seq ?_)))
  obtain ⟨eb1, eo1, ee1, ec1⟩ := elem_int (H1.seen 0 rfl) k (by omega)
  have eI1 := elem_i64 (H1.seen 0 rfl) k (by omega)
  refine W_reg (sM rfl rfl (sV rfl (py_elz tu25 ts2 rfl rfl ee1 k (by omega) (by omega)) (sV rfl (py_load tu2 rfl rfl ec1) (sA rfl rfl (sA rfl rfl (s_nil (W_seq ?_)))))))
  obtain ⟨eb2, eo2, ee2, ec2⟩ := elem_int (H1.seen 0 rfl) (k - 1) (by omega)
  have eI2 := elem_i64 (H1.seen 0 rfl) (k - 1) (by omega)
  refine W_reg (sM rfl rfl (sM rfl rfl (sV rfl (py_sub rfl rfl (in64 ⟨by omega, by omega⟩)) (s_call (wn rfl) rfl rfl (pc_call Tryz.func147 rfl Tryz_nm147 rfl) Tryz_impl_inside (fun v1 w2 r1 => ?_)))))
  obtain ⟨e1, rfl⟩ := r1
  have H2 := H1.to e1
  refine sV rfl (py_not rfl) (sM rfl rfl (s_grp 11 (j := 5) (want := false) (t := 30) rfl rfl rfl rfl (fun hg1 kk1 => s_val (wgE rfl rfl rfl hg1) rfl rfl (py_move rfl) (s_val (wgE rfl rfl rfl hg1) rfl rfl (py_gtr rfl rfl) (s_val (wgE rfl rfl rfl hg1) rfl rfl (py_move rfl) (s_grp 7 (j := 8) (want := true) (t := 29) rfl rfl rfl rfl (fun hg2 kk2 => s_val (wgE rfl rfl rfl hg2) rfl rfl (py_move rfl) (s_val (wgE rfl rfl rfl hg2) rfl rfl (py_move rfl) (s_val (wgE rfl rfl rfl hg2) rfl rfl (py_sub rfl rfl (in64 ⟨by omega, by omega⟩)) (s_val (wgE rfl rfl rfl hg2) rfl rfl (py_elz tu25 ts2 rfl rfl ee2 (k - 1) (by first | omega | (simp only [Bool.or_eq_false_iff, Bool.and_eq_true, Bool.and_eq_false_iff, Bool.or_eq_true, Bool.not_eq_true', Bool.not_eq_false', decide_eq_true_eq, decide_eq_false_iff_not] at hg1 hg2; omega)) (by omega)) (s_val (wgE rfl rfl rfl hg2) rfl rfl (py_load tu2 rfl rfl (e1.cell ec2)) (s_val (wgE rfl rfl rfl hg2) rfl rfl (py_move rfl) (s_val (wgE rfl rfl rfl hg2) rfl rfl (py_geq rfl rfl) (kk2 _ _ (kx rfl (kx rfl (kx rfl (kx rfl (kx rfl (kx rfl (kx rfl k0))))))) rfl Ext.refl)))))))) (fun w4 e3 => s_val (wgE rfl rfl rfl hg1) rfl rfl (py_band rfl rfl) (kk1 _ _ (kx rfl (kx rfl (kx rfl (kx rfl (kx rfl k0))))) rfl (Ext.refl.trans e3))))))) (fun w3 e2 => ?_)))
  have H4 := H2.to e2
  refine sV rfl (py_bor rfl rfl) (s_nil (W_if rfl (fun c2 => ?_) (fun c2 => ?_)))
  ·refine W_sr (sA rfl rfl (s_nil (rT hQ Tryz.results279 rfl (⟨H4.ext, ?_⟩))))
   rw [rises_no k (by omega) (by
    simp [ins, -List.getD_eq_getElem?_getD] at c2
    simp [riseAt, -List.getD_eq_getElem?_getD]
    omega)]
  ·refine W_skip (W_reg (sV rfl (py_add rfl rfl (in64 ⟨by omega, by omega⟩)) (sM rfl rfl (s_nil (⟨k + 1, ⟨rfl, rfl, rfl, rfl, rfl, trivial⟩, ⟨H4, by omega, fun i hi => ?_⟩, by dsimp only; omega⟩)))))
   by_cases e : i = k
   ·subst e
    simp [ins, -List.getD_eq_getElem?_getD] at c2
    simp [riseAt, -List.getD_eq_getElem?_getD]
    omega
   ·exact he i (by omega)
 ·refine W_exit (W_sr (sA rfl rfl (s_nil (rT hQ Tryz.results279 rfl ?_))))
  exact ⟨H1.ext, by rw [rises_yes (fun i hi => he i (by omega))]⟩
theorem Tryz_spec_l2Rise {w : World} {xs : List Int} {xsA : Option Addr} {xsC : Nat} {m : Int} (xsS : Sees w [.slice xsA xs.length xsC] xs) (hm : -1000 ≤ m ∧ m ≤ 1000000) : Ret Tryz.prog 190 #[.slice xsA xs.length xsC, .int .i64 m] w fun v w' => Ext No w w' ∧ (v = .bool (rises xs m)) := by
 have xsL := sL xsS
 obtain ⟨xsF, xsO⟩ := xsS
 refine ret_Q (vs := [.slice xsA xs.length xsC, .int .i64 m]) Tryz.func190 rfl Tryz.ntmps190 rfl (fun Q hQ hN => ?_)
 have H0 := Sep.start (w := w) (F := [seen false [.slice xsA xs.length xsC] xs xsF]) (all_cons xsO (by simp))
 refine W_sr (sA rfl rfl (s_nil (W_seq (W_sr (sA rfl rfl (s_nil (W_block (W_loop (γ := Nat) (fun k => [(0, .slice xsA xs.length xsC), (1, .int .i64 m), (5, .int .i64 k)]) (fun k w' => Sep No w [] [seen false [.slice xsA xs.length xsC] xs xsF] w' ∧ k ≤ xs.length ∧ (∀ i, i < k → riseAt xs m i = true)) (fun k => xs.length - k) 0 ⟨rfl, rfl, rfl, trivial⟩ ⟨H0, by omega, fun i hi => by omega⟩ (fun k w1 H1 => ?_)))))))))
 obtain ⟨H1, hk, he⟩ := H1
 refine W_seq (W_sr (sM rfl rfl (sM rfl rfl (sV rfl (py_len tu25 rfl) (sV rfl (py_lss rfl rfl) (s_nil (W_ifd rfl (fun c1 => ?_) (fun c1 => ?_))))))))
 ·refine W_skip (W_seq (W_block (W_seq ?_)))
  obtain ⟨eb1, eo1, ee1, ec1⟩ := elem_int (H1.seen 0 rfl) k (by omega)
  have eI1 := elem_i64 (H1.seen 0 rfl) k (by omega)
  refine W_drw (S := Ext No _) [(0, true), (1, true), (2, true), (3, true), (4, true), (5, true), (6, true), (7, true), (8, true), (9, true), (10, true), (11, true), (12, true), (13, true), (14, true), (15, true), (16, true), (17, true), (18, true), (19, true), (20, true), (21, true), (22, true), (23, true), (24, true), (25, true), (26, true), (27, true), (28, false)] (by kernel_rfl) (by kernel_rfl) (by kernel_rfl) rfl (fun _ => Ext.refl.drawn _) (fun q1 => ?_)
  have H2 := H1.drawn q1
  refine dM rfl rfl rfl (dM rfl rfl rfl (dV rfl rfl (fun zw hx => py_elz tu25 ts2 rfl rfl ee1 k (by omega) (by omega)) (dV rfl rfl (fun zw hx => py_load tu2 rfl rfl (hx.cell ec1)) (dV rfl rfl (fun zw hx => py_lss rfl rfl) (dM rfl rfl rfl (d_case (t := 17) rfl (fun hg1 => ?_) (fun hg1 => ?_)))))))
  ·try simp only [decide_eq_true_eq, decide_eq_false_iff_not] at hg1
   refine dKt rfl rfl rfl rfl (dKt rfl rfl rfl rfl (dKt rfl rfl rfl rfl (dKt rfl rfl rfl rfl (dKt rfl rfl rfl rfl (dKt rfl rfl rfl rfl (dV rfl rfl (fun zw hx => py_pickT rfl rfl) (dM rfl rfl rfl (dKt rfl rfl rfl rfl (dKt rfl rfl rfl rfl (dKt rfl rfl rfl rfl (d_skip rfl (wou rfl rfl rfl) rfl rfl (d_skip rfl (wou rfl rfl rfl) rfl rfl (d_skip rfl (wou rfl rfl rfl) rfl rfl (d_skip rfl (wou rfl rfl rfl) rfl rfl (d_skip rfl (wou rfl rfl rfl) rfl rfl (d_skip rfl (wou rfl rfl rfl) rfl rfl (d_skip rfl (wou rfl rfl rfl) rfl rfl (d_skip rfl (wou rfl rfl rfl) rfl rfl (d_skip rfl (wou rfl rfl rfl) rfl rfl (d_skip rfl (wou rfl rfl rfl) rfl rfl (dKt rfl rfl rfl rfl (d_end rfl (wn rfl) rfl rfl (py_pickT rfl rfl) (d_nil (W_ift rfl (W_sr (sA rfl rfl (s_nil (rT hQ Tryz.results190 rfl (⟨H2.ext, ?_⟩)))))))))))))))))))))))))))))
   rw [rises_no k (by omega) (by
    simp [riseAt, -List.getD_eq_getElem?_getD]
    omega)]
  ·try simp only [decide_eq_true_eq, decide_eq_false_iff_not] at hg1
   refine d_val rfl (wg rfl rfl rfl) rfl rfl (fun zw hx => py_move rfl) (d_val rfl (wg rfl rfl rfl) rfl rfl (fun zw hx => py_move rfl) (d_val rfl (wg rfl rfl rfl) rfl rfl (fun zw hx => py_elz tu25 ts2 rfl rfl ee1 k (by omega) (by omega)) (d_val rfl (wg rfl rfl rfl) rfl rfl (fun zw hx => py_load tu2 rfl rfl (hx.cell ec1)) (d_val rfl (wg rfl rfl rfl) rfl rfl (fun zw hx => py_move rfl) (d_val rfl (wg rfl rfl rfl) rfl rfl (fun zw hx => py_gtr rfl rfl) (dV rfl rfl (fun zw hx => py_pickF rfl rfl) (dM rfl rfl rfl (d_case (t := 25) rfl (fun hg2 => ?_) (fun hg2 => ?_)))))))))
   ·try simp only [decide_eq_true_eq, decide_eq_false_iff_not] at hg2
    refine dKt rfl rfl rfl rfl (dKt rfl rfl rfl rfl (dKt rfl rfl rfl rfl (d_skip rfl (wou rfl rfl rfl) rfl rfl (d_skip rfl (wou rfl rfl rfl) rfl rfl (d_skip rfl (wou rfl rfl rfl) rfl rfl (d_skip rfl (wou rfl rfl rfl) rfl rfl (d_skip rfl (wou rfl rfl rfl) rfl rfl (d_skip rfl (wou rfl rfl rfl) rfl rfl (d_skip rfl (wou rfl rfl rfl) rfl rfl (d_skip rfl (wou rfl rfl rfl) rfl rfl (d_skip rfl (wou rfl rfl rfl) rfl rfl (d_skip rfl (wou rfl rfl rfl) rfl rfl (dKt rfl rfl rfl rfl (d_end rfl (wn rfl) rfl rfl (py_pickT rfl rfl) (d_nil (W_ift rfl (W_sr (sA rfl rfl (s_nil (rT hQ Tryz.results190 rfl (⟨H2.ext, ?_⟩)))))))))))))))))))))
    rw [rises_no k (by omega) (by
     simp [riseAt, -List.getD_eq_getElem?_getD]
     omega)]
   ·try simp only [decide_eq_true_eq, decide_eq_false_iff_not] at hg2
    refine d_val rfl (wg rfl rfl rfl) rfl rfl (fun zw hx => py_move rfl) (d_val rfl (wg rfl rfl rfl) rfl rfl (fun zw hx => py_gtr rfl rfl) (d_val rfl (wg rfl rfl rfl) rfl rfl (fun zw hx => py_move rfl) (d_case (t := 28) rfl (fun hg3 => ?_) (fun hg3 => ?_))))
    ·try simp only [decide_eq_true_eq, decide_eq_false_iff_not] at hg3
     refine d_val rfl (wg rfl rfl rfl) rfl rfl (fun zw hx => py_move rfl) (d_val rfl (wg rfl rfl rfl) rfl rfl (fun zw hx => py_move rfl) (d_val rfl (wg rfl rfl rfl) rfl rfl (fun zw hx => py_elz tu25 ts2 rfl rfl ee1 k (by omega) (by omega)) (d_val rfl (wg rfl rfl rfl) rfl rfl (fun zw hx => py_load tu2 rfl rfl (hx.cell ec1)) (d_val rfl (wg rfl rfl rfl) rfl rfl (fun zw hx => py_move rfl) (d_val rfl (wg rfl rfl rfl) rfl rfl (fun zw hx => py_move rfl) (d_val rfl (wg rfl rfl rfl) rfl rfl (fun zw hx => py_sub rfl rfl (in64 ⟨by omega, by omega⟩)) ?_))))))
     obtain ⟨eb2, eo2, ee2, ec2⟩ := elem_int (H2.seen 0 rfl) (k - 1) (by omega)
     have eI2 := elem_i64 (H2.seen 0 rfl) (k - 1) (by omega)
     refine d_val rfl (wg rfl rfl rfl) rfl rfl (fun zw hx => py_elz tu25 ts2 rfl rfl ee2 (k - 1) (by omega) (by omega)) (d_val rfl (wg rfl rfl rfl) rfl rfl (fun zw hx => py_load tu2 rfl rfl (hx.cell ec2)) (d_val rfl (wg rfl rfl rfl) rfl rfl (fun zw hx => py_leq rfl rfl) (d_val rfl (wg rfl rfl rfl) rfl rfl (fun zw hx => py_pickT rfl rfl) (d_end rfl (wn rfl) rfl rfl (py_pickF rfl rfl) (d_nil (W_ifd rfl (fun c2 => ?_) (fun c2 => ?_)))))))
     ·refine W_sr (sA rfl rfl (s_nil (rT hQ Tryz.results190 rfl (⟨H2.ext, ?_⟩))))
      rw [rises_no k (by omega) (by
       simp [riseAt, -List.getD_eq_getElem?_getD]
       omega)]
     ·refine W_skip (W_reg (sM rfl rfl (sV rfl (py_add rfl rfl (in64 ⟨by omega, by omega⟩)) (sA rfl rfl (s_nil (⟨k + 1, ⟨rfl, rfl, rfl, trivial⟩, ⟨H2, by omega, fun i hi => ?_⟩, by dsimp only; omega⟩))))))
      by_cases e : i = k
      ·subst e
       simp [riseAt, -List.getD_eq_getElem?_getD]
       omega
      ·exact he i (by omega)
    ·try simp only [decide_eq_true_eq, decide_eq_false_iff_not] at hg3
     refine dKf rfl rfl rfl rfl (dKf rfl rfl rfl rfl (dKf rfl rfl rfl rfl (dKf rfl rfl rfl rfl (dKf rfl rfl rfl rfl (dKf rfl rfl rfl rfl (dKf rfl rfl rfl rfl (dKf rfl rfl rfl rfl (dKf rfl rfl rfl rfl (dKf rfl rfl rfl rfl (d_val rfl (wg rfl rfl rfl) rfl rfl (fun zw hx => py_pickF rfl rfl) (d_end rfl (wn rfl) rfl rfl (py_pickF rfl rfl) (d_nil (W_iff rfl (W_skip (W_reg (sM rfl rfl (sV rfl (py_add rfl rfl (in64 ⟨by omega, by omega⟩)) (sA rfl rfl (s_nil (⟨k + 1, ⟨rfl, rfl, rfl, trivial⟩, ⟨H2, by omega, fun i hi => ?_⟩, by dsimp only; omega⟩))))))))))))))))))))
     by_cases e : i = k
     ·subst e
      simp [riseAt, -List.getD_eq_getElem?_getD]
      omega
     ·exact he i (by omega)
 ·refine W_exit (W_sr (sA rfl rfl (s_nil (rT hQ Tryz.results190 rfl ?_))))
  exact ⟨H1.ext, by rw [rises_yes (fun i hi => he i (by omega))]⟩
end Go.Wk
namespace Go.Wk
open Go.Proofs Rp
set_option maxRecDepth 10000
theorem Tryz_laws_markByteS {w : World} {xs : List UInt8} {xsA : Option Addr} {xsC : Nat} {k : Int} {fp : List Nat} (o : own true w [.slice xsA xs.length xsC] xs fp) (nd : fp.Nodup) (hk : 0 ≤ k ∧ k + xs.length ≤ 4611686018427387904) : Ret Tryz.prog 88 #[.slice xsA xs.length xsC, .int .i64 k] w fun v w' => (v = .int .i64 (k + xs.length) ∧ ∃ xs', Mut w w' fp [.slice xsA xs.length xsC] xs' ∧ xs'.length = xs.length ∧ MarkB xs' k) := by
 have len := oL o
 refine ret_Q (vs := [.slice xsA xs.length xsC, .int .i64 k]) Tryz.func88 rfl Tryz.ntmps88 rfl (fun Q hQ hN => ?_)
 have H0 := Sep.begin o nd
 refine W_sr (sA rfl rfl (s_nil (W_seq (W_sr (sA rfl rfl (s_nil (W_block (W_loop (γ := Nat × List UInt8 × List Nat) (fun (i, ys, f) => [(0, .slice xsA xs.length xsC), (1, .int .i64 (k + i)), (5, .int .i64 i)]) (fun (i, ys, f) w' => Sep (· ∈ fp) w [mine [.slice xsA xs.length xsC] ys f] [] w' ∧ i ≤ xs.length ∧ ys.length = xs.length ∧ (∀ j, j < i → ys.getD j 0 = u8Of (k + j))) (fun (i, ys, f) => xs.length - i) (0, xs, fp) ⟨rfl, eqI (by omega), rfl, trivial⟩ ⟨H0, by omega, rfl, fun j hj => by omega⟩ (fun (i, ys, f) w1 H1 => ?_)))))))))
 obtain ⟨H1, hi, hl, hm⟩ := H1
 refine W_seq (W_sr (sM rfl rfl (sM rfl rfl (sV rfl (py_len tu45 rfl) (sV rfl (py_lss rfl rfl) (s_nil (W_ifd rfl (fun c1 => ?_) (fun c1 => ?_))))))))
 ·refine W_skip (W_seq (W_block (W_seq ?_)))
  obtain ⟨eb1, eo1, ee1, ec1⟩ := elem_u8 (H1.mine 0 rfl) i (by omega)
  refine W_reg (sM rfl rfl (sM rfl rfl (sM rfl rfl (sV rfl (py_conv8 tu3 tu5 rfl) (sV rfl (py_elz tu45 ts5 rfl rfl ee1 i (by omega) (by omega)) (s_elst (wn rfl) ts5 rfl H1 0 rfl i (by omega) rfl ee1 rfl own_b8 (fun w2 fp1 e1 H2 => ?_)))))))
  refine s_nil (W_reg (sM rfl rfl (sV rfl (py_add rfl rfl (in64 ⟨by omega, by omega⟩)) (sA rfl rfl (s_nil (W_reg (sM rfl rfl (sV rfl (py_add rfl rfl (in64 ⟨by omega, by omega⟩)) (sA rfl rfl (s_nil (⟨(i + 1, _, _), ⟨rfl, eqI (by omega), rfl, trivial⟩, ⟨H2, by omega, by rw [List.length_set]; exact hl, fun j hj => ?_⟩, by dsimp only; omega⟩)))))))))))
  rw [getD_set]
  by_cases e : j = i
  ·subst e; rw [if_pos ⟨rfl, by omega⟩]
  ·rw [if_neg (fun h => e h.1)]; exact hm j (by omega)
 ·refine W_exit (W_sr (sM rfl rfl (sA rfl rfl (s_nil (rT hQ Tryz.results88 rfl ?_)))))
  obtain rfl : i = xs.length := by omega
  exact ⟨rfl, _, H1.done, hl, fun j hj => hm j (by omega)⟩
theorem Tryz_laws_markInt64S {w : World} {xs : List Int} {xsA : Option Addr} {xsC : Nat} {k : Int} {fp : List Nat} (o : own true w [.slice xsA xs.length xsC] xs fp) (nd : fp.Nodup) (hk : 0 ≤ k ∧ k + xs.length ≤ 4611686018427387904) : Ret Tryz.prog 81 #[.slice xsA xs.length xsC, .int .i64 k] w fun v w' => (v = .int .i64 (k + xs.length) ∧ ∃ xs', Mut w w' fp [.slice xsA xs.length xsC] xs' ∧ xs'.length = xs.length ∧ MarkI xs' k) := by
 have len := oL o
 refine ret_Q (vs := [.slice xsA xs.length xsC, .int .i64 k]) Tryz.func81 rfl Tryz.ntmps81 rfl (fun Q hQ hN => ?_)
 have H0 := Sep.begin o nd
 refine W_sr (sA rfl rfl (s_nil (W_seq (W_sr (sA rfl rfl (s_nil (W_block (W_loop (γ := Nat × List Int × List Nat) (fun (i, ys, f) => [(0, .slice xsA xs.length xsC), (1, .int .i64 (k + i)), (5, .int .i64 i)]) (fun (i, ys, f) w' => Sep (· ∈ fp) w [mine [.slice xsA xs.length xsC] ys f] [] w' ∧ i ≤ xs.length ∧ ys.length = xs.length ∧ (∀ j, j < i → ys.getD j 0 = (k + j))) (fun (i, ys, f) => xs.length - i) (0, xs, fp) ⟨rfl, eqI (by omega), rfl, trivial⟩ ⟨H0, by omega, rfl, fun j hj => by omega⟩ (fun (i, ys, f) w1 H1 => ?_)))))))))
 obtain ⟨H1, hi, hl, hm⟩ := H1
 refine W_seq (W_sr (sM rfl rfl (sM rfl rfl (sV rfl (py_len tu25 rfl) (sV rfl (py_lss rfl rfl) (s_nil (W_ifd rfl (fun c1 => ?_) (fun c1 => ?_))))))))
 ·refine W_skip (W_seq (W_block (W_seq ?_)))
  obtain ⟨eb1, eo1, ee1, ec1⟩ := elem_int (H1.mine 0 rfl) i (by omega)
  refine W_reg (sM rfl rfl (sM rfl rfl (sM rfl rfl (sV rfl (py_elz tu25 ts2 rfl rfl ee1 i (by omega) (by omega)) (s_elst (wn rfl) ts2 rfl H1 0 rfl i (by omega) rfl ee1 rfl (own_bi (by unfold I64ok; omega)) (fun w2 fp1 e1 H2 => ?_))))))
  refine s_nil (W_reg (sM rfl rfl (sV rfl (py_add rfl rfl (in64 ⟨by omega, by omega⟩)) (sA rfl rfl (s_nil (W_reg (sM rfl rfl (sV rfl (py_add rfl rfl (in64 ⟨by omega, by omega⟩)) (sA rfl rfl (s_nil (⟨(i + 1, _, _), ⟨rfl, eqI (by omega), rfl, trivial⟩, ⟨H2, by omega, by rw [List.length_set]; exact hl, fun j hj => ?_⟩, by dsimp only; omega⟩)))))))))))
  rw [getD_set]
  by_cases e : j = i
  ·subst e; rw [if_pos ⟨rfl, by omega⟩]
  ·rw [if_neg (fun h => e h.1)]; exact hm j (by omega)
 ·refine W_exit (W_sr (sM rfl rfl (sA rfl rfl (s_nil (rT hQ Tryz.results81 rfl ?_)))))
  obtain rfl : i = xs.length := by omega
  exact ⟨rfl, _, H1.done, hl, fun j hj => hm j (by omega)⟩
theorem Tryz_laws_heldByteS {w : World} {xs : List UInt8} {xsA : Option Addr} {xsC : Nat} {k : Int} (xsS : Sees w [.slice xsA xs.length xsC] xs) (hk : 0 ≤ k ∧ k + xs.length ≤ 4611686018427387904) (hm : MarkB xs k) : Ret Tryz.prog 89 #[.slice xsA xs.length xsC, .int .i64 k] w fun v w' => Ext No w w' ∧ (v = .int .i64 (k + xs.length)) := by
 have xsL := sL xsS
 obtain ⟨xsF, xsO⟩ := xsS
 refine ret_Q (vs := [.slice xsA xs.length xsC, .int .i64 k]) Tryz.func89 rfl Tryz.ntmps89 rfl (fun Q hQ hN => ?_)
 have H0 := Sep.start (w := w) (F := [seen false [.slice xsA xs.length xsC] xs xsF]) (all_cons xsO (by simp))
 refine W_sr (sA rfl rfl (s_nil (W_seq (W_sr (sA rfl rfl (s_nil (W_block (W_loop (γ := Nat) (fun i => [(0, .slice xsA xs.length xsC), (1, .int .i64 (k + i)), (5, .int .i64 i)]) (fun i w' => Sep No w [] [seen false [.slice xsA xs.length xsC] xs xsF] w' ∧ i ≤ xs.length) (fun i => xs.length - i) 0 ⟨rfl, eqI (by omega), rfl, trivial⟩ ⟨H0, by omega⟩ (fun i w1 H1 => ?_)))))))))
 obtain ⟨H1, hi⟩ := H1
 refine W_seq (W_sr (sM rfl rfl (sM rfl rfl (sV rfl (py_len tu45 rfl) (sV rfl (py_lss rfl rfl) (s_nil (W_ifd rfl (fun c1 => ?_) (fun c1 => ?_))))))))
 ·refine W_skip (W_seq (W_block (W_seq (W_seq ?_))))
  obtain ⟨eb1, eo1, ee1, ec1⟩ := elem_u8 (H1.seen 0 rfl) i (by omega)
  refine W_reg (sM rfl rfl (sM rfl rfl (sV rfl (py_elz tu45 ts5 rfl rfl ee1 i (by omega) (by omega)) (sV rfl (py_load tu5 rfl rfl ec1) (sM rfl rfl (sV rfl (py_conv8 tu3 tu5 rfl) (sV rfl (py_neq rfl rfl) (s_nil (W_ifd rfl (fun c2 => ?_) (fun c2 => ?_))))))))))
  ·exact absurd (by rw [hm i (by omega)]) c2
  ·refine W_skip (W_reg (sM rfl rfl (sV rfl (py_add rfl rfl (in64 ⟨by omega, by omega⟩)) (sA rfl rfl (s_nil (W_reg (sM rfl rfl (sV rfl (py_add rfl rfl (in64 ⟨by omega, by omega⟩)) (sA rfl rfl (s_nil (⟨i + 1, ⟨rfl, eqI (by omega), rfl, trivial⟩, ⟨H1, by omega⟩, by dsimp only; omega⟩)))))))))))
 ·refine W_exit (W_sr (sM rfl rfl (sA rfl rfl (s_nil (rT hQ Tryz.results89 rfl ?_)))))
  obtain rfl : i = xs.length := by omega
  exact ⟨H1.ext, rfl⟩
theorem Tryz_laws_heldInt64S {w : World} {xs : List Int} {xsA : Option Addr} {xsC : Nat} {k : Int} (xsS : Sees w [.slice xsA xs.length xsC] xs) (hk : 0 ≤ k ∧ k + xs.length ≤ 4611686018427387904) (hm : MarkI xs k) : Ret Tryz.prog 92 #[.slice xsA xs.length xsC, .int .i64 k] w fun v w' => Ext No w w' ∧ (v = .int .i64 (k + xs.length)) := by
 have xsL := sL xsS
 obtain ⟨xsF, xsO⟩ := xsS
 refine ret_Q (vs := [.slice xsA xs.length xsC, .int .i64 k]) Tryz.func92 rfl Tryz.ntmps92 rfl (fun Q hQ hN => ?_)
 have H0 := Sep.start (w := w) (F := [seen false [.slice xsA xs.length xsC] xs xsF]) (all_cons xsO (by simp))
 refine W_sr (sA rfl rfl (s_nil (W_seq (W_sr (sA rfl rfl (s_nil (W_block (W_loop (γ := Nat) (fun i => [(0, .slice xsA xs.length xsC), (1, .int .i64 (k + i)), (5, .int .i64 i)]) (fun i w' => Sep No w [] [seen false [.slice xsA xs.length xsC] xs xsF] w' ∧ i ≤ xs.length) (fun i => xs.length - i) 0 ⟨rfl, eqI (by omega), rfl, trivial⟩ ⟨H0, by omega⟩ (fun i w1 H1 => ?_)))))))))
 obtain ⟨H1, hi⟩ := H1
 refine W_seq (W_sr (sM rfl rfl (sM rfl rfl (sV rfl (py_len tu25 rfl) (sV rfl (py_lss rfl rfl) (s_nil (W_ifd rfl (fun c1 => ?_) (fun c1 => ?_))))))))
 ·refine W_skip (W_seq (W_block (W_seq (W_seq ?_))))
  obtain ⟨eb1, eo1, ee1, ec1⟩ := elem_int (H1.seen 0 rfl) i (by omega)
  have eI1 := elem_i64 (H1.seen 0 rfl) i (by omega)
  refine W_reg (sM rfl rfl (sM rfl rfl (sV rfl (py_elz tu25 ts2 rfl rfl ee1 i (by omega) (by omega)) (sV rfl (py_load tu2 rfl rfl ec1) (sM rfl rfl (sV rfl (py_neq rfl rfl) (s_nil (W_ifd rfl (fun c2 => ?_) (fun c2 => ?_)))))))))
  ·exact absurd (hm i (by omega)) c2
  ·refine W_skip (W_reg (sM rfl rfl (sV rfl (py_add rfl rfl (in64 ⟨by omega, by omega⟩)) (sA rfl rfl (s_nil (W_reg (sM rfl rfl (sV rfl (py_add rfl rfl (in64 ⟨by omega, by omega⟩)) (sA rfl rfl (s_nil (⟨i + 1, ⟨rfl, eqI (by omega), rfl, trivial⟩, ⟨H1, by omega⟩, by dsimp only; omega⟩)))))))))))
 ·refine W_exit (W_sr (sM rfl rfl (sA rfl rfl (s_nil (rT hQ Tryz.results92 rfl ?_)))))
  obtain rfl : i = xs.length := by omega
  exact ⟨H1.ext, rfl⟩
end Go.Wk
namespace Go.Wk
open Go.Proofs Rp
set_option maxRecDepth 10000
theorem Tryz_spec_NameFault {w : World} {b : ByteArray} (hb : b.size ≤ maxLen) : Ret Tryz.prog 187 #[.string b] w fun v w' => Ext No w w' ∧ (v = .int .i64 (nameFault b)) := by
 unfold maxLen at hb
 refine ret_Q (vs := [.string b]) Tryz.func187 rfl Tryz.ntmps187 rfl (fun Q hQ hN => ?_)
 have H0 := Sep.start (w := w) (F := []) (by simp)
 refine W_sr (sA rfl rfl (s_nil (W_seq (W_sr (sM rfl rfl (sV rfl (py_slen tu9 rfl) (sV rfl (py_lss rfl rfl) (sM rfl rfl (s_grp 3 (j := 3) (want := false) (t := 10) rfl rfl rfl rfl (fun hg1 kk1 => s_val (wgE rfl rfl rfl hg1) rfl rfl (py_move rfl) (s_val (wgE rfl rfl rfl hg1) rfl rfl (py_slen tu9 rfl) (s_val (wgE rfl rfl rfl hg1) rfl rfl (py_gtr rfl rfl) (kk1 _ _ (kx rfl (kx rfl (kx rfl k0))) rfl Ext.refl)))) (fun w1 e1 => ?_))))))))))
 have H1 := H0.to e1
 refine sV rfl (py_bor rfl rfl) (sM rfl rfl (s_grp 3 (j := 8) (want := false) (t := 15) rfl rfl rfl rfl (fun hg2 kk2 => s_val (wgE rfl rfl rfl hg2) rfl rfl (py_move rfl) (s_val (wgE rfl rfl rfl hg2) rfl rfl (py_sidxz tu9 rfl rfl 0 (by omega) (by first | omega | (simp only [Bool.or_eq_false_iff, Bool.and_eq_true, Bool.and_eq_false_iff, Bool.or_eq_true, Bool.not_eq_true', Bool.not_eq_false', decide_eq_true_eq, decide_eq_false_iff_not] at hg2; omega))) (s_val (wgE rfl rfl rfl hg2) rfl rfl (py_lss rfl rfl) (kk2 _ _ (kx rfl (kx rfl (kx rfl k0))) rfl Ext.refl)))) (fun w2 e2 => ?_)))
 have H2 := H1.to e2
 refine sV rfl (py_bor rfl rfl) (sM rfl rfl (s_grp 3 (j := 13) (want := false) (t := 20) rfl rfl rfl rfl (fun hg3 kk3 => s_val (wgE rfl rfl rfl hg3) rfl rfl (py_move rfl) (s_val (wgE rfl rfl rfl hg3) rfl rfl (py_sidxz tu9 rfl rfl 0 (by omega) (by first | omega | (simp only [Bool.or_eq_false_iff, Bool.and_eq_true, Bool.and_eq_false_iff, Bool.or_eq_true, Bool.not_eq_true', Bool.not_eq_false', decide_eq_true_eq, decide_eq_false_iff_not] at hg3; omega))) (s_val (wgE rfl rfl rfl hg3) rfl rfl (py_gtr rfl rfl) (kk3 _ _ (kx rfl (kx rfl (kx rfl k0))) rfl Ext.refl)))) (fun w3 e3 => ?_)))
 have H3 := H2.to e3
 refine sV rfl (py_bor rfl rfl) (s_nil (W_if rfl (fun c1 => ?_) (fun c1 => ?_)))
 ·refine W_sr (sA rfl rfl (s_nil (rT hQ Tryz.results187 rfl (⟨H3.ext, name_no ?_⟩))))
  by_cases hs : 1 ≤ b.size ∧ b.size ≤ 8
  ·refine nameOK_bad 0 (by omega) ?_
   simp only [okCh, Bool.or_eq_true, Bool.or_eq_false_iff, Bool.and_eq_true, Bool.and_eq_false_iff, decide_eq_true_eq, decide_eq_false_iff_not] at c1 ⊢
   simp
   omega
  ·simp [nameOK]; omega
 ·refine W_skip (W_seq (W_sr (sA rfl rfl (s_nil (W_block ?_)))))
  simp only [Bool.or_eq_true, Bool.or_eq_false_iff, Bool.and_eq_true, Bool.and_eq_false_iff, decide_eq_true_eq, decide_eq_false_iff_not] at c1
  refine W_loop (γ := Nat) (fun k => [(0, .string b), (3, .int .i64 k)]) (fun k w' => Sep No w [] [] w' ∧ k ≤ b.size ∧ okTo b k = true) (fun k => b.size - k) 0 ⟨rfl, rfl, trivial⟩ ⟨H3, by omega, rfl⟩ (fun k w4 H4 => ?_)
  obtain ⟨H4, hk, hok⟩ := H4
  refine W_seq (W_sr (sM rfl rfl (sM rfl rfl (sV rfl (py_slen tu9 rfl) (sV rfl (py_lss rfl rfl) (s_nil (W_ifd rfl (fun c2 => ?_) (fun c2 => ?_))))))))
  ·refine W_skip (W_seq (W_block (W_sr (sM rfl rfl (sM rfl rfl (sV rfl (py_sidxz tu9 rfl rfl k (by omega) (by omega)) (sV rfl (py_lss rfl rfl) (sM rfl rfl (s_grp 4 (j := 4) (want := false) (t := 36) rfl rfl rfl rfl (fun hg4 kk4 => s_val (wgE rfl rfl rfl hg4) rfl rfl (py_move rfl) (s_val (wgE rfl rfl rfl hg4) rfl rfl (py_move rfl) (s_val (wgE rfl rfl rfl hg4) rfl rfl (py_sidxz tu9 rfl rfl k (by omega) (by first | omega | (simp only [Bool.or_eq_false_iff, Bool.and_eq_true, Bool.and_eq_false_iff, Bool.or_eq_true, Bool.not_eq_true', Bool.not_eq_false', decide_eq_true_eq, decide_eq_false_iff_not] at hg4; omega))) (s_val (wgE rfl rfl rfl hg4) rfl rfl (py_gtr rfl rfl) (kk4 _ _ (kx rfl (kx rfl (kx rfl (kx rfl k0)))) rfl Ext.refl))))) (fun w5 e4 => ?_))))))))))
   have H5 := H4.to e4
   refine sV rfl (py_bor rfl rfl) (sM rfl rfl (s_grp 10 (j := 10) (want := true) (t := 48) rfl rfl rfl rfl (fun hg5 kk5 => s_val (wgE rfl rfl rfl hg5) rfl rfl (py_move rfl) (s_val (wgE rfl rfl rfl hg5) rfl rfl (py_move rfl) (s_val (wgE rfl rfl rfl hg5) rfl rfl (py_sidxz tu9 rfl rfl k (by omega) (by first | omega | (simp only [Bool.or_eq_false_iff, Bool.and_eq_true, Bool.and_eq_false_iff, Bool.or_eq_true, Bool.not_eq_true', Bool.not_eq_false', decide_eq_true_eq, decide_eq_false_iff_not] at hg5; omega))) (s_val (wgE rfl rfl rfl hg5) rfl rfl (py_lss rfl rfl) (s_val (wgE rfl rfl rfl hg5) rfl rfl (py_move rfl) (s_grp 4 (j := 15) (want := false) (t := 47) rfl rfl rfl rfl (fun hg6 kk6 => s_val (wgE rfl rfl rfl hg6) rfl rfl (py_move rfl) (s_val (wgE rfl rfl rfl hg6) rfl rfl (py_move rfl) (s_val (wgE rfl rfl rfl hg6) rfl rfl (py_sidxz tu9 rfl rfl k (by omega) (by first | omega | (simp only [Bool.or_eq_false_iff, Bool.and_eq_true, Bool.and_eq_false_iff, Bool.or_eq_true, Bool.not_eq_true', Bool.not_eq_false', decide_eq_true_eq, decide_eq_false_iff_not] at hg5 hg6; omega))) (s_val (wgE rfl rfl rfl hg6) rfl rfl (py_gtr rfl rfl) (kk6 _ _ (kx rfl (kx rfl (kx rfl (kx rfl k0)))) rfl Ext.refl))))) (fun w7 e6 => s_val (wgE rfl rfl rfl hg5) rfl rfl (py_bor rfl rfl) (kk5 _ _ (kx rfl (kx rfl (kx rfl (kx rfl (kx rfl (kx rfl (kx rfl k0))))))) rfl (Ext.refl.trans e6))))))))) (fun w6 e5 => ?_)))
   have H7 := H5.to e5
   refine sV rfl (py_band rfl rfl) (s_nil (W_if rfl (fun c3 => ?_) (fun c3 => ?_)))
   ·refine W_sr (sA rfl rfl (s_nil (rT hQ Tryz.results187 rfl (⟨H7.ext, name_no (nameOK_bad k (by omega) ?_)⟩))))
    simp only [okCh, Bool.or_eq_true, Bool.or_eq_false_iff, Bool.and_eq_true, Bool.and_eq_false_iff, decide_eq_true_eq, decide_eq_false_iff_not] at c3 ⊢
    omega
   ·refine W_skip (W_reg (sM rfl rfl (sV rfl (py_add rfl rfl (in64 ⟨by omega, by omega⟩)) (sA rfl rfl (s_nil (⟨k + 1, ⟨rfl, rfl, trivial⟩, ⟨H7, by omega, ?_⟩, by dsimp only; omega⟩))))))
    rw [okTo, hok, Bool.true_and]
    simp only [okCh, Bool.or_eq_true, Bool.or_eq_false_iff, Bool.and_eq_true, Bool.and_eq_false_iff, decide_eq_true_eq, decide_eq_false_iff_not] at c3 ⊢
    simp only [Bool.not_eq_true', decide_eq_false_iff_not]
    by_cases h0 : k = 0
    ·subst h0; omega
    ·omega
  ·refine W_exit (W_sr (sA rfl rfl (s_nil (rT hQ Tryz.results187 rfl (⟨H4.ext, name_yes ?_⟩)))))
   obtain rfl : k = b.size := by omega
   simp only [nameOK, hok, Bool.and_true, Bool.or_eq_true, Bool.or_eq_false_iff, Bool.and_eq_true, Bool.and_eq_false_iff, decide_eq_true_eq, decide_eq_false_iff_not]
   omega
theorem Tryz_impl_NameFault {w : World} {b : ByteArray} (hb : b.size ≤ maxLen) : Ret Tryz.prog 277 #[.string b] w fun v w' => Ext No w w' ∧ (v = .int .i64 (nameFault b)) := by
 unfold maxLen at hb
 refine ret_Q (vs := [.string b]) Tryz.func277 rfl Tryz.ntmps277 rfl (fun Q hQ hN => ?_)
 have H0 := Sep.start (w := w) (F := []) (by simp)
 refine W_sr (sA rfl rfl (s_nil (W_seq (W_sr (sM rfl rfl (sV rfl (py_slen tu9 rfl) (sM rfl rfl (s_nil (W_block (W_loop (γ := Nat) (fun k => [(0, .string b), (6, .int .i64 b.size), (7, .int .i64 k)]) (fun k w' => Sep No w [] [] w' ∧ k ≤ b.size ∧ okTo b k = true) (fun k => b.size - k) 0 ⟨rfl, rfl, rfl, trivial⟩ ⟨H0, by omega, rfl⟩ (fun k w1 H1 => ?_)))))))))))
 obtain ⟨H1, hk, hok⟩ := H1
 refine W_sr (sV rfl (py_lss rfl rfl) (s_nil (W_seq (W_ifd rfl (fun c1 => ?_) (fun c1 => ?_)))))
 ·refine W_skip (W_seq (W_block (W_sr (sM rfl rfl (sA rfl rfl (s_nil (W_sr (sM rfl rfl (sM rfl rfl (sV rfl (py_sidxz tu9 rfl rfl k (by omega) (by omega)) (sV rfl (py_geq rfl rfl) (sM rfl rfl (s_grp 4 (j := 4) (want := true) (t := 18) rfl rfl rfl rfl (fun hg1 kk1 => s_val (wgE rfl rfl rfl hg1) rfl rfl (py_move rfl) (s_val (wgE rfl rfl rfl hg1) rfl rfl (py_move rfl) (s_val (wgE rfl rfl rfl hg1) rfl rfl (py_sidxz tu9 rfl rfl k (by omega) (by first | omega | (simp only [Bool.or_eq_false_iff, Bool.and_eq_true, Bool.and_eq_false_iff, Bool.or_eq_true, Bool.not_eq_true', Bool.not_eq_false', decide_eq_true_eq, decide_eq_false_iff_not] at hg1; omega))) (s_val (wgE rfl rfl rfl hg1) rfl rfl (py_leq rfl rfl) (kk1 _ _ (kx rfl (kx rfl (kx rfl (kx rfl k0)))) rfl Ext.refl))))) (fun w2 e1 => ?_))))))))))))))
  have H2 := H1.to e1
  refine sV rfl (py_band rfl rfl) (sA rfl rfl (s_nil (W_sr (sM rfl rfl (sV rfl (py_not rfl) (sM rfl rfl (s_grp 14 (j := 2) (want := true) (t := 36) rfl rfl rfl rfl (fun hg2 kk2 => s_val (wgE rfl rfl rfl hg2) rfl rfl (py_move rfl) (s_val (wgE rfl rfl rfl hg2) rfl rfl (py_eql rfl rfl) (s_val (wgE rfl rfl rfl hg2) rfl rfl (py_move rfl) (s_grp 4 (j := 5) (want := false) (t := 29) rfl rfl rfl rfl (fun hg3 kk3 => s_val (wgE rfl rfl rfl hg3) rfl rfl (py_move rfl) (s_val (wgE rfl rfl rfl hg3) rfl rfl (py_move rfl) (s_val (wgE rfl rfl rfl hg3) rfl rfl (py_sidxz tu9 rfl rfl k (by omega) (by first | omega | (simp only [Bool.or_eq_false_iff, Bool.and_eq_true, Bool.and_eq_false_iff, Bool.or_eq_true, Bool.not_eq_true', Bool.not_eq_false', decide_eq_true_eq, decide_eq_false_iff_not] at hg2 hg3; omega))) (s_val (wgE rfl rfl rfl hg3) rfl rfl (py_lss rfl rfl) (kk3 _ _ (kx rfl (kx rfl (kx rfl (kx rfl k0)))) rfl Ext.refl))))) (fun w4 e3 => s_val (wgE rfl rfl rfl hg2) rfl rfl (py_bor rfl rfl) (s_val (wgE rfl rfl rfl hg2) rfl rfl (py_move rfl) (s_grp 4 (j := 11) (want := false) (t := 35) rfl rfl rfl rfl (fun hg4 kk4 => s_val (wgE rfl rfl rfl hg4) rfl rfl (py_move rfl) (s_val (wgE rfl rfl rfl hg4) rfl rfl (py_move rfl) (s_val (wgE rfl rfl rfl hg4) rfl rfl (py_sidxz tu9 rfl rfl k (by omega) (by first | omega | (simp only [Bool.or_eq_false_iff, Bool.and_eq_true, Bool.and_eq_false_iff, Bool.or_eq_true, Bool.not_eq_true', Bool.not_eq_false', decide_eq_true_eq, decide_eq_false_iff_not] at hg2 hg4; omega))) (s_val (wgE rfl rfl rfl hg4) rfl rfl (py_gtr rfl rfl) (kk4 _ _ (kx rfl (kx rfl (kx rfl (kx rfl k0)))) rfl Ext.refl))))) (fun w5 e4 => s_val (wgE rfl rfl rfl hg2) rfl rfl (py_bor rfl rfl) (kk2 _ _ (kx rfl (kx rfl (kx rfl (kx rfl (kx rfl (kx rfl (kx rfl (kx rfl k0)))))))) rfl ((Ext.refl.trans e3).trans e4)))))))))) (fun w3 e2 => ?_))))))))
  have H5 := H2.to e2
  refine sV rfl (py_band rfl rfl) (s_nil (W_if rfl (fun c2 => ?_) (fun c2 => ?_)))
  ·refine W_sr (sA rfl rfl (s_nil (rT hQ Tryz.results277 rfl (⟨H5.ext, name_no (nameOK_bad k (by omega) ?_)⟩))))
   simp only [okCh, Bool.or_eq_true, Bool.or_eq_false_iff, Bool.and_eq_true, Bool.and_eq_false_iff, decide_eq_true_eq, decide_eq_false_iff_not, Bool.not_eq_true', Bool.not_eq_false'] at c2 ⊢
   omega
  ·refine W_skip (W_reg (sV rfl (py_add rfl rfl (in64 ⟨by omega, by omega⟩)) (sM rfl rfl (s_nil (⟨k + 1, ⟨rfl, rfl, rfl, trivial⟩, ⟨H5, by omega, ?_⟩, by dsimp only; omega⟩)))))
   rw [okTo, hok, Bool.true_and]
   simp only [okCh, Bool.or_eq_true, Bool.or_eq_false_iff, Bool.and_eq_true, Bool.and_eq_false_iff, decide_eq_true_eq, decide_eq_false_iff_not, Bool.not_eq_true', Bool.not_eq_false'] at c2 ⊢
   omega
 ·refine W_exit (W_seq (W_sr (sM rfl rfl (sV rfl (py_slen tu9 rfl) (s_call (wn rfl) rfl rfl (pc_call Tryz.func147 rfl Tryz_nm147 rfl) Tryz_impl_inside (fun v1 w6 r1 => ?_))))))
  obtain ⟨e5, rfl⟩ := r1
  have H6 := H1.to e5
  refine sV rfl (py_not rfl) (s_nil (W_if rfl (fun c3 => ?_) (fun c3 => ?_)))
  ·refine W_sr (sA rfl rfl (s_nil (rT hQ Tryz.results277 rfl (⟨H6.ext, name_no ?_⟩))))
   have c4 := not_true c3
   rw [ins_no] at c4
   simp [nameOK]
   omega
  ·refine W_skip (W_sr (sA rfl rfl (s_nil (rT hQ Tryz.results277 rfl (⟨H6.ext, name_yes ?_⟩)))))
   have c4 := not_false c3
   rw [ins_iff] at c4
   obtain rfl : k = b.size := by omega
   simp only [nameOK, hok, Bool.and_true, Bool.or_eq_true, Bool.or_eq_false_iff, Bool.and_eq_true, Bool.and_eq_false_iff, decide_eq_true_eq, decide_eq_false_iff_not]
   omega
theorem Tryz_spec_l5All {w : World} {s : Shape} (hs : s.ok = true) : Ret Tryz.prog 162 #[s.v] w fun v w' => Ext No w w' ∧ (v = .int .i64 (s.Groups + s.Column)) := by
 have sbd := shape_bd hs
 refine ret_Q (vs := [s.v]) Tryz.func162 rfl Tryz.ntmps162 rfl (fun Q hQ hN => ?_)
 have H0 := Sep.start (w := w) (F := []) (by simp)
 refine W_sr (s_box (wn rfl) rfl rfl H0 (fun b1 w1 e1 g1 H1 => ?_))
 refine sA rfl rfl (s_nil (W_sr (sV rfl (py_field tu34 rfl ts2 rfl rfl) (sV rfl (py_load tu2 rfl rfl (cell_atL (H1.box 0 rfl) rfl)) (sV rfl (py_field tu34 rfl ts2 rfl rfl) (sV rfl (py_load tu2 rfl rfl (cell_atL (H1.box 0 rfl) rfl)) (sV rfl (py_add rfl rfl (in64 ⟨by omega, by omega⟩)) (sA rfl rfl (s_nil (rT hQ Tryz.results162 rfl ?_))))))))))
 exact ⟨H1.ext, rfl⟩
theorem Tryz_impl_Shape_all {w : World} {s : Shape} (hs : s.ok = true) : Ret Tryz.prog 100 #[s.v] w fun v w' => Ext No w w' ∧ (v = .int .i64 (s.Groups + s.Column)) := by
 have sbd := shape_bd hs
 refine ret_Q (vs := [s.v]) Tryz.func100 rfl Tryz.ntmps100 rfl (fun Q hQ hN => ?_)
 have H0 := Sep.start (w := w) (F := []) (by simp)
 refine W_sr (s_box (wn rfl) rfl rfl H0 (fun b1 w1 e1 g1 H1 => ?_))
 refine sA rfl rfl (s_nil (W_sr (sV rfl (py_field tu34 rfl ts2 rfl rfl) (sV rfl (py_load tu2 rfl rfl (cell_atL (H1.box 0 rfl) rfl)) (sV rfl (py_field tu34 rfl ts2 rfl rfl) (sV rfl (py_load tu2 rfl rfl (cell_atL (H1.box 0 rfl) rfl)) (sV rfl (py_add rfl rfl (in64 ⟨by omega, by omega⟩)) (sA rfl rfl (s_nil (rT hQ Tryz.results100 rfl ?_))))))))))
 exact ⟨H1.ext, rfl⟩
theorem Tryz_impl_Shape_isGroup {w : World} {s : Shape} {x : Int} (hs : s.ok = true) : Ret Tryz.prog 71 #[s.v, .int .i64 x] w fun v w' => Ext No w w' ∧ (v = .bool (ins x 0 (s.Groups + s.Column - 1))) := by
 have sbd := shape_bd hs
 refine ret_Q (vs := [s.v, .int .i64 x]) Tryz.func71 rfl Tryz.ntmps71 rfl (fun Q hQ hN => ?_)
 have H0 := Sep.start (w := w) (F := []) (by simp)
 refine W_sr (s_box (wn rfl) rfl rfl H0 (fun b1 w1 e1 g1 H1 => ?_))
 refine sA rfl rfl (s_nil (W_sr (sM rfl rfl (sV rfl (py_loadS tu34 rfl ts34 rfl rfl (At.whole (H1.box 0 rfl))) (s_call (wn rfl) rfl rfl (pc_call Tryz.func100 rfl Tryz_nm100 rfl) (Tryz_impl_Shape_all (by assumption)) (fun v1 w2 r1 => ?_))))))
 obtain ⟨e2, rfl⟩ := r1
 have H2 := H1.to e2
 refine sV rfl (py_sub rfl rfl (in64 ⟨by omega, by omega⟩)) (s_call (wn rfl) rfl rfl (pc_call Tryz.func147 rfl Tryz_nm147 rfl) Tryz_impl_inside (fun v2 w3 r2 => ?_))
 obtain ⟨e3, rfl⟩ := r2
 have H3 := H2.to e3
 refine sA rfl rfl (s_nil (rT hQ Tryz.results71 rfl ?_))
 exact ⟨H3.ext, rfl⟩
theorem Tryz_laws_toShape {w : World} {s : Shape}  : Ret Tryz.prog 66 #[s.v] w fun v w' => Ext No w w' ∧ (v = s.v) := by
 refine ret_Q (vs := [s.v]) Tryz.func66 rfl Tryz.ntmps66 rfl (fun Q hQ hN => ?_)
 have H0 := Sep.start (w := w) (F := []) (by simp)
 refine W_sr (s_box (wn rfl) rfl rfl H0 (fun b1 w1 e1 g1 H1 => ?_))
 refine s_var (wn rfl) rfl Tryz.zeroValue34 H1 (fun b2 w2 e2 g2 H2 => ?_)
 refine s_nil (W_sr (s_var (wn rfl) rfl Tryz.zeroValue34 H2 (fun b3 w3 e3 g3 H3 => ?_)))
 refine s_nil (W_sr (sV rfl (py_field tu23 rfl ts2 rfl rfl) (sV rfl (py_load tu2 rfl rfl (cell_atL (H3.box 0 rfl) rfl)) (sV rfl (py_field tu34 rfl ts2 rfl rfl) (s_sto (wn rfl) ts2 rfl rfl rfl H3 2 rfl rfl (fun w4 e4 H4 => ?_))))))
 dsimp only [lNA, lCA, lSZ, lSS, layL] at H4
 refine s_nil (W_sr (sV rfl (py_field tu23 rfl ts2 rfl rfl) (sV rfl (py_load tu2 rfl rfl (cell_atL (H4.box 0 rfl) rfl)) (sV rfl (py_field tu34 rfl ts2 rfl rfl) (s_sto (wn rfl) ts2 rfl rfl rfl H4 2 rfl rfl (fun w5 e5 H5 => ?_))))))
 dsimp only [lNA, lCA, lSZ, lSS, layL] at H5
 refine s_nil (W_sr (sV rfl (py_field tu23 rfl ts2 rfl rfl) (sV rfl (py_load tu2 rfl rfl (cell_atL (H5.box 0 rfl) rfl)) (sV rfl (py_field tu34 rfl ts2 rfl rfl) (s_sto (wn rfl) ts2 rfl rfl rfl H5 2 rfl rfl (fun w6 e6 H6 => ?_))))))
 dsimp only [lNA, lCA, lSZ, lSS, layL] at H6
 refine s_nil (W_sr (sV rfl (py_field tu23 rfl ts2 rfl rfl) (sV rfl (py_load tu2 rfl rfl (cell_atL (H6.box 0 rfl) rfl)) (sV rfl (py_field tu34 rfl ts2 rfl rfl) (s_sto (wn rfl) ts2 rfl rfl rfl H6 2 rfl rfl (fun w7 e7 H7 => ?_))))))
 dsimp only [lNA, lCA, lSZ, lSS, layL] at H7
 refine s_nil (W_sr (sV rfl (py_field tu23 rfl ts2 rfl rfl) (sV rfl (py_load tu2 rfl rfl (cell_atL (H7.box 0 rfl) rfl)) (sV rfl (py_field tu34 rfl ts2 rfl rfl) (s_sto (wn rfl) ts2 rfl rfl rfl H7 2 rfl rfl (fun w8 e8 H8 => ?_))))))
 dsimp only [lNA, lCA, lSZ, lSS, layL] at H8
 refine s_nil (W_sr (sV rfl (py_field tu23 rfl ts2 rfl rfl) (sV rfl (py_load tu2 rfl rfl (cell_atL (H8.box 0 rfl) rfl)) (sV rfl (py_field tu34 rfl ts2 rfl rfl) (s_sto (wn rfl) ts2 rfl rfl rfl H8 2 rfl rfl (fun w9 e9 H9 => ?_))))))
 dsimp only [lNA, lCA, lSZ, lSS, layL] at H9
 refine s_nil (W_sr (sV rfl (py_field tu23 rfl ts2 rfl rfl) (sV rfl (py_load tu2 rfl rfl (cell_atL (H9.box 0 rfl) rfl)) (sV rfl (py_field tu34 rfl ts2 rfl rfl) (s_sto (wn rfl) ts2 rfl rfl rfl H9 2 rfl rfl (fun w10 e10 H10 => ?_))))))
 dsimp only [lNA, lCA, lSZ, lSS, layL] at H10
 refine s_nil (W_sr (sV rfl (py_field tu23 rfl ts2 rfl rfl) (sV rfl (py_load tu2 rfl rfl (cell_atL (H10.box 0 rfl) rfl)) (sV rfl (py_field tu34 rfl ts2 rfl rfl) (s_sto (wn rfl) ts2 rfl rfl rfl H10 2 rfl rfl (fun w11 e11 H11 => ?_))))))
 dsimp only [lNA, lCA, lSZ, lSS, layL] at H11
 refine s_nil (W_sr (sV rfl (py_field tu23 rfl ts2 rfl rfl) (sV rfl (py_load tu2 rfl rfl (cell_atL (H11.box 0 rfl) rfl)) (sV rfl (py_field tu34 rfl ts2 rfl rfl) (s_sto (wn rfl) ts2 rfl rfl rfl H11 2 rfl rfl (fun w12 e12 H12 => ?_))))))
 dsimp only [lNA, lCA, lSZ, lSS, layL] at H12
 refine s_nil (W_sr (sV rfl (py_loadS tu34 rfl ts34 rfl rfl (At.whole (H12.box 2 rfl))) (s_stoS (wn rfl) ts34 rfl rfl rfl rfl H12 1 rfl rfl (fun w13 e13 H13 => ?_))))
 dsimp only [lNA, lCA, lSZ, lSS, layL] at H13
 refine s_nil (W_ret (hQ _ _ (finC Tryz.results66 rfl (run_loadVarS tu34 rfl ts34 rfl (At.whole (H13.box 1 rfl))) ?_)))
 exact ⟨H13.ext, rfl⟩
end Go.Wk
namespace Go.Wk
open Rp (sz own)
instance : Inhabited Shape := ⟨⟨0, 0, 0, 0, 0, 0, 0, 0, 0⟩⟩
theorem own_Shape {s w cs} {x : Shape} {fp} (h : own s w cs x fp) : cs = [.int .i64 x.Groups, .int .i64 x.Column, .int .i64 x.Data, .int .i64 x.Spare, .int .i64 x.Rows, .int .i64 x.Cap, .int .i64 x.Batch, .int .i64 x.Queue, .int .i64 x.Stage] ∧ fp = [] ∧ x.Ok := by
  obtain ⟨_, _, _, _, rfl, e0, h0, k0⟩ := own_pair h
  obtain ⟨rfl, rfl, i0⟩ := own_int h0
  obtain ⟨_, _, _, _, rfl, e1, h1, k1⟩ := own_pair k0
  obtain ⟨rfl, rfl, i1⟩ := own_int h1
  obtain ⟨_, _, _, _, rfl, e2, h2, k2⟩ := own_pair k1
  obtain ⟨rfl, rfl, i2⟩ := own_int h2
  obtain ⟨_, _, _, _, rfl, e3, h3, k3⟩ := own_pair k2
  obtain ⟨rfl, rfl, i3⟩ := own_int h3
  obtain ⟨_, _, _, _, rfl, e4, h4, k4⟩ := own_pair k3
  obtain ⟨rfl, rfl, i4⟩ := own_int h4
  obtain ⟨_, _, _, _, rfl, e5, h5, k5⟩ := own_pair k4
  obtain ⟨rfl, rfl, i5⟩ := own_int h5
  obtain ⟨_, _, _, _, rfl, e6, h6, k6⟩ := own_pair k5
  obtain ⟨rfl, rfl, i6⟩ := own_int h6
  obtain ⟨_, _, _, _, rfl, e7, h7, k7⟩ := own_pair k6
  obtain ⟨rfl, rfl, i7⟩ := own_int h7
  obtain ⟨rfl, rfl, i8⟩ := own_int k7
  exact ⟨rfl, by subst_vars; simp, ⟨i0, i1, i2, i3, i4, i5, i6, i7, i8⟩⟩
theorem Shape.own_mk {s : Bool} {w : World} {x : Shape} (ok : x.Ok) : own s w [.int .i64 x.Groups, .int .i64 x.Column, .int .i64 x.Data, .int .i64 x.Spare, .int .i64 x.Rows, .int .i64 x.Cap, .int .i64 x.Batch, .int .i64 x.Queue, .int .i64 x.Stage] x ([]) := by
  obtain ⟨i0, i1, i2, i3, i4, i5, i6, i7, i8⟩ := ok
  have h : own s w _ (x.Groups, x.Column, x.Data, x.Spare, x.Rows, x.Cap, x.Batch, x.Queue, x.Stage) _ := (own_two (own_mki i0) (own_two (own_mki i1) (own_two (own_mki i2) (own_two (own_mki i3) (own_two (own_mki i4) (own_two (own_mki i5) (own_two (own_mki i6) (own_two (own_mki i7) (own_mki i8)))))))))
  refine own_fp h ?_
  simp
theorem own_zShape {w : World} : own true w [.int .i64 0, .int .i64 0, .int .i64 0, .int .i64 0, .int .i64 0, .int .i64 0, .int .i64 0, .int .i64 0, .int .i64 0] (default : Shape) [] := own_fp (Shape.own_mk (s := true) (x := (default : Shape)) ⟨(show I64ok 0 by unfold I64ok; omega), (show I64ok 0 by unfold I64ok; omega), (show I64ok 0 by unfold I64ok; omega), (show I64ok 0 by unfold I64ok; omega), (show I64ok 0 by unfold I64ok; omega), (show I64ok 0 by unfold I64ok; omega), (show I64ok 0 by unfold I64ok; omega), (show I64ok 0 by unfold I64ok; omega), (show I64ok 0 by unfold I64ok; omega)⟩) (by first | rfl | simp)
theorem own_zRec {w : World} : own true w [.int .i64 0, .int .i64 0, .string ⟨#[]⟩, .int .i64 0, .int .i64 0, .int .i64 0, .slice none 0 0, .slice none 0 0, .slice none 0 0] (default : Rec) [] := own_fp (Rec.own_mk (s := true) (x := (default : Rec)) ⟨(show I64ok 0 by unfold I64ok; omega), (show I64ok 0 by unfold I64ok; omega), (show (0 : Nat) ≤ maxLen from Nat.zero_le _), (show I64ok 0 by unfold I64ok; omega), (show I64ok 0 by unfold I64ok; omega), (show I64ok 0 by unfold I64ok; omega)⟩ (.inr (.inl ⟨rfl, rfl, rfl⟩)) (.inr (.inl ⟨rfl, rfl, rfl⟩)) (.inr (.inl ⟨rfl, rfl, rfl⟩))) (by first | rfl | simp)
theorem Rec.see6 {s : Bool} {w : World} {x : Rec} {A6 : Option Addr} {C6 : Nat} {A7 : Option Addr} {C7 : Nat} {A8 : Option Addr} {C8 : Nat} {fp : List Nat} (h : own s w [.int .i64 x.Kind, .int .i64 x.Seq, .string x.Name, .int .i64 x.Length, .int .i64 x.Group, .int .i64 x.Row, .slice A6 x.Rows.length C6, .slice A7 x.Data.length C7, .slice A8 x.Delta.length C8] x fp) : Sees w [.slice A6 x.Rows.length C6] x.Rows := by
  obtain ⟨_, _, _, _, _, o, _, _⟩ := own_RecC h
  exact ⟨_, own_weak o⟩
theorem Rec.see7 {s : Bool} {w : World} {x : Rec} {A6 : Option Addr} {C6 : Nat} {A7 : Option Addr} {C7 : Nat} {A8 : Option Addr} {C8 : Nat} {fp : List Nat} (h : own s w [.int .i64 x.Kind, .int .i64 x.Seq, .string x.Name, .int .i64 x.Length, .int .i64 x.Group, .int .i64 x.Row, .slice A6 x.Rows.length C6, .slice A7 x.Data.length C7, .slice A8 x.Delta.length C8] x fp) : Sees w [.slice A7 x.Data.length C7] x.Data := by
  obtain ⟨_, _, _, _, _, _, o, _⟩ := own_RecC h
  exact ⟨_, own_weak o⟩
theorem Rec.see8 {s : Bool} {w : World} {x : Rec} {A6 : Option Addr} {C6 : Nat} {A7 : Option Addr} {C7 : Nat} {A8 : Option Addr} {C8 : Nat} {fp : List Nat} (h : own s w [.int .i64 x.Kind, .int .i64 x.Seq, .string x.Name, .int .i64 x.Length, .int .i64 x.Group, .int .i64 x.Row, .slice A6 x.Rows.length C6, .slice A7 x.Data.length C7, .slice A8 x.Delta.length C8] x fp) : Sees w [.slice A8 x.Delta.length C8] x.Delta := by
  obtain ⟨_, _, _, _, _, _, _, o⟩ := own_RecC h
  exact ⟨_, own_weak o⟩
theorem Rec.mutOut {w w' : World} {fp : List Nat} {x : Rec} {A6 : Option Addr} {C6 : Nat} {A7 : Option Addr} {C7 : Nat} {A8 : Option Addr} {C8 : Nat} {y6 : List Int} {y7 : List UInt8} {y8 : List UInt8} {f6 : List Nat} {f7 : List Nat} {f8 : List Nat} {F : List Rsc} (ok : x.Ok) (h : Sep (· ∈ fp) w [gone, mine [.slice A6 x.Rows.length C6] y6 f6, mine [.slice A7 x.Data.length C7] y7 f7, mine [.slice A8 x.Delta.length C8] y8 f8] F w') (l6 : y6.length = x.Rows.length) (l7 : y7.length = x.Data.length) (l8 : y8.length = x.Delta.length) : Mut w w' fp [.int .i64 x.Kind, .int .i64 x.Seq, .string x.Name, .int .i64 x.Length, .int .i64 x.Group, .int .i64 x.Row, .slice A6 x.Rows.length C6, .slice A7 x.Data.length C7, .slice A8 x.Delta.length C8] (⟨x.Kind, x.Seq, x.Name, x.Length, x.Group, x.Row, y6, y7, y8⟩ : Rec) := by
  have o6 := h.mine 1 rfl
  rw [← l6] at o6
  have o7 := h.mine 2 rfl
  rw [← l7] at o7
  have o8 := h.mine 3 rfl
  rw [← l8] at o8
  have hh := Rec.own_mk (x := (⟨x.Kind, x.Seq, x.Name, x.Length, x.Group, x.Row, y6, y7, y8⟩ : Rec)) ok o6 o7 o8
  dsimp only at hh
  rw [l6, l7, l8] at hh
  exact ⟨h.ext, _, hh, (by have := h.nd; simpa [blocks, mine, gone] using this), fun b hb => h.new b (by simpa [blocks, mine, gone] using hb)⟩
structure Block where
  Stamp : Int
  Bytes : List UInt8
instance : Rp Block := Rp.via fun x => (x.Stamp, x.Bytes)
noncomputable instance : DecidableEq Block := fun _ _ => Classical.propDecidable _
instance : Inhabited Block := ⟨⟨0, []⟩⟩
def Block.val (x : Block) (A1 : Option Addr) (C1 : Nat) : Value := .agg #[.int .i64 x.Stamp, .slice A1 x.Bytes.length C1]
def Block.Ok (x : Block) : Prop := I64ok x.Stamp
theorem own_Block {s w cs} {x : Block} {fp} (h : own s w cs x fp) : ∃ (A1 : Option Addr) (C1 : Nat) (f1 : List Nat) , cs = [.int .i64 x.Stamp, .slice A1 x.Bytes.length C1] ∧ fp = f1 ∧ x.Ok ∧ own s w [.slice A1 x.Bytes.length C1] x.Bytes f1 := by
  obtain ⟨_, _, _, _, rfl, e0, h0, k0⟩ := own_pair h
  obtain ⟨rfl, rfl, i0⟩ := own_int h0
  obtain ⟨A1, C1, rfl⟩ := own_slice k0
  exact ⟨A1, C1, _, rfl, by subst_vars; simp, i0, k0⟩
theorem Block.own_mk {s : Bool} {w : World} {x : Block} {A1 : Option Addr} {C1 : Nat} {f1 : List Nat} (ok : x.Ok) (o1 : own s w [.slice A1 x.Bytes.length C1] x.Bytes f1) : own s w [.int .i64 x.Stamp, .slice A1 x.Bytes.length C1] x (f1) := by
  have i0 := ok
  have h : own s w _ (x.Stamp, x.Bytes) _ := (own_two (own_mki i0) o1)
  refine own_fp h ?_
  simp
theorem Block.out {w0 w : World} {F : List Rsc} {x : Block} {A1 : Option Addr} {C1 : Nat} {f1 : List Nat} (h : Sep No w0 [mine [.slice A1 x.Bytes.length C1] x.Bytes f1] F w) (ok : x.Ok) : Res w0 w [.int .i64 x.Stamp, .slice A1 x.Bytes.length C1] x :=
  ⟨_, Block.own_mk ok (h.mine 0 rfl), by have := h.nd; simpa [blocks, mine] using this, fun b hb => (h.new b (by simpa [blocks, mine] using hb)).resolve_left id⟩
theorem own_zBlock {w : World} : own true w [.int .i64 0, .slice none 0 0] (default : Block) [] := own_fp (Block.own_mk (s := true) (x := (default : Block)) (show I64ok 0 by unfold I64ok; omega) (.inr (.inl ⟨rfl, rfl, rfl⟩))) (by first | rfl | simp)
structure Drive where
  Wiped : Bool
  Blocks : List Block
instance : Rp Drive := Rp.via fun x => (x.Wiped, x.Blocks)
noncomputable instance : DecidableEq Drive := fun _ _ => Classical.propDecidable _
instance : Inhabited Drive := ⟨⟨false, []⟩⟩
def Drive.val (x : Drive) (A1 : Option Addr) (C1 : Nat) : Value := .agg #[.bool x.Wiped, .slice A1 x.Blocks.length C1]
def Drive.Ok (x : Drive) : Prop := True
theorem own_Drive {s w cs} {x : Drive} {fp} (h : own s w cs x fp) : ∃ (A1 : Option Addr) (C1 : Nat) (f1 : List Nat) , cs = [.bool x.Wiped, .slice A1 x.Blocks.length C1] ∧ fp = f1 ∧ x.Ok ∧ own s w [.slice A1 x.Blocks.length C1] x.Blocks f1 := by
  obtain ⟨_, _, _, _, rfl, e0, h0, k0⟩ := own_pair h
  obtain ⟨rfl, rfl⟩ := h0
  obtain ⟨A1, C1, rfl⟩ := own_slice k0
  exact ⟨A1, C1, _, rfl, by subst_vars; simp, trivial, k0⟩
theorem Drive.own_mk {s : Bool} {w : World} {x : Drive} {A1 : Option Addr} {C1 : Nat} {f1 : List Nat} (ok : x.Ok) (o1 : own s w [.slice A1 x.Blocks.length C1] x.Blocks f1) : own s w [.bool x.Wiped, .slice A1 x.Blocks.length C1] x (f1) := by
  have h : own s w _ (x.Wiped, x.Blocks) _ := (own_two own_mkb o1)
  refine own_fp h ?_
  simp
theorem Drive.out {w0 w : World} {F : List Rsc} {x : Drive} {A1 : Option Addr} {C1 : Nat} {f1 : List Nat} (h : Sep No w0 [mine [.slice A1 x.Blocks.length C1] x.Blocks f1] F w) (ok : x.Ok) : Res w0 w [.bool x.Wiped, .slice A1 x.Blocks.length C1] x :=
  ⟨_, Drive.own_mk ok (h.mine 0 rfl), by have := h.nd; simpa [blocks, mine] using this, fun b hb => (h.new b (by simpa [blocks, mine] using hb)).resolve_left id⟩
theorem own_zDrive {w : World} : own true w [.bool false, .slice none 0 0] (default : Drive) [] := own_fp (Drive.own_mk (s := true) (x := (default : Drive)) trivial (.inr (.inl ⟨rfl, rfl, rfl⟩))) (by first | rfl | simp)
structure Tape where
  Wiped : Bool
  Recs : List Rec
instance : Rp Tape := Rp.via fun x => (x.Wiped, x.Recs)
noncomputable instance : DecidableEq Tape := fun _ _ => Classical.propDecidable _
instance : Inhabited Tape := ⟨⟨false, []⟩⟩
def Tape.val (x : Tape) (A1 : Option Addr) (C1 : Nat) : Value := .agg #[.bool x.Wiped, .slice A1 x.Recs.length C1]
def Tape.Ok (x : Tape) : Prop := True
theorem own_Tape {s w cs} {x : Tape} {fp} (h : own s w cs x fp) : ∃ (A1 : Option Addr) (C1 : Nat) (f1 : List Nat) , cs = [.bool x.Wiped, .slice A1 x.Recs.length C1] ∧ fp = f1 ∧ x.Ok ∧ own s w [.slice A1 x.Recs.length C1] x.Recs f1 := by
  obtain ⟨_, _, _, _, rfl, e0, h0, k0⟩ := own_pair h
  obtain ⟨rfl, rfl⟩ := h0
  obtain ⟨A1, C1, rfl⟩ := own_slice k0
  exact ⟨A1, C1, _, rfl, by subst_vars; simp, trivial, k0⟩
theorem Tape.own_mk {s : Bool} {w : World} {x : Tape} {A1 : Option Addr} {C1 : Nat} {f1 : List Nat} (ok : x.Ok) (o1 : own s w [.slice A1 x.Recs.length C1] x.Recs f1) : own s w [.bool x.Wiped, .slice A1 x.Recs.length C1] x (f1) := by
  have h : own s w _ (x.Wiped, x.Recs) _ := (own_two own_mkb o1)
  refine own_fp h ?_
  simp
theorem Tape.out {w0 w : World} {F : List Rsc} {x : Tape} {A1 : Option Addr} {C1 : Nat} {f1 : List Nat} (h : Sep No w0 [mine [.slice A1 x.Recs.length C1] x.Recs f1] F w) (ok : x.Ok) : Res w0 w [.bool x.Wiped, .slice A1 x.Recs.length C1] x :=
  ⟨_, Tape.own_mk ok (h.mine 0 rfl), by have := h.nd; simpa [blocks, mine] using this, fun b hb => (h.new b (by simpa [blocks, mine] using hb)).resolve_left id⟩
theorem own_zTape {w : World} : own true w [.bool false, .slice none 0 0] (default : Tape) [] := own_fp (Tape.own_mk (s := true) (x := (default : Tape)) trivial (.inr (.inl ⟨rfl, rfl, rfl⟩))) (by first | rfl | simp)
structure Wld where
  Shape : Shape
  Groups : List (List Drive)
  On : List Int
  Tapes : List Tape
  Writes : Int
  Stop : Int
  Down : Bool
instance : Rp Wld := Rp.via fun x => (x.Shape, x.Groups, x.On, x.Tapes, x.Writes, x.Stop, x.Down)
noncomputable instance : DecidableEq Wld := fun _ _ => Classical.propDecidable _
instance : Inhabited Wld := ⟨⟨default, [], [], [], 0, 0, false⟩⟩
def Wld.val (x : Wld) (A9 : Option Addr) (C9 : Nat) (A10 : Option Addr) (C10 : Nat) (A11 : Option Addr) (C11 : Nat) : Value := .agg #[.int .i64 x.Shape.Groups, .int .i64 x.Shape.Column, .int .i64 x.Shape.Data, .int .i64 x.Shape.Spare, .int .i64 x.Shape.Rows, .int .i64 x.Shape.Cap, .int .i64 x.Shape.Batch, .int .i64 x.Shape.Queue, .int .i64 x.Shape.Stage, .slice A9 x.Groups.length C9, .slice A10 x.On.length C10, .slice A11 x.Tapes.length C11, .int .i64 x.Writes, .int .i64 x.Stop, .bool x.Down]
def Wld.Ok (x : Wld) : Prop := x.Shape.Ok ∧ I64ok x.Writes ∧ I64ok x.Stop
theorem own_Wld {s w cs} {x : Wld} {fp} (h : own s w cs x fp) : ∃ (A9 : Option Addr) (C9 : Nat) (A10 : Option Addr) (C10 : Nat) (A11 : Option Addr) (C11 : Nat) (f9 : List Nat) (f10 : List Nat) (f11 : List Nat) , cs = [.int .i64 x.Shape.Groups, .int .i64 x.Shape.Column, .int .i64 x.Shape.Data, .int .i64 x.Shape.Spare, .int .i64 x.Shape.Rows, .int .i64 x.Shape.Cap, .int .i64 x.Shape.Batch, .int .i64 x.Shape.Queue, .int .i64 x.Shape.Stage, .slice A9 x.Groups.length C9, .slice A10 x.On.length C10, .slice A11 x.Tapes.length C11, .int .i64 x.Writes, .int .i64 x.Stop, .bool x.Down] ∧ fp = f9 ++ (f10 ++ (f11)) ∧ x.Ok ∧ own s w [.slice A9 x.Groups.length C9] x.Groups f9 ∧ own s w [.slice A10 x.On.length C10] x.On f10 ∧ own s w [.slice A11 x.Tapes.length C11] x.Tapes f11 := by
  obtain ⟨_, _, _, _, rfl, e0, h0, k0⟩ := own_pair h
  obtain ⟨rfl, rfl, i0⟩ := own_Shape h0
  obtain ⟨_, _, _, _, rfl, e1, h1, k1⟩ := own_pair k0
  obtain ⟨A9, C9, rfl⟩ := own_slice h1
  obtain ⟨_, _, _, _, rfl, e2, h2, k2⟩ := own_pair k1
  obtain ⟨A10, C10, rfl⟩ := own_slice h2
  obtain ⟨_, _, _, _, rfl, e3, h3, k3⟩ := own_pair k2
  obtain ⟨A11, C11, rfl⟩ := own_slice h3
  obtain ⟨_, _, _, _, rfl, e4, h4, k4⟩ := own_pair k3
  obtain ⟨rfl, rfl, i4⟩ := own_int h4
  obtain ⟨_, _, _, _, rfl, e5, h5, k5⟩ := own_pair k4
  obtain ⟨rfl, rfl, i5⟩ := own_int h5
  obtain ⟨rfl, rfl⟩ := k5
  exact ⟨A9, C9, A10, C10, A11, C11, _, _, _, rfl, by subst_vars; simp, ⟨i0, i4, i5⟩, h1, h2, h3⟩
theorem own_WldC {s w A9 C9 A10 C10 A11 C11} {x : Wld} {fp} (h : own s w [.int .i64 x.Shape.Groups, .int .i64 x.Shape.Column, .int .i64 x.Shape.Data, .int .i64 x.Shape.Spare, .int .i64 x.Shape.Rows, .int .i64 x.Shape.Cap, .int .i64 x.Shape.Batch, .int .i64 x.Shape.Queue, .int .i64 x.Shape.Stage, .slice A9 x.Groups.length C9, .slice A10 x.On.length C10, .slice A11 x.Tapes.length C11, .int .i64 x.Writes, .int .i64 x.Stop, .bool x.Down] x fp) : ∃ (f9 : List Nat) (f10 : List Nat) (f11 : List Nat), fp = f9 ++ (f10 ++ (f11)) ∧ x.Ok ∧ own s w [.slice A9 x.Groups.length C9] x.Groups f9 ∧ own s w [.slice A10 x.On.length C10] x.On f10 ∧ own s w [.slice A11 x.Tapes.length C11] x.Tapes f11 := by
  obtain ⟨_, _, _, _, _, _, f9, f10, f11, e, ef, ok, o9, o10, o11⟩ := own_Wld h
  simp only [List.cons.injEq, Value.slice.injEq, and_true, true_and] at e
  obtain ⟨⟨rfl, rfl⟩, ⟨rfl, rfl⟩, ⟨rfl, rfl⟩⟩ := e
  exact ⟨f9, f10, f11, ef, ok, o9, o10, o11⟩
theorem Wld.own_mk {s : Bool} {w : World} {x : Wld} {A9 : Option Addr} {C9 : Nat} {A10 : Option Addr} {C10 : Nat} {A11 : Option Addr} {C11 : Nat} {f9 : List Nat} {f10 : List Nat} {f11 : List Nat} (ok : x.Ok) (o9 : own s w [.slice A9 x.Groups.length C9] x.Groups f9) (o10 : own s w [.slice A10 x.On.length C10] x.On f10) (o11 : own s w [.slice A11 x.Tapes.length C11] x.Tapes f11) : own s w [.int .i64 x.Shape.Groups, .int .i64 x.Shape.Column, .int .i64 x.Shape.Data, .int .i64 x.Shape.Spare, .int .i64 x.Shape.Rows, .int .i64 x.Shape.Cap, .int .i64 x.Shape.Batch, .int .i64 x.Shape.Queue, .int .i64 x.Shape.Stage, .slice A9 x.Groups.length C9, .slice A10 x.On.length C10, .slice A11 x.Tapes.length C11, .int .i64 x.Writes, .int .i64 x.Stop, .bool x.Down] x (f9 ++ (f10 ++ (f11))) := by
  obtain ⟨i0, i4, i5⟩ := ok
  have h : own s w _ (x.Shape, x.Groups, x.On, x.Tapes, x.Writes, x.Stop, x.Down) _ := (own_two (Shape.own_mk (x := x.Shape) i0) (own_two o9 (own_two o10 (own_two o11 (own_two (own_mki i4) (own_two (own_mki i5) own_mkb))))))
  refine own_fp h ?_
  simp
theorem Wld.out {w0 w : World} {F : List Rsc} {x : Wld} {A9 : Option Addr} {C9 : Nat} {A10 : Option Addr} {C10 : Nat} {A11 : Option Addr} {C11 : Nat} {f9 : List Nat} {f10 : List Nat} {f11 : List Nat} (h : Sep No w0 [mine [.slice A9 x.Groups.length C9] x.Groups f9, mine [.slice A10 x.On.length C10] x.On f10, mine [.slice A11 x.Tapes.length C11] x.Tapes f11] F w) (ok : x.Ok) : Res w0 w [.int .i64 x.Shape.Groups, .int .i64 x.Shape.Column, .int .i64 x.Shape.Data, .int .i64 x.Shape.Spare, .int .i64 x.Shape.Rows, .int .i64 x.Shape.Cap, .int .i64 x.Shape.Batch, .int .i64 x.Shape.Queue, .int .i64 x.Shape.Stage, .slice A9 x.Groups.length C9, .slice A10 x.On.length C10, .slice A11 x.Tapes.length C11, .int .i64 x.Writes, .int .i64 x.Stop, .bool x.Down] x :=
  ⟨_, Wld.own_mk ok (h.mine 0 rfl) (h.mine 1 rfl) (h.mine 2 rfl), by have := h.nd; simpa [blocks, mine] using this, fun b hb => (h.new b (by simpa [blocks, mine] using hb)).resolve_left id⟩
theorem Wld.see9 {s : Bool} {w : World} {x : Wld} {A9 : Option Addr} {C9 : Nat} {A10 : Option Addr} {C10 : Nat} {A11 : Option Addr} {C11 : Nat} {fp : List Nat} (h : own s w [.int .i64 x.Shape.Groups, .int .i64 x.Shape.Column, .int .i64 x.Shape.Data, .int .i64 x.Shape.Spare, .int .i64 x.Shape.Rows, .int .i64 x.Shape.Cap, .int .i64 x.Shape.Batch, .int .i64 x.Shape.Queue, .int .i64 x.Shape.Stage, .slice A9 x.Groups.length C9, .slice A10 x.On.length C10, .slice A11 x.Tapes.length C11, .int .i64 x.Writes, .int .i64 x.Stop, .bool x.Down] x fp) : Sees w [.slice A9 x.Groups.length C9] x.Groups := by
  obtain ⟨_, _, _, _, _, o, _, _⟩ := own_WldC h
  exact ⟨_, own_weak o⟩
theorem Wld.see10 {s : Bool} {w : World} {x : Wld} {A9 : Option Addr} {C9 : Nat} {A10 : Option Addr} {C10 : Nat} {A11 : Option Addr} {C11 : Nat} {fp : List Nat} (h : own s w [.int .i64 x.Shape.Groups, .int .i64 x.Shape.Column, .int .i64 x.Shape.Data, .int .i64 x.Shape.Spare, .int .i64 x.Shape.Rows, .int .i64 x.Shape.Cap, .int .i64 x.Shape.Batch, .int .i64 x.Shape.Queue, .int .i64 x.Shape.Stage, .slice A9 x.Groups.length C9, .slice A10 x.On.length C10, .slice A11 x.Tapes.length C11, .int .i64 x.Writes, .int .i64 x.Stop, .bool x.Down] x fp) : Sees w [.slice A10 x.On.length C10] x.On := by
  obtain ⟨_, _, _, _, _, _, o, _⟩ := own_WldC h
  exact ⟨_, own_weak o⟩
theorem Wld.see11 {s : Bool} {w : World} {x : Wld} {A9 : Option Addr} {C9 : Nat} {A10 : Option Addr} {C10 : Nat} {A11 : Option Addr} {C11 : Nat} {fp : List Nat} (h : own s w [.int .i64 x.Shape.Groups, .int .i64 x.Shape.Column, .int .i64 x.Shape.Data, .int .i64 x.Shape.Spare, .int .i64 x.Shape.Rows, .int .i64 x.Shape.Cap, .int .i64 x.Shape.Batch, .int .i64 x.Shape.Queue, .int .i64 x.Shape.Stage, .slice A9 x.Groups.length C9, .slice A10 x.On.length C10, .slice A11 x.Tapes.length C11, .int .i64 x.Writes, .int .i64 x.Stop, .bool x.Down] x fp) : Sees w [.slice A11 x.Tapes.length C11] x.Tapes := by
  obtain ⟨_, _, _, _, _, _, _, o⟩ := own_WldC h
  exact ⟨_, own_weak o⟩
theorem Wld.mutOut {w w' : World} {fp : List Nat} {x : Wld} {A9 : Option Addr} {C9 : Nat} {A10 : Option Addr} {C10 : Nat} {A11 : Option Addr} {C11 : Nat} {y9 : List (List Drive)} {y10 : List Int} {y11 : List Tape} {f9 : List Nat} {f10 : List Nat} {f11 : List Nat} {F : List Rsc} (ok : x.Ok) (h : Sep (· ∈ fp) w [gone, mine [.slice A9 x.Groups.length C9] y9 f9, mine [.slice A10 x.On.length C10] y10 f10, mine [.slice A11 x.Tapes.length C11] y11 f11] F w') (l9 : y9.length = x.Groups.length) (l10 : y10.length = x.On.length) (l11 : y11.length = x.Tapes.length) : Mut w w' fp [.int .i64 x.Shape.Groups, .int .i64 x.Shape.Column, .int .i64 x.Shape.Data, .int .i64 x.Shape.Spare, .int .i64 x.Shape.Rows, .int .i64 x.Shape.Cap, .int .i64 x.Shape.Batch, .int .i64 x.Shape.Queue, .int .i64 x.Shape.Stage, .slice A9 x.Groups.length C9, .slice A10 x.On.length C10, .slice A11 x.Tapes.length C11, .int .i64 x.Writes, .int .i64 x.Stop, .bool x.Down] (⟨⟨x.Shape.Groups, x.Shape.Column, x.Shape.Data, x.Shape.Spare, x.Shape.Rows, x.Shape.Cap, x.Shape.Batch, x.Shape.Queue, x.Shape.Stage⟩, y9, y10, y11, x.Writes, x.Stop, x.Down⟩ : Wld) := by
  have o9 := h.mine 1 rfl
  rw [← l9] at o9
  have o10 := h.mine 2 rfl
  rw [← l10] at o10
  have o11 := h.mine 3 rfl
  rw [← l11] at o11
  have hh := Wld.own_mk (x := (⟨⟨x.Shape.Groups, x.Shape.Column, x.Shape.Data, x.Shape.Spare, x.Shape.Rows, x.Shape.Cap, x.Shape.Batch, x.Shape.Queue, x.Shape.Stage⟩, y9, y10, y11, x.Writes, x.Stop, x.Down⟩ : Wld)) ok o9 o10 o11
  dsimp only at hh
  rw [l9, l10, l11] at hh
  exact ⟨h.ext, _, hh, (by have := h.nd; simpa [blocks, mine, gone] using this), fun b hb => h.new b (by simpa [blocks, mine, gone] using hb)⟩
structure WldResult where
  Code : Int
  Wd : Wld
instance : Rp WldResult := Rp.via fun x => (x.Code, x.Wd)
noncomputable instance : DecidableEq WldResult := fun _ _ => Classical.propDecidable _
instance : Inhabited WldResult := ⟨⟨0, default⟩⟩
def WldResult.val (x : WldResult) (A10 : Option Addr) (C10 : Nat) (A11 : Option Addr) (C11 : Nat) (A12 : Option Addr) (C12 : Nat) : Value := .agg #[.int .i64 x.Code, .int .i64 x.Wd.Shape.Groups, .int .i64 x.Wd.Shape.Column, .int .i64 x.Wd.Shape.Data, .int .i64 x.Wd.Shape.Spare, .int .i64 x.Wd.Shape.Rows, .int .i64 x.Wd.Shape.Cap, .int .i64 x.Wd.Shape.Batch, .int .i64 x.Wd.Shape.Queue, .int .i64 x.Wd.Shape.Stage, .slice A10 x.Wd.Groups.length C10, .slice A11 x.Wd.On.length C11, .slice A12 x.Wd.Tapes.length C12, .int .i64 x.Wd.Writes, .int .i64 x.Wd.Stop, .bool x.Wd.Down]
def WldResult.Ok (x : WldResult) : Prop := I64ok x.Code ∧ x.Wd.Ok
theorem own_WldResult {s w cs} {x : WldResult} {fp} (h : own s w cs x fp) : ∃ (A10 : Option Addr) (C10 : Nat) (A11 : Option Addr) (C11 : Nat) (A12 : Option Addr) (C12 : Nat) (f10 : List Nat) (f11 : List Nat) (f12 : List Nat) , cs = [.int .i64 x.Code, .int .i64 x.Wd.Shape.Groups, .int .i64 x.Wd.Shape.Column, .int .i64 x.Wd.Shape.Data, .int .i64 x.Wd.Shape.Spare, .int .i64 x.Wd.Shape.Rows, .int .i64 x.Wd.Shape.Cap, .int .i64 x.Wd.Shape.Batch, .int .i64 x.Wd.Shape.Queue, .int .i64 x.Wd.Shape.Stage, .slice A10 x.Wd.Groups.length C10, .slice A11 x.Wd.On.length C11, .slice A12 x.Wd.Tapes.length C12, .int .i64 x.Wd.Writes, .int .i64 x.Wd.Stop, .bool x.Wd.Down] ∧ fp = f10 ++ (f11 ++ (f12)) ∧ x.Ok ∧ own s w [.slice A10 x.Wd.Groups.length C10] x.Wd.Groups f10 ∧ own s w [.slice A11 x.Wd.On.length C11] x.Wd.On f11 ∧ own s w [.slice A12 x.Wd.Tapes.length C12] x.Wd.Tapes f12 := by
  obtain ⟨_, _, _, _, rfl, e0, h0, k0⟩ := own_pair h
  obtain ⟨rfl, rfl, i0⟩ := own_int h0
  obtain ⟨A10, C10, A11, C11, A12, C12, g10, g11, g12, rfl, rfl, i1, o10, o11, o12⟩ := own_Wld k0
  exact ⟨A10, C10, A11, C11, A12, C12, _, _, _, rfl, by subst_vars; simp, ⟨i0, i1⟩, o10, o11, o12⟩
theorem own_WldResultC {s w A10 C10 A11 C11 A12 C12} {x : WldResult} {fp} (h : own s w [.int .i64 x.Code, .int .i64 x.Wd.Shape.Groups, .int .i64 x.Wd.Shape.Column, .int .i64 x.Wd.Shape.Data, .int .i64 x.Wd.Shape.Spare, .int .i64 x.Wd.Shape.Rows, .int .i64 x.Wd.Shape.Cap, .int .i64 x.Wd.Shape.Batch, .int .i64 x.Wd.Shape.Queue, .int .i64 x.Wd.Shape.Stage, .slice A10 x.Wd.Groups.length C10, .slice A11 x.Wd.On.length C11, .slice A12 x.Wd.Tapes.length C12, .int .i64 x.Wd.Writes, .int .i64 x.Wd.Stop, .bool x.Wd.Down] x fp) : ∃ (f10 : List Nat) (f11 : List Nat) (f12 : List Nat), fp = f10 ++ (f11 ++ (f12)) ∧ x.Ok ∧ own s w [.slice A10 x.Wd.Groups.length C10] x.Wd.Groups f10 ∧ own s w [.slice A11 x.Wd.On.length C11] x.Wd.On f11 ∧ own s w [.slice A12 x.Wd.Tapes.length C12] x.Wd.Tapes f12 := by
  obtain ⟨_, _, _, _, _, _, f10, f11, f12, e, ef, ok, o10, o11, o12⟩ := own_WldResult h
  simp only [List.cons.injEq, Value.slice.injEq, and_true, true_and] at e
  obtain ⟨⟨rfl, rfl⟩, ⟨rfl, rfl⟩, ⟨rfl, rfl⟩⟩ := e
  exact ⟨f10, f11, f12, ef, ok, o10, o11, o12⟩
theorem WldResult.own_mk {s : Bool} {w : World} {x : WldResult} {A10 : Option Addr} {C10 : Nat} {A11 : Option Addr} {C11 : Nat} {A12 : Option Addr} {C12 : Nat} {f10 : List Nat} {f11 : List Nat} {f12 : List Nat} (ok : x.Ok) (o10 : own s w [.slice A10 x.Wd.Groups.length C10] x.Wd.Groups f10) (o11 : own s w [.slice A11 x.Wd.On.length C11] x.Wd.On f11) (o12 : own s w [.slice A12 x.Wd.Tapes.length C12] x.Wd.Tapes f12) : own s w [.int .i64 x.Code, .int .i64 x.Wd.Shape.Groups, .int .i64 x.Wd.Shape.Column, .int .i64 x.Wd.Shape.Data, .int .i64 x.Wd.Shape.Spare, .int .i64 x.Wd.Shape.Rows, .int .i64 x.Wd.Shape.Cap, .int .i64 x.Wd.Shape.Batch, .int .i64 x.Wd.Shape.Queue, .int .i64 x.Wd.Shape.Stage, .slice A10 x.Wd.Groups.length C10, .slice A11 x.Wd.On.length C11, .slice A12 x.Wd.Tapes.length C12, .int .i64 x.Wd.Writes, .int .i64 x.Wd.Stop, .bool x.Wd.Down] x (f10 ++ (f11 ++ (f12))) := by
  obtain ⟨i0, i1⟩ := ok
  have h : own s w _ (x.Code, x.Wd) _ := (own_two (own_mki i0) (Wld.own_mk (x := x.Wd) i1 o10 o11 o12))
  refine own_fp h ?_
  simp
theorem WldResult.out {w0 w : World} {F : List Rsc} {x : WldResult} {A10 : Option Addr} {C10 : Nat} {A11 : Option Addr} {C11 : Nat} {A12 : Option Addr} {C12 : Nat} {f10 : List Nat} {f11 : List Nat} {f12 : List Nat} (h : Sep No w0 [mine [.slice A10 x.Wd.Groups.length C10] x.Wd.Groups f10, mine [.slice A11 x.Wd.On.length C11] x.Wd.On f11, mine [.slice A12 x.Wd.Tapes.length C12] x.Wd.Tapes f12] F w) (ok : x.Ok) : Res w0 w [.int .i64 x.Code, .int .i64 x.Wd.Shape.Groups, .int .i64 x.Wd.Shape.Column, .int .i64 x.Wd.Shape.Data, .int .i64 x.Wd.Shape.Spare, .int .i64 x.Wd.Shape.Rows, .int .i64 x.Wd.Shape.Cap, .int .i64 x.Wd.Shape.Batch, .int .i64 x.Wd.Shape.Queue, .int .i64 x.Wd.Shape.Stage, .slice A10 x.Wd.Groups.length C10, .slice A11 x.Wd.On.length C11, .slice A12 x.Wd.Tapes.length C12, .int .i64 x.Wd.Writes, .int .i64 x.Wd.Stop, .bool x.Wd.Down] x :=
  ⟨_, WldResult.own_mk ok (h.mine 0 rfl) (h.mine 1 rfl) (h.mine 2 rfl), by have := h.nd; simpa [blocks, mine] using this, fun b hb => (h.new b (by simpa [blocks, mine] using hb)).resolve_left id⟩
theorem WldResult.see10 {s : Bool} {w : World} {x : WldResult} {A10 : Option Addr} {C10 : Nat} {A11 : Option Addr} {C11 : Nat} {A12 : Option Addr} {C12 : Nat} {fp : List Nat} (h : own s w [.int .i64 x.Code, .int .i64 x.Wd.Shape.Groups, .int .i64 x.Wd.Shape.Column, .int .i64 x.Wd.Shape.Data, .int .i64 x.Wd.Shape.Spare, .int .i64 x.Wd.Shape.Rows, .int .i64 x.Wd.Shape.Cap, .int .i64 x.Wd.Shape.Batch, .int .i64 x.Wd.Shape.Queue, .int .i64 x.Wd.Shape.Stage, .slice A10 x.Wd.Groups.length C10, .slice A11 x.Wd.On.length C11, .slice A12 x.Wd.Tapes.length C12, .int .i64 x.Wd.Writes, .int .i64 x.Wd.Stop, .bool x.Wd.Down] x fp) : Sees w [.slice A10 x.Wd.Groups.length C10] x.Wd.Groups := by
  obtain ⟨_, _, _, _, _, o, _, _⟩ := own_WldResultC h
  exact ⟨_, own_weak o⟩
theorem WldResult.see11 {s : Bool} {w : World} {x : WldResult} {A10 : Option Addr} {C10 : Nat} {A11 : Option Addr} {C11 : Nat} {A12 : Option Addr} {C12 : Nat} {fp : List Nat} (h : own s w [.int .i64 x.Code, .int .i64 x.Wd.Shape.Groups, .int .i64 x.Wd.Shape.Column, .int .i64 x.Wd.Shape.Data, .int .i64 x.Wd.Shape.Spare, .int .i64 x.Wd.Shape.Rows, .int .i64 x.Wd.Shape.Cap, .int .i64 x.Wd.Shape.Batch, .int .i64 x.Wd.Shape.Queue, .int .i64 x.Wd.Shape.Stage, .slice A10 x.Wd.Groups.length C10, .slice A11 x.Wd.On.length C11, .slice A12 x.Wd.Tapes.length C12, .int .i64 x.Wd.Writes, .int .i64 x.Wd.Stop, .bool x.Wd.Down] x fp) : Sees w [.slice A11 x.Wd.On.length C11] x.Wd.On := by
  obtain ⟨_, _, _, _, _, _, o, _⟩ := own_WldResultC h
  exact ⟨_, own_weak o⟩
theorem WldResult.see12 {s : Bool} {w : World} {x : WldResult} {A10 : Option Addr} {C10 : Nat} {A11 : Option Addr} {C11 : Nat} {A12 : Option Addr} {C12 : Nat} {fp : List Nat} (h : own s w [.int .i64 x.Code, .int .i64 x.Wd.Shape.Groups, .int .i64 x.Wd.Shape.Column, .int .i64 x.Wd.Shape.Data, .int .i64 x.Wd.Shape.Spare, .int .i64 x.Wd.Shape.Rows, .int .i64 x.Wd.Shape.Cap, .int .i64 x.Wd.Shape.Batch, .int .i64 x.Wd.Shape.Queue, .int .i64 x.Wd.Shape.Stage, .slice A10 x.Wd.Groups.length C10, .slice A11 x.Wd.On.length C11, .slice A12 x.Wd.Tapes.length C12, .int .i64 x.Wd.Writes, .int .i64 x.Wd.Stop, .bool x.Wd.Down] x fp) : Sees w [.slice A12 x.Wd.Tapes.length C12] x.Wd.Tapes := by
  obtain ⟨_, _, _, _, _, _, _, o⟩ := own_WldResultC h
  exact ⟨_, own_weak o⟩
structure BlockResult where
  Code : Int
  Block : Block
instance : Rp BlockResult := Rp.via fun x => (x.Code, x.Block)
noncomputable instance : DecidableEq BlockResult := fun _ _ => Classical.propDecidable _
instance : Inhabited BlockResult := ⟨⟨0, default⟩⟩
def BlockResult.val (x : BlockResult) (A2 : Option Addr) (C2 : Nat) : Value := .agg #[.int .i64 x.Code, .int .i64 x.Block.Stamp, .slice A2 x.Block.Bytes.length C2]
structure IntResult where
  Code : Int
  Val : Int
instance : Rp IntResult := Rp.via fun x => (x.Code, x.Val)
noncomputable instance : DecidableEq IntResult := fun _ _ => Classical.propDecidable _
instance : Inhabited IntResult := ⟨⟨0, 0⟩⟩
def IntResult.val (x : IntResult) : Value := .agg #[.int .i64 x.Code, .int .i64 x.Val]
structure IntsResult where
  Code : Int
  Lst : List Int
instance : Rp IntsResult := Rp.via fun x => (x.Code, x.Lst)
noncomputable instance : DecidableEq IntsResult := fun _ _ => Classical.propDecidable _
instance : Inhabited IntsResult := ⟨⟨0, []⟩⟩
def IntsResult.val (x : IntsResult) (A1 : Option Addr) (C1 : Nat) : Value := .agg #[.int .i64 x.Code, .slice A1 x.Lst.length C1]
structure GroupsResult where
  Code : Int
  Groups : List Int
instance : Rp GroupsResult := Rp.via fun x => (x.Code, x.Groups)
noncomputable instance : DecidableEq GroupsResult := fun _ _ => Classical.propDecidable _
instance : Inhabited GroupsResult := ⟨⟨0, []⟩⟩
def GroupsResult.val (x : GroupsResult) (A1 : Option Addr) (C1 : Nat) : Value := .agg #[.int .i64 x.Code, .slice A1 x.Groups.length C1]
structure RecsResult where
  Code : Int
  Recs : List Rec
instance : Rp RecsResult := Rp.via fun x => (x.Code, x.Recs)
noncomputable instance : DecidableEq RecsResult := fun _ _ => Classical.propDecidable _
instance : Inhabited RecsResult := ⟨⟨0, []⟩⟩
def RecsResult.val (x : RecsResult) (A1 : Option Addr) (C1 : Nat) : Value := .agg #[.int .i64 x.Code, .slice A1 x.Recs.length C1]
structure ListsResult where
  Code : Int
  Lists : List (List UInt8)
instance : Rp ListsResult := Rp.via fun x => (x.Code, x.Lists)
noncomputable instance : DecidableEq ListsResult := fun _ _ => Classical.propDecidable _
instance : Inhabited ListsResult := ⟨⟨0, []⟩⟩
def ListsResult.val (x : ListsResult) (A1 : Option Addr) (C1 : Nat) : Value := .agg #[.int .i64 x.Code, .slice A1 x.Lists.length C1]
end Go.Wk
namespace Go.Wk
open Rp (sz own)
theorem Sep.fbox {M : Nat → Prop} {w0 w : World} {Δ F : List Rsc} (h : Sep M w0 Δ F w) (j : Nat) {b : Nat} {o : Obj} (hj : F[j]? = some (Wk.box b o)) : w.heap[b]? = some o := h.fs _ (List.mem_of_getElem? hj)
theorem Ext.atM {M : Nat → Prop} {w w' : World} (h : Ext M w w') {b o : Nat} {cs : List Value} (hm : ¬ M b) (hc : At w b o cs) : At w' b o cs := fun j v hj => h.cellM hm (hc j v hj)
theorem elem_st {α : Type} [Rp α] [Inhabited α] {s w ad n cap} {xs : List α} {fp} (h : own s w [.slice ad n cap] xs fp) (k : Nat) (hk : k < xs.length) :
    ∃ b o cs f, ad = some ⟨b, o, none⟩ ∧ At w b (o + k * sz α) cs ∧ own s w cs (xs.getD k default) f ∧ (∀ b ∈ f, b ∈ fp) ∧ b ∈ fp := by
  obtain ⟨b, o, cs, f, h1, h2, h3, h4, h5⟩ := own_elem h k hk
  rw [show xs.getD k default = xs[k] from by simp [List.getD, hk]]
  exact ⟨b, o, cs, f, h1, h2, h3, h4, h5⟩
section
variable {P : Program} {n : Nat} {ops : Array Oper} {Q : Post} {L : Env} {ty : TypeId} {p : String} {af : Array Edge} {g : Option (Nat × Bool)} {M : Nat → Prop} {w0 w : World} {Δ F : List Rsc} {α : Type} [Rp α]
theorem s_elst2S {rest : List Oper} {t : TypeId} {x y : Operand} {b off : Nat} {vs : List Value} {ad : Option Addr} {len cap : Nat} {xs : List α} {fp fu : List Nat} {u : α} (hw : Wn ops n L ⟨none, .store t x y, ty, p, af, g⟩) (hs : ∀ w, (sizeOf t).run P w = .ok (sz α) w)
    (H : Sep M w0 Δ F w) (i j : Nat) (hi : Δ[i]? = some (mine [.slice ad len cap] xs fp)) (hj : Δ[j]? = some (mine vs u fu)) (hij : Nat.beq j i = false) (q : Nat) (hq : q < xs.length) (hx : evL L x = some (.pointer (some ⟨b, off + q * sz α, none⟩))) (had : ad = some ⟨b, off, none⟩) (hy : evL L y = some (.agg vs.toArray))
    (k : ∀ w' fp', Sep M w0 ((Δ.set j gone).set i (mine [.slice ad len cap] (xs.set q u) fp')) F w' → RL P n ops Q rest L w') :
    RL P n ops Q (⟨none, .store t x y, ty, p, af, g⟩ :: rest) L w := by
  obtain ⟨b', o', cur, T, fp', e1, hb, hsz, hk⟩ := H.elset2 i j hi hj hij q hq
  rw [had] at e1
  simp only [Option.some.injEq, Addr.mk.injEq, and_true] at e1
  obtain ⟨rfl, rfl⟩ := e1
  have hm := H.mine j hj
  exact s_do hw rfl (pd_storeS hs hx hy (Rp.len hm) (Rp.one hm) hb hsz) (k _ fp' hk)
theorem d_elst2S {S : World → Prop} {l : Nat} {t : TypeId} {x y : Operand} {b off : Nat} {vs : List Value} {ad : Option Addr} {len cap : Nat} {xs : List α} {fp fu : List Nat} {u : α} (ho : ops.toList[l]? = some ⟨none, .store t x y, ty, p, af, g⟩) (hw : Wn ops n L ⟨none, .store t x y, ty, p, af, g⟩) (hs : ∀ w, (sizeOf t).run P w = .ok (sz α) w)
    (H : Sep M w0 Δ F w) (i j : Nat) (hi : Δ[i]? = some (mine [.slice ad len cap] xs fp)) (hj : Δ[j]? = some (mine vs u fu)) (hij : Nat.beq j i = false) (q : Nat) (hq : q < xs.length) (hx : evL L x = some (.pointer (some ⟨b, off + q * sz α, none⟩))) (had : ad = some ⟨b, off, none⟩) (hy : evL L y = some (.agg vs.toArray))
    (k : ∀ w' fp', Sep M w0 ((Δ.set j gone).set i (mine [.slice ad len cap] (xs.set q u) fp')) F w' → DL P n ops Q S [] L w') :
    DL P n ops Q S [(l, false)] L w := by
  obtain ⟨b', o', cur, T, fp', e1, hb, hsz, hk⟩ := H.elset2 i j hi hj hij q hq
  rw [had] at e1
  simp only [Option.some.injEq, Addr.mk.injEq, and_true] at e1
  obtain ⟨rfl, rfl⟩ := e1
  have hm := H.mine j hj
  exact d_do ho hw rfl (pd_storeS hs hx hy (Rp.len hm) (Rp.one hm) hb hsz) (fun _ hr => absurd rfl hr) (k _ fp' hk)
end
def szL {α : Type} [Inhabited α] (f : α → Nat) (xs : List α) : Nat := xs.length + sumN (fun i => f (xs.getD i default)) xs.length
theorem szL_eq {α : Type} [Inhabited α] {f : α → Nat} {xs : List α} : szL f xs = xs.length + sumN (fun i => f (xs.getD i default)) xs.length := rfl
theorem szL_get {α : Type} [Inhabited α] {f : α → Nat} {xs : List α} {m : Nat} (h : szL f xs ≤ m) (k : Nat) (hk : k < xs.length) : f (xs.getD k default) ≤ m ∧ xs.length ≤ m := by
  have : sumN (fun i => f (xs.getD i default)) (k + 1) ≤ sumN (fun i => f (xs.getD i default)) xs.length := sumN_le (by omega)
  have h2 : sumN (fun i => f (xs.getD i default)) (k + 1) = sumN (fun i => f (xs.getD i default)) k + f (xs.getD k default) := rfl
  unfold szL at h
  omega
def szRec (x : Rec) : Nat := x.Name.size + x.Rows.length + x.Data.length + x.Delta.length
def szBlock (x : Block) : Nat := x.Bytes.length
def szDrive (x : Drive) : Nat := szL szBlock x.Blocks
def szTape (x : Tape) : Nat := szL szRec x.Recs
def szWld (x : Wld) : Nat := szL (szL szDrive) x.Groups + x.On.length + szL szTape x.Tapes
def mkL {α : Type} [Inhabited α] (f : α → Nat) (xs : List α) : Nat := sumN (fun i => f (xs.getD i default)) xs.length
def mkRec (x : Rec) : Nat := 6 + x.Rows.length + x.Data.length + x.Delta.length
def mkBlock (x : Block) : Nat := 1 + x.Bytes.length
def mkDrive (x : Drive) : Nat := 1 + mkL mkBlock x.Blocks
def mkTape (x : Tape) : Nat := 1 + mkL mkRec x.Recs
def mkWld (x : Wld) : Nat := mkL (mkL mkDrive) x.Groups + x.On.length + mkL mkTape x.Tapes
theorem mkL_7 {α : Type} [Inhabited α] {f g : α → Nat} (h : ∀ x, f x ≤ 7 + 7 * g x) {xs : List α} : mkL f xs ≤ 7 * szL g xs := by
  have : ∀ k, sumN (fun i => f (xs.getD i default)) k ≤ 7 * k + 7 * sumN (fun i => g (xs.getD i default)) k := by
    intro k
    induction k with
    | zero => exact Nat.le_refl _
    | succ k ih =>
      have := h (xs.getD k default)
      simp only [sumN]; omega
  have := this xs.length
  unfold mkL szL; omega
theorem mkRec_le (x : Rec) : mkRec x ≤ 7 + 7 * szRec x := by unfold mkRec szRec; omega
theorem mkBlock_le (x : Block) : mkBlock x ≤ 7 + 7 * szBlock x := by unfold mkBlock szBlock; omega
theorem mkDrive_le (x : Drive) : mkDrive x ≤ 7 + 7 * szDrive x := by
  have := mkL_7 mkBlock_le (xs := x.Blocks)
  unfold mkDrive szDrive; omega
theorem mkTape_le (x : Tape) : mkTape x ≤ 7 + 7 * szTape x := by
  have := mkL_7 mkRec_le (xs := x.Recs)
  unfold mkTape szTape; omega
theorem mkGroup_le (x : List Drive) : mkL mkDrive x ≤ 7 + 7 * szL szDrive x := by
  have := mkL_7 mkDrive_le (xs := x); omega
theorem mkWld_le (x : Wld) : mkWld x ≤ 7 * szWld x := by
  have h1 := mkL_7 mkGroup_le (xs := x.Groups)
  have h2 := mkL_7 mkTape_le (xs := x.Tapes)
  unfold mkWld szWld; omega
end Go.Wk
namespace Go.Wk
open Go.Proofs Rp
set_option maxRecDepth 10000
theorem Tryz_laws_eqShape {w : World} {s t : Shape}  : Ret Tryz.prog 76 #[s.v, t.v] w fun v w' => Ext No w w' ∧ (v = .bool (decide (s = t))) := by
 refine ret_Q (vs := [s.v, t.v]) Tryz.func76 rfl Tryz.ntmps76 rfl (fun Q hQ hN => ?_)
 have H0 := Sep.start (w := w) (F := []) (by simp)
 refine W_sr (s_box (wn rfl) rfl rfl H0 (fun b1 w1 e1 g1 H1 => ?_))
 refine s_box (wn rfl) rfl rfl H1 (fun b2 w2 e2 g2 H2 => ?_)
 refine sA rfl rfl (s_nil (W_seq (W_sr (sV rfl (py_field tu34 rfl ts2 rfl rfl) (sV rfl (py_load tu2 rfl rfl (cell_atL (H2.box 0 rfl) rfl)) (sV rfl (py_field tu34 rfl ts2 rfl rfl) (sV rfl (py_load tu2 rfl rfl (cell_atL (H2.box 1 rfl) rfl)) (sV rfl (py_neq rfl rfl) (s_nil (W_ifd rfl (fun c1 => ?_) (fun c1 => ?_)))))))))))
 ·refine W_sr (sA rfl rfl (s_nil (rT hQ Tryz.results76 rfl (⟨H2.ext, ?_⟩))))
  rw [decide_eq_false (fun e => by subst e; first | exact c1 rfl | simp at c1)]
 ·refine W_skip (W_seq (W_sr (sV rfl (py_field tu34 rfl ts2 rfl rfl) (sV rfl (py_load tu2 rfl rfl (cell_atL (H2.box 0 rfl) rfl)) (sV rfl (py_field tu34 rfl ts2 rfl rfl) (sV rfl (py_load tu2 rfl rfl (cell_atL (H2.box 1 rfl) rfl)) (sV rfl (py_neq rfl rfl) (s_nil (W_ifd rfl (fun c2 => ?_) (fun c2 => ?_))))))))))
  ·refine W_sr (sA rfl rfl (s_nil (rT hQ Tryz.results76 rfl (⟨H2.ext, ?_⟩))))
   rw [decide_eq_false (fun e => by subst e; first | exact c2 rfl | simp at c2)]
  ·refine W_skip (W_seq (W_sr (sV rfl (py_field tu34 rfl ts2 rfl rfl) (sV rfl (py_load tu2 rfl rfl (cell_atL (H2.box 0 rfl) rfl)) (sV rfl (py_field tu34 rfl ts2 rfl rfl) (sV rfl (py_load tu2 rfl rfl (cell_atL (H2.box 1 rfl) rfl)) (sV rfl (py_neq rfl rfl) (s_nil (W_ifd rfl (fun c3 => ?_) (fun c3 => ?_))))))))))
   ·refine W_sr (sA rfl rfl (s_nil (rT hQ Tryz.results76 rfl (⟨H2.ext, ?_⟩))))
    rw [decide_eq_false (fun e => by subst e; first | exact c3 rfl | simp at c3)]
   ·refine W_skip (W_seq (W_sr (sV rfl (py_field tu34 rfl ts2 rfl rfl) (sV rfl (py_load tu2 rfl rfl (cell_atL (H2.box 0 rfl) rfl)) (sV rfl (py_field tu34 rfl ts2 rfl rfl) (sV rfl (py_load tu2 rfl rfl (cell_atL (H2.box 1 rfl) rfl)) (sV rfl (py_neq rfl rfl) (s_nil (W_ifd rfl (fun c4 => ?_) (fun c4 => ?_))))))))))
    ·refine W_sr (sA rfl rfl (s_nil (rT hQ Tryz.results76 rfl (⟨H2.ext, ?_⟩))))
     rw [decide_eq_false (fun e => by subst e; first | exact c4 rfl | simp at c4)]
    ·refine W_skip (W_seq (W_sr (sV rfl (py_field tu34 rfl ts2 rfl rfl) (sV rfl (py_load tu2 rfl rfl (cell_atL (H2.box 0 rfl) rfl)) (sV rfl (py_field tu34 rfl ts2 rfl rfl) (sV rfl (py_load tu2 rfl rfl (cell_atL (H2.box 1 rfl) rfl)) (sV rfl (py_neq rfl rfl) (s_nil (W_ifd rfl (fun c5 => ?_) (fun c5 => ?_))))))))))
     ·refine W_sr (sA rfl rfl (s_nil (rT hQ Tryz.results76 rfl (⟨H2.ext, ?_⟩))))
      rw [decide_eq_false (fun e => by subst e; first | exact c5 rfl | simp at c5)]
     ·refine W_skip (W_seq (W_sr (sV rfl (py_field tu34 rfl ts2 rfl rfl) (sV rfl (py_load tu2 rfl rfl (cell_atL (H2.box 0 rfl) rfl)) (sV rfl (py_field tu34 rfl ts2 rfl rfl) (sV rfl (py_load tu2 rfl rfl (cell_atL (H2.box 1 rfl) rfl)) (sV rfl (py_neq rfl rfl) (s_nil (W_ifd rfl (fun c6 => ?_) (fun c6 => ?_))))))))))
      ·refine W_sr (sA rfl rfl (s_nil (rT hQ Tryz.results76 rfl (⟨H2.ext, ?_⟩))))
       rw [decide_eq_false (fun e => by subst e; first | exact c6 rfl | simp at c6)]
      ·refine W_skip (W_seq (W_sr (sV rfl (py_field tu34 rfl ts2 rfl rfl) (sV rfl (py_load tu2 rfl rfl (cell_atL (H2.box 0 rfl) rfl)) (sV rfl (py_field tu34 rfl ts2 rfl rfl) (sV rfl (py_load tu2 rfl rfl (cell_atL (H2.box 1 rfl) rfl)) (sV rfl (py_neq rfl rfl) (s_nil (W_ifd rfl (fun c7 => ?_) (fun c7 => ?_))))))))))
       ·refine W_sr (sA rfl rfl (s_nil (rT hQ Tryz.results76 rfl (⟨H2.ext, ?_⟩))))
        rw [decide_eq_false (fun e => by subst e; first | exact c7 rfl | simp at c7)]
       ·refine W_skip (W_seq (W_sr (sV rfl (py_field tu34 rfl ts2 rfl rfl) (sV rfl (py_load tu2 rfl rfl (cell_atL (H2.box 0 rfl) rfl)) (sV rfl (py_field tu34 rfl ts2 rfl rfl) (sV rfl (py_load tu2 rfl rfl (cell_atL (H2.box 1 rfl) rfl)) (sV rfl (py_neq rfl rfl) (s_nil (W_ifd rfl (fun c8 => ?_) (fun c8 => ?_))))))))))
        ·refine W_sr (sA rfl rfl (s_nil (rT hQ Tryz.results76 rfl (⟨H2.ext, ?_⟩))))
         rw [decide_eq_false (fun e => by subst e; first | exact c8 rfl | simp at c8)]
        ·refine W_skip (W_seq (W_sr (sV rfl (py_field tu34 rfl ts2 rfl rfl) (sV rfl (py_load tu2 rfl rfl (cell_atL (H2.box 0 rfl) rfl)) (sV rfl (py_field tu34 rfl ts2 rfl rfl) (sV rfl (py_load tu2 rfl rfl (cell_atL (H2.box 1 rfl) rfl)) (sV rfl (py_neq rfl rfl) (s_nil (W_ifd rfl (fun c9 => ?_) (fun c9 => ?_))))))))))
         ·refine W_sr (sA rfl rfl (s_nil (rT hQ Tryz.results76 rfl (⟨H2.ext, ?_⟩))))
          rw [decide_eq_false (fun e => by subst e; first | exact c9 rfl | simp at c9)]
         ·refine W_skip (W_sr (sA rfl rfl (s_nil (rT hQ Tryz.results76 rfl (⟨H2.ext, ?_⟩)))))
          rw [decide_eq_true]
          cases s; cases t; simp_all [str_beq]
theorem Tryz_laws_szBlock {w : World} {x : Block} {xA1 : Option Addr} {xC1 : Nat} {l : Int} (xK : x.Ok) (xS1 : Sees w [.slice xA1 x.Bytes.length xC1] x.Bytes) (hl : -1 ≤ l ∧ l ≤ 1048576) : Ret Tryz.prog 340 #[x.val xA1 xC1, .int .i64 l] w fun v w' => Ext No w w' ∧ (v = .int .i64 (if l - szBlock x < 0 then -1 else l - szBlock x)) := by
 have xK2 := xK
 unfold Block.Ok at xK2
 try unfold I64ok at xK2
 try unfold maxLen at xK2
 have xL1 := sL xS1
 obtain ⟨xF1, xO1⟩ := xS1
 refine ret_Q (vs := [x.val xA1 xC1, .int .i64 l]) Tryz.func340 rfl Tryz.ntmps340 rfl (fun Q hQ hN => ?_)
 have H0 := Sep.start (w := w) (F := [seen false [.slice xA1 x.Bytes.length xC1] x.Bytes xF1]) (all_cons xO1 (by simp))
 refine W_sr (s_box (wn rfl) rfl rfl H0 (fun b1 w1 e1 g1 H1 => ?_))
 refine sA rfl rfl (s_nil (W_sr (sV rfl (py_field tu283 rfl ts45 rfl rfl) (sV rfl (py_load tu45 rfl rfl (cell_atL (H1.box 0 rfl) rfl)) (sM rfl rfl (s_call (wn rfl) rfl rfl (pc_call Tryz.func110 rfl Tryz_nm110 rfl) (Tryz_laws_szByteS (H1.sees 0 rfl) (by omega)) (fun v1 w2 r1 => ?_)))))))
 obtain ⟨e2, rfl⟩ := r1
 have H2 := H1.to e2
 refine sA rfl rfl (s_nil (W_seq (W_sr (sM rfl rfl (sV rfl (py_lss rfl rfl) (s_nil (W_ifd rfl (fun c1 => ?_) (fun c1 => ?_))))))))
 ·refine W_sr (sA rfl rfl (s_nil (rT hQ Tryz.results340 rfl ?_)))
  exact ⟨H2.ext, congrArg (Value.int .i64) (by unfold szBlock; omega)⟩
 ·refine W_skip (W_sr (sM rfl rfl (sA rfl rfl (s_nil (rT hQ Tryz.results340 rfl ?_)))))
  exact ⟨H2.ext, congrArg (Value.int .i64) (by unfold szBlock; omega)⟩
theorem Tryz_laws_toBlock {w : World} {x : Block} {xA1 : Option Addr} {xC1 : Nat} (xK : x.Ok) (xS1 : Sees w [.slice xA1 x.Bytes.length xC1] x.Bytes) (hb : szBlock x ≤ 1048576) : Ret Tryz.prog 341 #[x.val xA1 xC1] w fun v w' => Ext No w w' ∧ (∃ A1 C1, v = x.val A1 C1 ∧ Res w w' [.int .i64 x.Stamp, .slice A1 x.Bytes.length C1] x) := by
 have xK2 := xK
 unfold Block.Ok at xK2
 try unfold I64ok at xK2
 try unfold maxLen at xK2
 have xL1 := sL xS1
 obtain ⟨xF1, xO1⟩ := xS1
 unfold szBlock at hb
 refine ret_Q (vs := [x.val xA1 xC1]) Tryz.func341 rfl Tryz.ntmps341 rfl (fun Q hQ hN => ?_)
 have H0 := Sep.start (w := w) (F := [seen false [.slice xA1 x.Bytes.length xC1] x.Bytes xF1]) (all_cons xO1 (by simp))
 refine W_sr (s_box (wn rfl) rfl rfl H0 (fun b1 w1 e1 g1 H1 => ?_))
 refine s_var (wn rfl) rfl Tryz.zeroValue182 H1 (fun b2 w2 e2 g2 H2 => ?_)
 refine s_nil (W_sr (s_var (wn rfl) rfl Tryz.zeroValue182 H2 (fun b3 w3 e3 g3 H3 => ?_)))
 refine s_nil (W_sr (sV rfl (py_field tu283 rfl ts2 rfl rfl) (sV rfl (py_load tu2 rfl rfl (cell_atL (H3.box 0 rfl) rfl)) (sV rfl (py_field tu182 rfl ts2 rfl rfl) (s_sto (wn rfl) ts2 rfl rfl rfl H3 2 rfl rfl (fun w4 e4 H4 => ?_))))))
 dsimp only [lNA, lCA, lSZ, lSS, layL] at H4
 refine s_nil (W_sr (sV rfl (py_field tu283 rfl ts45 rfl rfl) (sV rfl (py_load tu45 rfl rfl (cell_atL (H4.box 0 rfl) rfl)) (s_call (wn rfl) rfl rfl (pc_call Tryz.func116 rfl Tryz_nm116 rfl) (Tryz_laws_toByteS (H4.sees 0 rfl) (by omega)) (fun v1 w5 r1 => ?_)))))
 obtain ⟨e5, r1⟩ := r1
 obtain ⟨fp1, H5⟩ := H4.res e5 r1
 obtain ⟨a1, k1, q1⟩ := own_slice (H5.mine 3 rfl)
 cases q1
 refine sV rfl (py_field tu182 rfl ts45 rfl rfl) (s_sto (wn rfl) ts45 rfl rfl rfl H5 2 rfl rfl (fun w6 e6 H6 => ?_))
 dsimp only [lNA, lCA, lSZ, lSS, layL] at H6
 refine s_nil (W_sr (sV rfl (py_loadS tu182 rfl ts182 rfl rfl (At.whole (H6.box 2 rfl))) (s_stoS (wn rfl) ts182 rfl rfl rfl rfl H6 1 rfl rfl (fun w7 e7 H7 => ?_))))
 dsimp only [lNA, lCA, lSZ, lSS, layL] at H7
 refine s_nil (W_ret (hQ _ _ (finC Tryz.results341 rfl (run_loadVarS tu182 rfl ts182 rfl (At.whole (H7.box 1 rfl))) ?_)))
 exact ⟨H7.ext, _, _, rfl, Block.out (H7.sub (.cons _ (.cons _ (.cons _ (.cons_cons _ List.Sublist.slnil))))) xK⟩
theorem Tryz_laws_eqBlock {w : World} {a : Block} {aA1 : Option Addr} {aC1 : Nat} {b : Block} {bA1 : Option Addr} {bC1 : Nat} (aK : a.Ok) (aS1 : Sees w [.slice aA1 a.Bytes.length aC1] a.Bytes) (bK : b.Ok) (bS1 : Sees w [.slice bA1 b.Bytes.length bC1] b.Bytes) : Ret Tryz.prog 342 #[a.val aA1 aC1, b.val bA1 bC1] w fun v w' => Ext No w w' ∧ (v = .bool (decide (a = b))) := by
 have aK2 := aK
 unfold Block.Ok at aK2
 try unfold I64ok at aK2
 try unfold maxLen at aK2
 have aL1 := sL aS1
 obtain ⟨aF1, aO1⟩ := aS1
 have bK2 := bK
 unfold Block.Ok at bK2
 try unfold I64ok at bK2
 try unfold maxLen at bK2
 have bL1 := sL bS1
 obtain ⟨bF1, bO1⟩ := bS1
 refine ret_Q (vs := [a.val aA1 aC1, b.val bA1 bC1]) Tryz.func342 rfl Tryz.ntmps342 rfl (fun Q hQ hN => ?_)
 have H0 := Sep.start (w := w) (F := [seen false [.slice aA1 a.Bytes.length aC1] a.Bytes aF1, seen false [.slice bA1 b.Bytes.length bC1] b.Bytes bF1]) (all_cons aO1 (all_cons bO1 (by simp)))
 refine W_sr (s_box (wn rfl) rfl rfl H0 (fun b1 w1 e1 g1 H1 => ?_))
 refine s_box (wn rfl) rfl rfl H1 (fun b2 w2 e2 g2 H2 => ?_)
 refine sA rfl rfl (s_nil (W_seq (W_sr (sV rfl (py_field tu182 rfl ts2 rfl rfl) (sV rfl (py_load tu2 rfl rfl (cell_atL (H2.box 0 rfl) rfl)) (sV rfl (py_field tu182 rfl ts2 rfl rfl) (sV rfl (py_load tu2 rfl rfl (cell_atL (H2.box 1 rfl) rfl)) (sV rfl (py_neq rfl rfl) (s_nil (W_ifd rfl (fun c1 => ?_) (fun c1 => ?_)))))))))))
 ·refine W_sr (sA rfl rfl (s_nil (rT hQ Tryz.results342 rfl (⟨H2.ext, ?_⟩))))
  rw [decide_eq_false (fun e => by subst e; first | exact c1 rfl | simp at c1)]
 ·refine W_skip (W_seq (W_sr (sV rfl (py_field tu182 rfl ts45 rfl rfl) (sV rfl (py_load tu45 rfl rfl (cell_atL (H2.box 0 rfl) rfl)) (sV rfl (py_field tu182 rfl ts45 rfl rfl) (sV rfl (py_load tu45 rfl rfl (cell_atL (H2.box 1 rfl) rfl)) (s_call (wn rfl) rfl rfl (pc_call Tryz.func87 rfl Tryz_nm87 rfl) (Tryz_laws_eqByteS (H2.sees 0 rfl) (H2.sees 1 rfl)) (fun v1 w3 r1 => ?_))))))))
  obtain ⟨e3, rfl⟩ := r1
  have H3 := H2.to e3
  refine sV rfl (py_not rfl) (s_nil (W_if rfl (fun c2 => ?_) (fun c2 => ?_)))
  ·refine W_sr (sA rfl rfl (s_nil (rT hQ Tryz.results342 rfl (⟨H3.ext, ?_⟩))))
   rw [decide_eq_false (fun e => by subst e; first | exact c2 rfl | simp at c2)]
  ·refine W_skip (W_sr (sA rfl rfl (s_nil (rT hQ Tryz.results342 rfl (⟨H3.ext, ?_⟩)))))
   rw [decide_eq_true]
   cases a; cases b; simp_all [str_beq]
theorem Tryz_laws_szBlockS {w : World} {xs : List Block} {xsA : Option Addr} {xsC : Nat} {l : Int} (xsS : Sees w [.slice xsA xs.length xsC] xs) (hl : -1 ≤ l ∧ l ≤ 1048576) : Ret Tryz.prog 305 #[.slice xsA xs.length xsC, .int .i64 l] w fun v w' => Ext No w w' ∧ (v = .int .i64 (if l - szL szBlock xs < 0 then -1 else l - szL szBlock xs)) := by
 have xsL := sL xsS
 obtain ⟨xsF, xsO⟩ := xsS
 refine ret_Q (vs := [.slice xsA xs.length xsC, .int .i64 l]) Tryz.func305 rfl Tryz.ntmps305 rfl (fun Q hQ hN => ?_)
 have H0 := Sep.start (w := w) (F := [seen false [.slice xsA xs.length xsC] xs xsF]) (all_cons xsO (by simp))
 refine W_sr (sA rfl rfl (s_nil (W_sr (sM rfl rfl (sM rfl rfl (sV rfl (py_len tu208 rfl) (sV rfl (py_sub rfl rfl (in64 ⟨by omega, by omega⟩)) (sA rfl rfl (s_nil (W_seq (W_sr (sM rfl rfl (sV rfl (py_lss rfl rfl) (s_nil (W_ifd rfl (fun c1 => ?_) (fun c1 => ?_))))))))))))))))
 ·refine W_sr (sA rfl rfl (s_nil (rT hQ Tryz.results305 rfl ?_)))
  exact ⟨H0.ext, by rw [if_pos (by rw [szL_eq (f := szBlock)]; omega)]⟩
 ·refine W_skip (W_seq (W_sr (sA rfl rfl (s_nil (W_block (W_loop (γ := Nat × Int) (fun (k, m) => [(0, .slice xsA xs.length xsC), (1, .int .i64 m), (5, .int .i64 k)]) (fun (k, m) w' => Sep No w [] [seen false [.slice xsA xs.length xsC] xs xsF] w' ∧ k ≤ xs.length ∧ 0 ≤ m ∧ m = l - xs.length - sumN (fun i => szBlock (xs.getD i default)) k) (fun (k, m) => xs.length - k) (0, _) ⟨rfl, rfl, rfl, trivial⟩ ⟨H0, by omega, by omega, by simp only [sumN]; omega⟩ (fun (k, m) w1 H1 => ?_)))))))
  obtain ⟨H1, hk, hm, hs⟩ := H1
  refine W_seq (W_sr (sM rfl rfl (sM rfl rfl (sV rfl (py_len tu208 rfl) (sV rfl (py_lss rfl rfl) (s_nil (W_ifd rfl (fun c2 => ?_) (fun c2 => ?_))))))))
  ·refine W_skip (W_seq (W_block (W_seq ?_)))
   obtain ⟨eb1, eo1, es1, ef1, ee1, ec1, eO1, eH1, em1⟩ := elem_st (H1.seen 0 rfl) k (by omega)
   obtain ⟨ea1, ek1, eg1, rfl, eq1, eK1, eo2⟩ := own_Block eO1
   have eK1U := eK1
   unfold Block.Ok at eK1U
   try unfold I64ok at eK1U
   try unfold maxLen at eK1U
   have eP1 := H1.look1 0 rfl eo2 (fun b hb => eH1 b (by rw [eq1]; simp [hb]))
   have eL1 := oL eo2
   refine W_reg (sM rfl rfl (sM rfl rfl (sV rfl (py_elz tu208 ts283 rfl rfl ee1 k (by omega) (by omega)) (sV rfl (py_loadS tu283 rfl ts283 rfl rfl ec1) (sM rfl rfl (s_call (wn rfl) rfl rfl (pc_call Tryz.func340 rfl Tryz_nm340 rfl) (Tryz_laws_szBlock (by assumption) (eP1.sees 1 rfl) (by omega)) (fun v1 w2 r1 => ?_)))))))
   obtain ⟨e1, rfl⟩ := r1
   have H2 := eP1.to e1
   refine sA rfl rfl (s_nil (W_sr (sM rfl rfl (sV rfl (py_lss rfl rfl) (s_nil (W_ifd rfl (fun c3 => ?_) (fun c3 => ?_)))))))
   ·refine W_sr (sA rfl rfl (s_nil (rT hQ Tryz.results305 rfl ?_)))
    have sg : sumN (fun i => szBlock (xs.getD i default)) (k + 1) = sumN (fun i => szBlock (xs.getD i default)) k + szBlock (xs.getD k default) := rfl
    have sl := sumN_le (f := (fun i => szBlock (xs.getD i default))) (j := k + 1) (k := xs.length) (by omega)
    exact ⟨H2.ext, by rw [if_pos (by rw [szL_eq (f := szBlock)]; omega)]⟩
   ·refine W_skip (W_reg (sM rfl rfl (sV rfl (py_add rfl rfl (in64 ⟨by omega, by omega⟩)) (sA rfl rfl (s_nil ?_)))))
    have sg : sumN (fun i => szBlock (xs.getD i default)) (k + 1) = sumN (fun i => szBlock (xs.getD i default)) k + szBlock (xs.getD k default) := rfl
    refine ⟨(k + 1, _), ⟨rfl, rfl, rfl, trivial⟩, ⟨(H2.ftake 1), by omega, by omega, by omega⟩, by dsimp only; omega⟩
  ·refine W_exit (W_sr (sM rfl rfl (sA rfl rfl (s_nil (rT hQ Tryz.results305 rfl ?_)))))
   obtain rfl : k = xs.length := by omega
   exact ⟨H1.ext, congrArg (Value.int .i64) (by rw [szL_eq (f := szBlock)]; omega)⟩
theorem Tryz_laws_toBlockS {w : World} {xs : List Block} {xsA : Option Addr} {xsC : Nat} (xsS : Sees w [.slice xsA xs.length xsC] xs) (hl : szL szBlock xs ≤ 1048576) : Ret Tryz.prog 307 #[.slice xsA xs.length xsC] w fun v w' => Ext No w w' ∧ (Res w w' [v] xs) := by
 have xsL := sL xsS
 obtain ⟨xsF, xsO⟩ := xsS
 have hl0 : xs.length ≤ 1048576 := by unfold szL at hl; omega
 refine ret_Q (vs := [.slice xsA xs.length xsC]) Tryz.func307 rfl Tryz.ntmps307 rfl (fun Q hQ hN => ?_)
 have H0 := Sep.start (w := w) (F := [seen false [.slice xsA xs.length xsC] xs xsF]) (all_cons xsO (by simp))
 refine W_sr (sA rfl rfl (s_nil (W_sr (sM rfl rfl (sV rfl (py_len tu208 rfl) (s_make (wn rfl) rfl tu178 Tryz_ty182 (show ∀ w, own true w (Value.agg #[.int .i64 0, .slice none 0 0]).cells.toList (default : Block) [] from fun _ => own_zBlock) rfl (by omega) (by unfold maxLen; omega) H0 (fun b1 w1 e1 g1 H1 => ?_)))))))
 refine sA rfl rfl (s_nil (W_seq (W_sr (sA rfl rfl (s_nil (W_block (W_loop (γ := Nat × List Nat) (fun (k, fp) => [(0, .slice xsA xs.length xsC), (3, .slice (some ⟨b1, 0, none⟩) xs.length xs.length), (4, .int .i64 k)]) (fun (k, fp) w' => Sep No w [mine [.slice (some ⟨b1, 0, none⟩) xs.length xs.length] (cp xs k default) fp] [seen false [.slice xsA xs.length xsC] xs xsF] w' ∧ k ≤ xs.length) (fun (k, fp) => xs.length - k) (0, [b1]) ⟨rfl, rfl, rfl, trivial⟩ ⟨cp_zero ▸ H1, by omega⟩ (fun (k, fp) w2 H2 => ?_))))))))
 obtain ⟨H2, hk⟩ := H2
 refine W_seq (W_sr (sM rfl rfl (sM rfl rfl (sV rfl (py_len tu208 rfl) (sV rfl (py_lss rfl rfl) (s_nil (W_ifd rfl (fun c1 => ?_) (fun c1 => ?_))))))))
 ·refine W_skip (W_seq (W_block ?_))
  obtain ⟨hg, hg2⟩ := szL_get hl k (by omega)
  obtain ⟨eb1, eo1, es1, ef1, ee1, ec1, eO1, eH1, em1⟩ := elem_st (H2.seen 0 rfl) k (by omega)
  obtain ⟨ea1, ek1, eg1, rfl, eq1, eK1, eo2⟩ := own_Block eO1
  have eK1U := eK1
  unfold Block.Ok at eK1U
  try unfold I64ok at eK1U
  try unfold maxLen at eK1U
  have eP1 := H2.look1 0 rfl eo2 (fun b hb => eH1 b (by rw [eq1]; simp [hb]))
  have eL1 := oL eo2
  obtain ⟨eb2, eo3, ee2⟩ := own_addr (eP1.mine 0 rfl) k (by rw [cp_len (xs := xs) (k := k) (by omega)]; omega)
  refine W_reg (sM rfl rfl (sM rfl rfl (sM rfl rfl (sM rfl rfl (sV rfl (py_elz tu208 ts283 rfl rfl ee1 k (by omega) (by omega)) (sV rfl (py_loadS tu283 rfl ts283 rfl rfl ec1) (s_call (wn rfl) rfl rfl (pc_call Tryz.func341 rfl Tryz_nm341 rfl) (Tryz_laws_toBlock (by assumption) (eP1.sees 1 rfl) (by assumption)) (fun v1 w3 r1 => ?_))))))))
  obtain ⟨e2, sa1, sk1, rfl, r1⟩ := r1
  obtain ⟨fp1, H3⟩ := eP1.res e2 r1
  refine sV rfl (py_elz tu178 ts182 rfl rfl ee2 k (by omega) (by omega)) (s_elst2S (wn rfl) ts182 H3 0 1 rfl rfl rfl k (by rw [cp_len (xs := xs) (k := k) (by omega)]; omega) rfl ee2 rfl (fun w4 fp2 H4 => ?_))
  refine s_nil ?_
  obtain ⟨hg, hg2⟩ := szL_get hl k (by omega)
  refine W_reg (sM rfl rfl (sV rfl (py_add rfl rfl (in64 ⟨by omega, by omega⟩)) (sA rfl rfl (s_nil (⟨(k + 1, _), ⟨rfl, rfl, rfl, trivial⟩, ⟨cp_set (xs := xs) (k := k) (d := default) (by omega) ▸ ((H4.ftake 1).dtake 1), by omega⟩, by dsimp only; omega⟩)))))
 ·refine W_exit (W_sr (sM rfl rfl (sA rfl rfl (s_nil (rT hQ Tryz.results307 rfl ?_)))))
  obtain rfl : k = xs.length := by omega
  exact ⟨H2.ext, by
   have h := H2.out 0 rfl
   rwa [cp_all] at h⟩
theorem Tryz_laws_eqBlockS {w : World} {xs : List Block} {xsA : Option Addr} {xsC : Nat} {ys : List Block} {ysA : Option Addr} {ysC : Nat} (xsS : Sees w [.slice xsA xs.length xsC] xs) (ysS : Sees w [.slice ysA ys.length ysC] ys) : Ret Tryz.prog 311 #[.slice xsA xs.length xsC, .slice ysA ys.length ysC] w fun v w' => Ext No w w' ∧ (v = .bool (decide (xs = ys))) := by
 have xsL := sL xsS
 obtain ⟨xsF, xsO⟩ := xsS
 have ysL := sL ysS
 obtain ⟨ysF, ysO⟩ := ysS
 refine ret_Q (vs := [.slice xsA xs.length xsC, .slice ysA ys.length ysC]) Tryz.func311 rfl Tryz.ntmps311 rfl (fun Q hQ hN => ?_)
 have H0 := Sep.start (w := w) (F := [seen false [.slice xsA xs.length xsC] xs xsF, seen false [.slice ysA ys.length ysC] ys ysF]) (all_cons xsO (all_cons ysO (by simp)))
 refine W_sr (sA rfl rfl (s_nil (W_seq (W_sr (sM rfl rfl (sV rfl (py_len tu178 rfl) (sM rfl rfl (sV rfl (py_len tu178 rfl) (sV rfl (py_neq rfl rfl) (s_nil (W_ifd rfl (fun c1 => ?_) (fun c1 => ?_))))))))))))
 ·refine W_sr (sA rfl rfl (s_nil (rT hQ Tryz.results311 rfl (⟨H0.ext, ?_⟩))))
  rw [decide_eq_false (fun e => by subst e; exact c1 rfl)]
 ·refine W_skip (W_seq (W_sr (sA rfl rfl (s_nil (W_block (W_loop (γ := Nat) (fun k => [(0, .slice xsA xs.length xsC), (1, .slice ysA ys.length ysC), (5, .int .i64 k)]) (fun k w' => Sep No w [] [seen false [.slice xsA xs.length xsC] xs xsF, seen false [.slice ysA ys.length ysC] ys ysF] w' ∧ k ≤ xs.length ∧ (∀ i, i < k → xs.getD i default = ys.getD i default)) (fun k => xs.length - k) 0 ⟨rfl, rfl, rfl, trivial⟩ ⟨H0, by omega, fun i hi => by omega⟩ (fun k w1 H1 => ?_)))))))
  obtain ⟨H1, hk, he⟩ := H1
  refine W_seq (W_sr (sM rfl rfl (sM rfl rfl (sV rfl (py_len tu178 rfl) (sV rfl (py_lss rfl rfl) (s_nil (W_ifd rfl (fun c2 => ?_) (fun c2 => ?_))))))))
  ·refine W_skip (W_seq (W_block (W_seq ?_)))
   obtain ⟨eb1, eo1, es1, ef1, ee1, ec1, eO1, eH1, em1⟩ := elem_st (H1.seen 0 rfl) k (by omega)
   obtain ⟨ea1, ek1, eg1, rfl, eq1, eK1, eo2⟩ := own_Block eO1
   have eK1U := eK1
   unfold Block.Ok at eK1U
   try unfold I64ok at eK1U
   try unfold maxLen at eK1U
   have eP1 := H1.look1 0 rfl eo2 (fun b hb => eH1 b (by rw [eq1]; simp [hb]))
   have eL1 := oL eo2
   obtain ⟨eb2, eo3, es2, ef2, ee2, ec2, eO2, eH2, em2⟩ := elem_st (eP1.seen 1 rfl) k (by omega)
   obtain ⟨ea2, ek2, eg2, rfl, eq2, eK2, eo4⟩ := own_Block eO2
   have eK2U := eK2
   unfold Block.Ok at eK2U
   try unfold I64ok at eK2U
   try unfold maxLen at eK2U
   have eP2 := eP1.look1 1 rfl eo4 (fun b hb => eH2 b (by rw [eq2]; simp [hb]))
   have eL2 := oL eo4
   refine W_drw (S := Ext No _) [(0, true), (1, true), (2, true), (3, true), (4, true), (5, true), (6, true), (7, true), (8, false), (9, false)] (by kernel_rfl) (by kernel_rfl) (by kernel_rfl) rfl (fun _ => Ext.refl.drawn _) (fun q1 => ?_)
   have H2 := eP2.drawn q1
   refine dM rfl rfl rfl (dM rfl rfl rfl (dV rfl rfl (fun zw hx => py_elz tu178 ts182 rfl rfl ee1 k (by omega) (by omega)) (dV rfl rfl (fun zw hx => py_loadS tu182 rfl ts182 rfl rfl (hx.at ec1)) (dM rfl rfl rfl (dM rfl rfl rfl (dV rfl rfl (fun zw hx => py_elz tu178 ts182 rfl rfl ee2 k (by omega) (by omega)) (dV rfl rfl (fun zw hx => py_loadS tu182 rfl ts182 rfl rfl (hx.at ec2)) (d_call rfl (wn rfl) rfl rfl (pc_call Tryz.func342 rfl Tryz_nm342 rfl) (Tryz_laws_eqBlock (by assumption) (H2.sees 2 rfl) (by assumption) (H2.sees 3 rfl)) (fun hS _ _ r _ => hS.trans r.1.no) (fun v1 w2 r1 => ?_)))))))))
   obtain ⟨e1, rfl⟩ := r1
   have H3 := H2.to e1
   refine d_end rfl (wn rfl) rfl rfl (py_not rfl) (d_nil (W_if rfl (fun c3 => ?_) (fun c3 => ?_)))
   ·refine W_sr (sA rfl rfl (s_nil (rT hQ Tryz.results311 rfl (⟨H3.ext, ?_⟩))))
    rw [decide_eq_false (fun e => by subst e; simp at c3)]
   ·refine W_skip (W_reg (sM rfl rfl (sV rfl (py_add rfl rfl (in64 ⟨by omega, by omega⟩)) (sA rfl rfl (s_nil ?_)))))
    have c4 : xs.getD k default = ys.getD k default := by simpa using c3
    refine ⟨k + 1, ⟨rfl, rfl, rfl, trivial⟩, ⟨(H3.ftake 2), by omega, fun i hi => ?_⟩, by dsimp only; omega⟩
    by_cases e : i = k
    ·subst e; exact c4
    ·exact he i (by omega)
  ·refine W_exit (W_sr (sA rfl rfl (s_nil (rT hQ Tryz.results311 rfl (⟨H1.ext, ?_⟩)))))
   rw [decide_eq_true (getD_ext (d := default) (by omega) fun i hi => he i (by omega))]
theorem Tryz_laws_szDrive {w : World} {x : Drive} {xA1 : Option Addr} {xC1 : Nat} {l : Int} (xK : x.Ok) (xS1 : Sees w [.slice xA1 x.Blocks.length xC1] x.Blocks) (hl : -1 ≤ l ∧ l ≤ 1048576) : Ret Tryz.prog 230 #[x.val xA1 xC1, .int .i64 l] w fun v w' => Ext No w w' ∧ (v = .int .i64 (if l - szDrive x < 0 then -1 else l - szDrive x)) := by
 have xK2 := xK
 unfold Drive.Ok at xK2
 try unfold I64ok at xK2
 try unfold maxLen at xK2
 have xL1 := sL xS1
 obtain ⟨xF1, xO1⟩ := xS1
 refine ret_Q (vs := [x.val xA1 xC1, .int .i64 l]) Tryz.func230 rfl Tryz.ntmps230 rfl (fun Q hQ hN => ?_)
 have H0 := Sep.start (w := w) (F := [seen false [.slice xA1 x.Blocks.length xC1] x.Blocks xF1]) (all_cons xO1 (by simp))
 refine W_sr (s_box (wn rfl) rfl rfl H0 (fun b1 w1 e1 g1 H1 => ?_))
 refine sA rfl rfl (s_nil (W_sr (sV rfl (py_field tu210 rfl ts208 rfl rfl) (sV rfl (py_load tu208 rfl rfl (cell_atL (H1.box 0 rfl) rfl)) (sM rfl rfl (s_call (wn rfl) rfl rfl (pc_call Tryz.func305 rfl Tryz_nm305 rfl) (Tryz_laws_szBlockS (H1.sees 0 rfl) (by omega)) (fun v1 w2 r1 => ?_)))))))
 obtain ⟨e2, rfl⟩ := r1
 have H2 := H1.to e2
 refine sA rfl rfl (s_nil (W_seq (W_sr (sM rfl rfl (sV rfl (py_lss rfl rfl) (s_nil (W_ifd rfl (fun c1 => ?_) (fun c1 => ?_))))))))
 ·refine W_sr (sA rfl rfl (s_nil (rT hQ Tryz.results230 rfl ?_)))
  exact ⟨H2.ext, congrArg (Value.int .i64) (by unfold szDrive; omega)⟩
 ·refine W_skip (W_sr (sM rfl rfl (sA rfl rfl (s_nil (rT hQ Tryz.results230 rfl ?_)))))
  exact ⟨H2.ext, congrArg (Value.int .i64) (by unfold szDrive; omega)⟩
theorem Tryz_laws_toDrive {w : World} {x : Drive} {xA1 : Option Addr} {xC1 : Nat} (xK : x.Ok) (xS1 : Sees w [.slice xA1 x.Blocks.length xC1] x.Blocks) (hb : szDrive x ≤ 1048576) : Ret Tryz.prog 235 #[x.val xA1 xC1] w fun v w' => Ext No w w' ∧ (∃ A1 C1, v = x.val A1 C1 ∧ Res w w' [.bool x.Wiped, .slice A1 x.Blocks.length C1] x) := by
 have xK2 := xK
 unfold Drive.Ok at xK2
 try unfold I64ok at xK2
 try unfold maxLen at xK2
 have xL1 := sL xS1
 obtain ⟨xF1, xO1⟩ := xS1
 unfold szDrive at hb
 refine ret_Q (vs := [x.val xA1 xC1]) Tryz.func235 rfl Tryz.ntmps235 rfl (fun Q hQ hN => ?_)
 have H0 := Sep.start (w := w) (F := [seen false [.slice xA1 x.Blocks.length xC1] x.Blocks xF1]) (all_cons xO1 (by simp))
 refine W_sr (s_box (wn rfl) rfl rfl H0 (fun b1 w1 e1 g1 H1 => ?_))
 refine s_var (wn rfl) rfl Tryz.zeroValue180 H1 (fun b2 w2 e2 g2 H2 => ?_)
 refine s_nil (W_sr (s_var (wn rfl) rfl Tryz.zeroValue180 H2 (fun b3 w3 e3 g3 H3 => ?_)))
 refine s_nil (W_sr (sV rfl (py_field tu210 rfl ts4 rfl rfl) (sV rfl (py_load tu4 rfl rfl (cell_atL (H3.box 0 rfl) rfl)) (sV rfl (py_field tu180 rfl ts4 rfl rfl) (s_sto (wn rfl) ts4 rfl rfl rfl H3 2 rfl rfl (fun w4 e4 H4 => ?_))))))
 dsimp only [lNA, lCA, lSZ, lSS, layL] at H4
 refine s_nil (W_sr (sV rfl (py_field tu210 rfl ts208 rfl rfl) (sV rfl (py_load tu208 rfl rfl (cell_atL (H4.box 0 rfl) rfl)) (s_call (wn rfl) rfl rfl (pc_call Tryz.func307 rfl Tryz_nm307 rfl) (Tryz_laws_toBlockS (H4.sees 0 rfl) (by first | assumption | omega)) (fun v1 w5 r1 => ?_)))))
 obtain ⟨e5, r1⟩ := r1
 obtain ⟨fp1, H5⟩ := H4.res e5 r1
 obtain ⟨a1, k1, q1⟩ := own_slice (H5.mine 3 rfl)
 cases q1
 refine sV rfl (py_field tu180 rfl ts178 rfl rfl) (s_sto (wn rfl) ts178 rfl rfl rfl H5 2 rfl rfl (fun w6 e6 H6 => ?_))
 dsimp only [lNA, lCA, lSZ, lSS, layL] at H6
 refine s_nil (W_sr (sV rfl (py_loadS tu180 rfl ts180 rfl rfl (At.whole (H6.box 2 rfl))) (s_stoS (wn rfl) ts180 rfl rfl rfl rfl H6 1 rfl rfl (fun w7 e7 H7 => ?_))))
 dsimp only [lNA, lCA, lSZ, lSS, layL] at H7
 refine s_nil (W_ret (hQ _ _ (finC Tryz.results235 rfl (run_loadVarS tu180 rfl ts180 rfl (At.whole (H7.box 1 rfl))) ?_)))
 exact ⟨H7.ext, _, _, rfl, Drive.out (H7.sub (.cons _ (.cons _ (.cons _ (.cons_cons _ List.Sublist.slnil))))) xK⟩
theorem Tryz_laws_eqDrive {w : World} {a : Drive} {aA1 : Option Addr} {aC1 : Nat} {b : Drive} {bA1 : Option Addr} {bC1 : Nat} (aK : a.Ok) (aS1 : Sees w [.slice aA1 a.Blocks.length aC1] a.Blocks) (bK : b.Ok) (bS1 : Sees w [.slice bA1 b.Blocks.length bC1] b.Blocks) : Ret Tryz.prog 252 #[a.val aA1 aC1, b.val bA1 bC1] w fun v w' => Ext No w w' ∧ (v = .bool (decide (a = b))) := by
 have aK2 := aK
 unfold Drive.Ok at aK2
 try unfold I64ok at aK2
 try unfold maxLen at aK2
 have aL1 := sL aS1
 obtain ⟨aF1, aO1⟩ := aS1
 have bK2 := bK
 unfold Drive.Ok at bK2
 try unfold I64ok at bK2
 try unfold maxLen at bK2
 have bL1 := sL bS1
 obtain ⟨bF1, bO1⟩ := bS1
 refine ret_Q (vs := [a.val aA1 aC1, b.val bA1 bC1]) Tryz.func252 rfl Tryz.ntmps252 rfl (fun Q hQ hN => ?_)
 have H0 := Sep.start (w := w) (F := [seen false [.slice aA1 a.Blocks.length aC1] a.Blocks aF1, seen false [.slice bA1 b.Blocks.length bC1] b.Blocks bF1]) (all_cons aO1 (all_cons bO1 (by simp)))
 refine W_sr (s_box (wn rfl) rfl rfl H0 (fun b1 w1 e1 g1 H1 => ?_))
 refine s_box (wn rfl) rfl rfl H1 (fun b2 w2 e2 g2 H2 => ?_)
 refine sA rfl rfl (s_nil (W_seq (W_sr (sV rfl (py_field tu180 rfl ts4 rfl rfl) (sV rfl (py_load tu4 rfl rfl (cell_atL (H2.box 0 rfl) rfl)) (sV rfl (py_field tu180 rfl ts4 rfl rfl) (sV rfl (py_load tu4 rfl rfl (cell_atL (H2.box 1 rfl) rfl)) (sV rfl (py_bneq tu4 rfl rfl) (s_nil (W_if rfl (fun c1 => ?_) (fun c1 => ?_)))))))))))
 ·refine W_sr (sA rfl rfl (s_nil (rT hQ Tryz.results252 rfl (⟨H2.ext, ?_⟩))))
  rw [decide_eq_false (fun e => by subst e; first | exact c1 rfl | simp at c1)]
 ·refine W_skip (W_seq (W_sr (sV rfl (py_field tu180 rfl ts178 rfl rfl) (sV rfl (py_load tu178 rfl rfl (cell_atL (H2.box 0 rfl) rfl)) (sV rfl (py_field tu180 rfl ts178 rfl rfl) (sV rfl (py_load tu178 rfl rfl (cell_atL (H2.box 1 rfl) rfl)) (s_call (wn rfl) rfl rfl (pc_call Tryz.func311 rfl Tryz_nm311 rfl) (Tryz_laws_eqBlockS (H2.sees 0 rfl) (H2.sees 1 rfl)) (fun v1 w3 r1 => ?_))))))))
  obtain ⟨e3, rfl⟩ := r1
  have H3 := H2.to e3
  refine sV rfl (py_not rfl) (s_nil (W_if rfl (fun c2 => ?_) (fun c2 => ?_)))
  ·refine W_sr (sA rfl rfl (s_nil (rT hQ Tryz.results252 rfl (⟨H3.ext, ?_⟩))))
   rw [decide_eq_false (fun e => by subst e; first | exact c2 rfl | simp at c2)]
  ·refine W_skip (W_sr (sA rfl rfl (s_nil (rT hQ Tryz.results252 rfl (⟨H3.ext, ?_⟩)))))
   rw [decide_eq_true]
   cases a; cases b; simp_all [str_beq]
theorem Tryz_laws_szDriveS {w : World} {xs : List Drive} {xsA : Option Addr} {xsC : Nat} {l : Int} (xsS : Sees w [.slice xsA xs.length xsC] xs) (hl : -1 ≤ l ∧ l ≤ 1048576) : Ret Tryz.prog 135 #[.slice xsA xs.length xsC, .int .i64 l] w fun v w' => Ext No w w' ∧ (v = .int .i64 (if l - szL szDrive xs < 0 then -1 else l - szL szDrive xs)) := by
 have xsL := sL xsS
 obtain ⟨xsF, xsO⟩ := xsS
 refine ret_Q (vs := [.slice xsA xs.length xsC, .int .i64 l]) Tryz.func135 rfl Tryz.ntmps135 rfl (fun Q hQ hN => ?_)
 have H0 := Sep.start (w := w) (F := [seen false [.slice xsA xs.length xsC] xs xsF]) (all_cons xsO (by simp))
 refine W_sr (sA rfl rfl (s_nil (W_sr (sM rfl rfl (sM rfl rfl (sV rfl (py_len tu132 rfl) (sV rfl (py_sub rfl rfl (in64 ⟨by omega, by omega⟩)) (sA rfl rfl (s_nil (W_seq (W_sr (sM rfl rfl (sV rfl (py_lss rfl rfl) (s_nil (W_ifd rfl (fun c1 => ?_) (fun c1 => ?_))))))))))))))))
 ·refine W_sr (sA rfl rfl (s_nil (rT hQ Tryz.results135 rfl ?_)))
  exact ⟨H0.ext, by rw [if_pos (by rw [szL_eq (f := szDrive)]; omega)]⟩
 ·refine W_skip (W_seq (W_sr (sA rfl rfl (s_nil (W_block (W_loop (γ := Nat × Int) (fun (k, m) => [(0, .slice xsA xs.length xsC), (1, .int .i64 m), (5, .int .i64 k)]) (fun (k, m) w' => Sep No w [] [seen false [.slice xsA xs.length xsC] xs xsF] w' ∧ k ≤ xs.length ∧ 0 ≤ m ∧ m = l - xs.length - sumN (fun i => szDrive (xs.getD i default)) k) (fun (k, m) => xs.length - k) (0, _) ⟨rfl, rfl, rfl, trivial⟩ ⟨H0, by omega, by omega, by simp only [sumN]; omega⟩ (fun (k, m) w1 H1 => ?_)))))))
  obtain ⟨H1, hk, hm, hs⟩ := H1
  refine W_seq (W_sr (sM rfl rfl (sM rfl rfl (sV rfl (py_len tu132 rfl) (sV rfl (py_lss rfl rfl) (s_nil (W_ifd rfl (fun c2 => ?_) (fun c2 => ?_))))))))
  ·refine W_skip (W_seq (W_block (W_seq ?_)))
   obtain ⟨eb1, eo1, es1, ef1, ee1, ec1, eO1, eH1, em1⟩ := elem_st (H1.seen 0 rfl) k (by omega)
   obtain ⟨ea1, ek1, eg1, rfl, eq1, eK1, eo2⟩ := own_Drive eO1
   have eP1 := H1.look1 0 rfl eo2 (fun b hb => eH1 b (by rw [eq1]; simp [hb]))
   have eL1 := oL eo2
   refine W_reg (sM rfl rfl (sM rfl rfl (sV rfl (py_elz tu132 ts210 rfl rfl ee1 k (by omega) (by omega)) (sV rfl (py_loadS tu210 rfl ts210 rfl rfl ec1) (sM rfl rfl (s_call (wn rfl) rfl rfl (pc_call Tryz.func230 rfl Tryz_nm230 rfl) (Tryz_laws_szDrive (by assumption) (eP1.sees 1 rfl) (by omega)) (fun v1 w2 r1 => ?_)))))))
   obtain ⟨e1, rfl⟩ := r1
   have H2 := eP1.to e1
   refine sA rfl rfl (s_nil (W_sr (sM rfl rfl (sV rfl (py_lss rfl rfl) (s_nil (W_ifd rfl (fun c3 => ?_) (fun c3 => ?_)))))))
   ·refine W_sr (sA rfl rfl (s_nil (rT hQ Tryz.results135 rfl ?_)))
    have sg : sumN (fun i => szDrive (xs.getD i default)) (k + 1) = sumN (fun i => szDrive (xs.getD i default)) k + szDrive (xs.getD k default) := rfl
    have sl := sumN_le (f := (fun i => szDrive (xs.getD i default))) (j := k + 1) (k := xs.length) (by omega)
    exact ⟨H2.ext, by rw [if_pos (by rw [szL_eq (f := szDrive)]; omega)]⟩
   ·refine W_skip (W_reg (sM rfl rfl (sV rfl (py_add rfl rfl (in64 ⟨by omega, by omega⟩)) (sA rfl rfl (s_nil ?_)))))
    have sg : sumN (fun i => szDrive (xs.getD i default)) (k + 1) = sumN (fun i => szDrive (xs.getD i default)) k + szDrive (xs.getD k default) := rfl
    refine ⟨(k + 1, _), ⟨rfl, rfl, rfl, trivial⟩, ⟨(H2.ftake 1), by omega, by omega, by omega⟩, by dsimp only; omega⟩
  ·refine W_exit (W_sr (sM rfl rfl (sA rfl rfl (s_nil (rT hQ Tryz.results135 rfl ?_)))))
   obtain rfl : k = xs.length := by omega
   exact ⟨H1.ext, congrArg (Value.int .i64) (by rw [szL_eq (f := szDrive)]; omega)⟩
theorem Tryz_laws_toDriveS {w : World} {xs : List Drive} {xsA : Option Addr} {xsC : Nat} (xsS : Sees w [.slice xsA xs.length xsC] xs) (hl : szL szDrive xs ≤ 1048576) : Ret Tryz.prog 141 #[.slice xsA xs.length xsC] w fun v w' => Ext No w w' ∧ (Res w w' [v] xs) := by
 have xsL := sL xsS
 obtain ⟨xsF, xsO⟩ := xsS
 have hl0 : xs.length ≤ 1048576 := by unfold szL at hl; omega
 refine ret_Q (vs := [.slice xsA xs.length xsC]) Tryz.func141 rfl Tryz.ntmps141 rfl (fun Q hQ hN => ?_)
 have H0 := Sep.start (w := w) (F := [seen false [.slice xsA xs.length xsC] xs xsF]) (all_cons xsO (by simp))
 refine W_sr (sA rfl rfl (s_nil (W_sr (sM rfl rfl (sV rfl (py_len tu132 rfl) (s_make (wn rfl) rfl tu142 Tryz_ty180 (show ∀ w, own true w (Value.agg #[.bool false, .slice none 0 0]).cells.toList (default : Drive) [] from fun _ => own_zDrive) rfl (by omega) (by unfold maxLen; omega) H0 (fun b1 w1 e1 g1 H1 => ?_)))))))
 refine sA rfl rfl (s_nil (W_seq (W_sr (sA rfl rfl (s_nil (W_block (W_loop (γ := Nat × List Nat) (fun (k, fp) => [(0, .slice xsA xs.length xsC), (3, .slice (some ⟨b1, 0, none⟩) xs.length xs.length), (4, .int .i64 k)]) (fun (k, fp) w' => Sep No w [mine [.slice (some ⟨b1, 0, none⟩) xs.length xs.length] (cp xs k default) fp] [seen false [.slice xsA xs.length xsC] xs xsF] w' ∧ k ≤ xs.length) (fun (k, fp) => xs.length - k) (0, [b1]) ⟨rfl, rfl, rfl, trivial⟩ ⟨cp_zero ▸ H1, by omega⟩ (fun (k, fp) w2 H2 => ?_))))))))
 obtain ⟨H2, hk⟩ := H2
 refine W_seq (W_sr (sM rfl rfl (sM rfl rfl (sV rfl (py_len tu132 rfl) (sV rfl (py_lss rfl rfl) (s_nil (W_ifd rfl (fun c1 => ?_) (fun c1 => ?_))))))))
 ·refine W_skip (W_seq (W_block ?_))
  obtain ⟨hg, hg2⟩ := szL_get hl k (by omega)
  obtain ⟨eb1, eo1, es1, ef1, ee1, ec1, eO1, eH1, em1⟩ := elem_st (H2.seen 0 rfl) k (by omega)
  obtain ⟨ea1, ek1, eg1, rfl, eq1, eK1, eo2⟩ := own_Drive eO1
  have eP1 := H2.look1 0 rfl eo2 (fun b hb => eH1 b (by rw [eq1]; simp [hb]))
  have eL1 := oL eo2
  obtain ⟨eb2, eo3, ee2⟩ := own_addr (eP1.mine 0 rfl) k (by rw [cp_len (xs := xs) (k := k) (by omega)]; omega)
  refine W_reg (sM rfl rfl (sM rfl rfl (sM rfl rfl (sM rfl rfl (sV rfl (py_elz tu132 ts210 rfl rfl ee1 k (by omega) (by omega)) (sV rfl (py_loadS tu210 rfl ts210 rfl rfl ec1) (s_call (wn rfl) rfl rfl (pc_call Tryz.func235 rfl Tryz_nm235 rfl) (Tryz_laws_toDrive (by assumption) (eP1.sees 1 rfl) (by assumption)) (fun v1 w3 r1 => ?_))))))))
  obtain ⟨e2, sa1, sk1, rfl, r1⟩ := r1
  obtain ⟨fp1, H3⟩ := eP1.res e2 r1
  refine sV rfl (py_elz tu142 ts180 rfl rfl ee2 k (by omega) (by omega)) (s_elst2S (wn rfl) ts180 H3 0 1 rfl rfl rfl k (by rw [cp_len (xs := xs) (k := k) (by omega)]; omega) rfl ee2 rfl (fun w4 fp2 H4 => ?_))
  refine s_nil ?_
  obtain ⟨hg, hg2⟩ := szL_get hl k (by omega)
  refine W_reg (sM rfl rfl (sV rfl (py_add rfl rfl (in64 ⟨by omega, by omega⟩)) (sA rfl rfl (s_nil (⟨(k + 1, _), ⟨rfl, rfl, rfl, trivial⟩, ⟨cp_set (xs := xs) (k := k) (d := default) (by omega) ▸ ((H4.ftake 1).dtake 1), by omega⟩, by dsimp only; omega⟩)))))
 ·refine W_exit (W_sr (sM rfl rfl (sA rfl rfl (s_nil (rT hQ Tryz.results141 rfl ?_)))))
  obtain rfl : k = xs.length := by omega
  exact ⟨H2.ext, by
   have h := H2.out 0 rfl
   rwa [cp_all] at h⟩
theorem Tryz_laws_eqDriveS {w : World} {xs : List Drive} {xsA : Option Addr} {xsC : Nat} {ys : List Drive} {ysA : Option Addr} {ysC : Nat} (xsS : Sees w [.slice xsA xs.length xsC] xs) (ysS : Sees w [.slice ysA ys.length ysC] ys) : Ret Tryz.prog 152 #[.slice xsA xs.length xsC, .slice ysA ys.length ysC] w fun v w' => Ext No w w' ∧ (v = .bool (decide (xs = ys))) := by
 have xsL := sL xsS
 obtain ⟨xsF, xsO⟩ := xsS
 have ysL := sL ysS
 obtain ⟨ysF, ysO⟩ := ysS
 refine ret_Q (vs := [.slice xsA xs.length xsC, .slice ysA ys.length ysC]) Tryz.func152 rfl Tryz.ntmps152 rfl (fun Q hQ hN => ?_)
 have H0 := Sep.start (w := w) (F := [seen false [.slice xsA xs.length xsC] xs xsF, seen false [.slice ysA ys.length ysC] ys ysF]) (all_cons xsO (all_cons ysO (by simp)))
 refine W_sr (sA rfl rfl (s_nil (W_seq (W_sr (sM rfl rfl (sV rfl (py_len tu142 rfl) (sM rfl rfl (sV rfl (py_len tu142 rfl) (sV rfl (py_neq rfl rfl) (s_nil (W_ifd rfl (fun c1 => ?_) (fun c1 => ?_))))))))))))
 ·refine W_sr (sA rfl rfl (s_nil (rT hQ Tryz.results152 rfl (⟨H0.ext, ?_⟩))))
  rw [decide_eq_false (fun e => by subst e; exact c1 rfl)]
 ·refine W_skip (W_seq (W_sr (sA rfl rfl (s_nil (W_block (W_loop (γ := Nat) (fun k => [(0, .slice xsA xs.length xsC), (1, .slice ysA ys.length ysC), (5, .int .i64 k)]) (fun k w' => Sep No w [] [seen false [.slice xsA xs.length xsC] xs xsF, seen false [.slice ysA ys.length ysC] ys ysF] w' ∧ k ≤ xs.length ∧ (∀ i, i < k → xs.getD i default = ys.getD i default)) (fun k => xs.length - k) 0 ⟨rfl, rfl, rfl, trivial⟩ ⟨H0, by omega, fun i hi => by omega⟩ (fun k w1 H1 => ?_)))))))
  obtain ⟨H1, hk, he⟩ := H1
  refine W_seq (W_sr (sM rfl rfl (sM rfl rfl (sV rfl (py_len tu142 rfl) (sV rfl (py_lss rfl rfl) (s_nil (W_ifd rfl (fun c2 => ?_) (fun c2 => ?_))))))))
  ·refine W_skip (W_seq (W_block (W_seq ?_)))
   obtain ⟨eb1, eo1, es1, ef1, ee1, ec1, eO1, eH1, em1⟩ := elem_st (H1.seen 0 rfl) k (by omega)
   obtain ⟨ea1, ek1, eg1, rfl, eq1, eK1, eo2⟩ := own_Drive eO1
   have eP1 := H1.look1 0 rfl eo2 (fun b hb => eH1 b (by rw [eq1]; simp [hb]))
   have eL1 := oL eo2
   obtain ⟨eb2, eo3, es2, ef2, ee2, ec2, eO2, eH2, em2⟩ := elem_st (eP1.seen 1 rfl) k (by omega)
   obtain ⟨ea2, ek2, eg2, rfl, eq2, eK2, eo4⟩ := own_Drive eO2
   have eP2 := eP1.look1 1 rfl eo4 (fun b hb => eH2 b (by rw [eq2]; simp [hb]))
   have eL2 := oL eo4
   refine W_drw (S := Ext No _) [(0, true), (1, true), (2, true), (3, true), (4, true), (5, true), (6, true), (7, true), (8, false), (9, false)] (by kernel_rfl) (by kernel_rfl) (by kernel_rfl) rfl (fun _ => Ext.refl.drawn _) (fun q1 => ?_)
   have H2 := eP2.drawn q1
   refine dM rfl rfl rfl (dM rfl rfl rfl (dV rfl rfl (fun zw hx => py_elz tu142 ts180 rfl rfl ee1 k (by omega) (by omega)) (dV rfl rfl (fun zw hx => py_loadS tu180 rfl ts180 rfl rfl (hx.at ec1)) (dM rfl rfl rfl (dM rfl rfl rfl (dV rfl rfl (fun zw hx => py_elz tu142 ts180 rfl rfl ee2 k (by omega) (by omega)) (dV rfl rfl (fun zw hx => py_loadS tu180 rfl ts180 rfl rfl (hx.at ec2)) (d_call rfl (wn rfl) rfl rfl (pc_call Tryz.func252 rfl Tryz_nm252 rfl) (Tryz_laws_eqDrive (by assumption) (H2.sees 2 rfl) (by assumption) (H2.sees 3 rfl)) (fun hS _ _ r _ => hS.trans r.1.no) (fun v1 w2 r1 => ?_)))))))))
   obtain ⟨e1, rfl⟩ := r1
   have H3 := H2.to e1
   refine d_end rfl (wn rfl) rfl rfl (py_not rfl) (d_nil (W_if rfl (fun c3 => ?_) (fun c3 => ?_)))
   ·refine W_sr (sA rfl rfl (s_nil (rT hQ Tryz.results152 rfl (⟨H3.ext, ?_⟩))))
    rw [decide_eq_false (fun e => by subst e; simp at c3)]
   ·refine W_skip (W_reg (sM rfl rfl (sV rfl (py_add rfl rfl (in64 ⟨by omega, by omega⟩)) (sA rfl rfl (s_nil ?_)))))
    have c4 : xs.getD k default = ys.getD k default := by simpa using c3
    refine ⟨k + 1, ⟨rfl, rfl, rfl, trivial⟩, ⟨(H3.ftake 2), by omega, fun i hi => ?_⟩, by dsimp only; omega⟩
    by_cases e : i = k
    ·subst e; exact c4
    ·exact he i (by omega)
  ·refine W_exit (W_sr (sA rfl rfl (s_nil (rT hQ Tryz.results152 rfl (⟨H1.ext, ?_⟩)))))
   rw [decide_eq_true (getD_ext (d := default) (by omega) fun i hi => he i (by omega))]
theorem Tryz_laws_szDriveSS {w : World} {xs : List (List Drive)} {xsA : Option Addr} {xsC : Nat} {l : Int} (xsS : Sees w [.slice xsA xs.length xsC] xs) (hl : -1 ≤ l ∧ l ≤ 1048576) : Ret Tryz.prog 59 #[.slice xsA xs.length xsC, .int .i64 l] w fun v w' => Ext No w w' ∧ (v = .int .i64 (if l - szL (szL szDrive) xs < 0 then -1 else l - szL (szL szDrive) xs)) := by
 have xsL := sL xsS
 obtain ⟨xsF, xsO⟩ := xsS
 refine ret_Q (vs := [.slice xsA xs.length xsC, .int .i64 l]) Tryz.func59 rfl Tryz.ntmps59 rfl (fun Q hQ hN => ?_)
 have H0 := Sep.start (w := w) (F := [seen false [.slice xsA xs.length xsC] xs xsF]) (all_cons xsO (by simp))
 refine W_sr (sA rfl rfl (s_nil (W_sr (sM rfl rfl (sM rfl rfl (sV rfl (py_len tu24 rfl) (sV rfl (py_sub rfl rfl (in64 ⟨by omega, by omega⟩)) (sA rfl rfl (s_nil (W_seq (W_sr (sM rfl rfl (sV rfl (py_lss rfl rfl) (s_nil (W_ifd rfl (fun c1 => ?_) (fun c1 => ?_))))))))))))))))
 ·refine W_sr (sA rfl rfl (s_nil (rT hQ Tryz.results59 rfl ?_)))
  exact ⟨H0.ext, by rw [if_pos (by rw [szL_eq (f := (szL szDrive))]; omega)]⟩
 ·refine W_skip (W_seq (W_sr (sA rfl rfl (s_nil (W_block (W_loop (γ := Nat × Int) (fun (k, m) => [(0, .slice xsA xs.length xsC), (1, .int .i64 m), (5, .int .i64 k)]) (fun (k, m) w' => Sep No w [] [seen false [.slice xsA xs.length xsC] xs xsF] w' ∧ k ≤ xs.length ∧ 0 ≤ m ∧ m = l - xs.length - sumN (fun i => (szL szDrive) (xs.getD i default)) k) (fun (k, m) => xs.length - k) (0, _) ⟨rfl, rfl, rfl, trivial⟩ ⟨H0, by omega, by omega, by simp only [sumN]; omega⟩ (fun (k, m) w1 H1 => ?_)))))))
  obtain ⟨H1, hk, hm, hs⟩ := H1
  refine W_seq (W_sr (sM rfl rfl (sM rfl rfl (sV rfl (py_len tu24 rfl) (sV rfl (py_lss rfl rfl) (s_nil (W_ifd rfl (fun c2 => ?_) (fun c2 => ?_))))))))
  ·refine W_skip (W_seq (W_block (W_seq ?_)))
   obtain ⟨eb1, eo1, ea1, ek1, ef1, ee1, ec1, eO1, eH1⟩ := elem_sl (H1.seen 0 rfl) k (by omega)
   have eP1 := H1.look1 0 rfl eO1 eH1
   refine W_reg (sM rfl rfl (sM rfl rfl (sV rfl (py_elz tu24 ts132 rfl rfl ee1 k (by omega) (by omega)) (sV rfl (py_load tu132 rfl rfl ec1) (sM rfl rfl (s_call (wn rfl) rfl rfl (pc_call Tryz.func135 rfl Tryz_nm135 rfl) (Tryz_laws_szDriveS (eP1.sees 1 rfl) (by omega)) (fun v1 w2 r1 => ?_)))))))
   obtain ⟨e1, rfl⟩ := r1
   have H2 := eP1.to e1
   refine sA rfl rfl (s_nil (W_sr (sM rfl rfl (sV rfl (py_lss rfl rfl) (s_nil (W_ifd rfl (fun c3 => ?_) (fun c3 => ?_)))))))
   ·refine W_sr (sA rfl rfl (s_nil (rT hQ Tryz.results59 rfl ?_)))
    have sg : sumN (fun i => (szL szDrive) (xs.getD i default)) (k + 1) = sumN (fun i => (szL szDrive) (xs.getD i default)) k + (szL szDrive) (xs.getD k []) := rfl
    have sl := sumN_le (f := (fun i => (szL szDrive) (xs.getD i default))) (j := k + 1) (k := xs.length) (by omega)
    exact ⟨H2.ext, by rw [if_pos (by rw [szL_eq (f := (szL szDrive))]; omega)]⟩
   ·refine W_skip (W_reg (sM rfl rfl (sV rfl (py_add rfl rfl (in64 ⟨by omega, by omega⟩)) (sA rfl rfl (s_nil ?_)))))
    have sg : sumN (fun i => (szL szDrive) (xs.getD i default)) (k + 1) = sumN (fun i => (szL szDrive) (xs.getD i default)) k + (szL szDrive) (xs.getD k []) := rfl
    refine ⟨(k + 1, _), ⟨rfl, rfl, rfl, trivial⟩, ⟨(H2.ftake 1), by omega, by omega, by omega⟩, by dsimp only; omega⟩
  ·refine W_exit (W_sr (sM rfl rfl (sA rfl rfl (s_nil (rT hQ Tryz.results59 rfl ?_)))))
   obtain rfl : k = xs.length := by omega
   exact ⟨H1.ext, congrArg (Value.int .i64) (by rw [szL_eq (f := (szL szDrive))]; omega)⟩
theorem Tryz_laws_toDriveSS {w : World} {xs : List (List Drive)} {xsA : Option Addr} {xsC : Nat} (xsS : Sees w [.slice xsA xs.length xsC] xs) (hl : szL (szL szDrive) xs ≤ 1048576) : Ret Tryz.prog 67 #[.slice xsA xs.length xsC] w fun v w' => Ext No w w' ∧ (Res w w' [v] xs) := by
 have xsL := sL xsS
 obtain ⟨xsF, xsO⟩ := xsS
 have hl0 : xs.length ≤ 1048576 := by unfold szL at hl; omega
 refine ret_Q (vs := [.slice xsA xs.length xsC]) Tryz.func67 rfl Tryz.ntmps67 rfl (fun Q hQ hN => ?_)
 have H0 := Sep.start (w := w) (F := [seen false [.slice xsA xs.length xsC] xs xsF]) (all_cons xsO (by simp))
 refine W_sr (sA rfl rfl (s_nil (W_sr (sM rfl rfl (sV rfl (py_len tu24 rfl) (s_make (wn rfl) rfl tu35 Tryz_ty142 (own_zs (α := Drive)) rfl (by omega) (by unfold maxLen; omega) H0 (fun b1 w1 e1 g1 H1 => ?_)))))))
 refine sA rfl rfl (s_nil (W_seq (W_sr (sA rfl rfl (s_nil (W_block (W_loop (γ := Nat × List Nat) (fun (k, fp) => [(0, .slice xsA xs.length xsC), (3, .slice (some ⟨b1, 0, none⟩) xs.length xs.length), (4, .int .i64 k)]) (fun (k, fp) w' => Sep No w [mine [.slice (some ⟨b1, 0, none⟩) xs.length xs.length] (cp xs k []) fp] [seen false [.slice xsA xs.length xsC] xs xsF] w' ∧ k ≤ xs.length) (fun (k, fp) => xs.length - k) (0, [b1]) ⟨rfl, rfl, rfl, trivial⟩ ⟨cp_zero ▸ H1, by omega⟩ (fun (k, fp) w2 H2 => ?_))))))))
 obtain ⟨H2, hk⟩ := H2
 refine W_seq (W_sr (sM rfl rfl (sM rfl rfl (sV rfl (py_len tu24 rfl) (sV rfl (py_lss rfl rfl) (s_nil (W_ifd rfl (fun c1 => ?_) (fun c1 => ?_))))))))
 ·refine W_skip (W_seq (W_block ?_))
  obtain ⟨hg, hg2⟩ := szL_get hl k (by omega)
  obtain ⟨eb1, eo1, ea1, ek1, ef1, ee1, ec1, eO1, eH1⟩ := elem_sl (H2.seen 0 rfl) k (by omega)
  have eP1 := H2.look1 0 rfl eO1 eH1
  obtain ⟨eb2, eo2, ee2⟩ := own_addr (eP1.mine 0 rfl) k (by rw [cp_len (xs := xs) (k := k) (by omega)]; omega)
  refine W_reg (sM rfl rfl (sM rfl rfl (sM rfl rfl (sM rfl rfl (sV rfl (py_elz tu24 ts132 rfl rfl ee1 k (by omega) (by omega)) (sV rfl (py_load tu132 rfl rfl ec1) (s_call (wn rfl) rfl rfl (pc_call Tryz.func141 rfl Tryz_nm141 rfl) (Tryz_laws_toDriveS (eP1.sees 1 rfl) (by first | assumption | omega)) (fun v1 w3 r1 => ?_))))))))
  obtain ⟨e2, r1⟩ := r1
  obtain ⟨fp1, H3⟩ := eP1.res e2 r1
  obtain ⟨a1, k1, q1⟩ := own_slice (H3.mine 1 rfl)
  cases q1
  refine sV rfl (py_elz tu35 ts142 rfl rfl ee2 k (by omega) (by omega)) (s_elst2 (wn rfl) ts142 rfl H3 0 1 rfl rfl rfl k (by rw [cp_len (xs := xs) (k := k) (by omega)]; omega) rfl ee2 rfl (fun w4 fp2 H4 => ?_))
  refine s_nil ?_
  obtain ⟨hg, hg2⟩ := szL_get hl k (by omega)
  refine W_reg (sM rfl rfl (sV rfl (py_add rfl rfl (in64 ⟨by omega, by omega⟩)) (sA rfl rfl (s_nil (⟨(k + 1, _), ⟨rfl, rfl, rfl, trivial⟩, ⟨cp_set (xs := xs) (k := k) (d := []) (by omega) ▸ ((H4.ftake 1).dtake 1), by omega⟩, by dsimp only; omega⟩)))))
 ·refine W_exit (W_sr (sM rfl rfl (sA rfl rfl (s_nil (rT hQ Tryz.results67 rfl ?_)))))
  obtain rfl : k = xs.length := by omega
  exact ⟨H2.ext, by
   have h := H2.out 0 rfl
   rwa [cp_all] at h⟩
theorem Tryz_laws_eqDriveSS {w : World} {xs : List (List Drive)} {xsA : Option Addr} {xsC : Nat} {ys : List (List Drive)} {ysA : Option Addr} {ysC : Nat} (xsS : Sees w [.slice xsA xs.length xsC] xs) (ysS : Sees w [.slice ysA ys.length ysC] ys) : Ret Tryz.prog 77 #[.slice xsA xs.length xsC, .slice ysA ys.length ysC] w fun v w' => Ext No w w' ∧ (v = .bool (decide (xs = ys))) := by
 have xsL := sL xsS
 obtain ⟨xsF, xsO⟩ := xsS
 have ysL := sL ysS
 obtain ⟨ysF, ysO⟩ := ysS
 refine ret_Q (vs := [.slice xsA xs.length xsC, .slice ysA ys.length ysC]) Tryz.func77 rfl Tryz.ntmps77 rfl (fun Q hQ hN => ?_)
 have H0 := Sep.start (w := w) (F := [seen false [.slice xsA xs.length xsC] xs xsF, seen false [.slice ysA ys.length ysC] ys ysF]) (all_cons xsO (all_cons ysO (by simp)))
 refine W_sr (sA rfl rfl (s_nil (W_seq (W_sr (sM rfl rfl (sV rfl (py_len tu35 rfl) (sM rfl rfl (sV rfl (py_len tu35 rfl) (sV rfl (py_neq rfl rfl) (s_nil (W_ifd rfl (fun c1 => ?_) (fun c1 => ?_))))))))))))
 ·refine W_sr (sA rfl rfl (s_nil (rT hQ Tryz.results77 rfl (⟨H0.ext, ?_⟩))))
  rw [decide_eq_false (fun e => by subst e; exact c1 rfl)]
 ·refine W_skip (W_seq (W_sr (sA rfl rfl (s_nil (W_block (W_loop (γ := Nat) (fun k => [(0, .slice xsA xs.length xsC), (1, .slice ysA ys.length ysC), (5, .int .i64 k)]) (fun k w' => Sep No w [] [seen false [.slice xsA xs.length xsC] xs xsF, seen false [.slice ysA ys.length ysC] ys ysF] w' ∧ k ≤ xs.length ∧ (∀ i, i < k → xs.getD i [] = ys.getD i [])) (fun k => xs.length - k) 0 ⟨rfl, rfl, rfl, trivial⟩ ⟨H0, by omega, fun i hi => by omega⟩ (fun k w1 H1 => ?_)))))))
  obtain ⟨H1, hk, he⟩ := H1
  refine W_seq (W_sr (sM rfl rfl (sM rfl rfl (sV rfl (py_len tu35 rfl) (sV rfl (py_lss rfl rfl) (s_nil (W_ifd rfl (fun c2 => ?_) (fun c2 => ?_))))))))
  ·refine W_skip (W_seq (W_block (W_seq ?_)))
   obtain ⟨eb1, eo1, ea1, ek1, ef1, ee1, ec1, eO1, eH1⟩ := elem_sl (H1.seen 0 rfl) k (by omega)
   have eP1 := H1.look1 0 rfl eO1 eH1
   obtain ⟨eb2, eo2, ea2, ek2, ef2, ee2, ec2, eO2, eH2⟩ := elem_sl (eP1.seen 1 rfl) k (by omega)
   have eP2 := eP1.look1 1 rfl eO2 eH2
   refine W_drw (S := Ext No _) [(0, true), (1, true), (2, true), (3, true), (4, true), (5, true), (6, true), (7, true), (8, false), (9, false)] (by kernel_rfl) (by kernel_rfl) (by kernel_rfl) rfl (fun _ => Ext.refl.drawn _) (fun q1 => ?_)
   have H2 := eP2.drawn q1
   refine dM rfl rfl rfl (dM rfl rfl rfl (dV rfl rfl (fun zw hx => py_elz tu35 ts142 rfl rfl ee1 k (by omega) (by omega)) (dV rfl rfl (fun zw hx => py_load tu142 rfl rfl (hx.cell ec1)) (dM rfl rfl rfl (dM rfl rfl rfl (dV rfl rfl (fun zw hx => py_elz tu35 ts142 rfl rfl ee2 k (by omega) (by omega)) (dV rfl rfl (fun zw hx => py_load tu142 rfl rfl (hx.cell ec2)) (d_call rfl (wn rfl) rfl rfl (pc_call Tryz.func152 rfl Tryz_nm152 rfl) (Tryz_laws_eqDriveS (H2.sees 2 rfl) (H2.sees 3 rfl)) (fun hS _ _ r _ => hS.trans r.1.no) (fun v1 w2 r1 => ?_)))))))))
   obtain ⟨e1, rfl⟩ := r1
   have H3 := H2.to e1
   refine d_end rfl (wn rfl) rfl rfl (py_not rfl) (d_nil (W_if rfl (fun c3 => ?_) (fun c3 => ?_)))
   ·refine W_sr (sA rfl rfl (s_nil (rT hQ Tryz.results77 rfl (⟨H3.ext, ?_⟩))))
    rw [decide_eq_false (fun e => by subst e; simp at c3)]
   ·refine W_skip (W_reg (sM rfl rfl (sV rfl (py_add rfl rfl (in64 ⟨by omega, by omega⟩)) (sA rfl rfl (s_nil ?_)))))
    have c4 : xs.getD k [] = ys.getD k [] := by simpa using c3
    refine ⟨k + 1, ⟨rfl, rfl, rfl, trivial⟩, ⟨(H3.ftake 2), by omega, fun i hi => ?_⟩, by dsimp only; omega⟩
    by_cases e : i = k
    ·subst e; exact c4
    ·exact he i (by omega)
  ·refine W_exit (W_sr (sA rfl rfl (s_nil (rT hQ Tryz.results77 rfl (⟨H1.ext, ?_⟩)))))
   rw [decide_eq_true (getD_ext (d := []) (by omega) fun i hi => he i (by omega))]
theorem Tryz_laws_szRec {w : World} {x : Rec} {xA6 xA7 xA8 : Option Addr} {xC6 xC7 xC8 : Nat} {l : Int} (xK : x.Ok) (xS6 : Sees w [.slice xA6 x.Rows.length xC6] x.Rows) (xS7 : Sees w [.slice xA7 x.Data.length xC7] x.Data) (xS8 : Sees w [.slice xA8 x.Delta.length xC8] x.Delta) (hl : -1 ≤ l ∧ l ≤ 1048576) : Ret Tryz.prog 42 #[x.val xA6 xC6 xA7 xC7 xA8 xC8, .int .i64 l] w fun v w' => Ext No w w' ∧ (v = .int .i64 (if l - szRec x < 0 then -1 else l - szRec x)) := by
 have xK2 := xK
 unfold Rec.Ok at xK2
 try unfold I64ok at xK2
 try unfold maxLen at xK2
 have xN2 : x.Name.size ≤ maxLen := by unfold maxLen; omega
 have xL6 := sL xS6
 obtain ⟨xF6, xO6⟩ := xS6
 have xL7 := sL xS7
 obtain ⟨xF7, xO7⟩ := xS7
 have xL8 := sL xS8
 obtain ⟨xF8, xO8⟩ := xS8
 refine ret_Q (vs := [x.val xA6 xC6 xA7 xC7 xA8 xC8, .int .i64 l]) Tryz.func42 rfl Tryz.ntmps42 rfl (fun Q hQ hN => ?_)
 have H0 := Sep.start (w := w) (F := [seen false [.slice xA6 x.Rows.length xC6] x.Rows xF6, seen false [.slice xA7 x.Data.length xC7] x.Data xF7, seen false [.slice xA8 x.Delta.length xC8] x.Delta xF8]) (all_cons xO6 (all_cons xO7 (all_cons xO8 (by simp))))
 refine W_sr (s_box (wn rfl) rfl rfl H0 (fun b1 w1 e1 g1 H1 => ?_))
 refine sA rfl rfl (s_nil (W_sr (sM rfl rfl (sV rfl (py_field tu63 rfl ts9 rfl rfl) (sV rfl (py_load tu9 rfl rfl (cell_atL (H1.box 0 rfl) rfl)) (sV rfl (py_slen tu9 rfl) (sV rfl (py_sub rfl rfl (in64 ⟨by omega, by omega⟩)) (sA rfl rfl (s_nil (W_seq (W_sr (sM rfl rfl (sV rfl (py_lss rfl rfl) (s_nil (W_ifd rfl (fun c1 => ?_) (fun c1 => ?_))))))))))))))))
 ·refine W_sr (sA rfl rfl (s_nil (rT hQ Tryz.results42 rfl ?_)))
  exact ⟨H1.ext, congrArg (Value.int .i64) (by unfold szRec; omega)⟩
 ·refine W_skip (W_sr (sV rfl (py_field tu63 rfl ts25 rfl rfl) (sV rfl (py_load tu25 rfl rfl (cell_atL (H1.box 0 rfl) rfl)) (sM rfl rfl (s_call (wn rfl) rfl rfl (pc_call Tryz.func60 rfl Tryz_nm60 rfl) (Tryz_laws_szInt64S (H1.sees 0 rfl) (by omega)) (fun v1 w2 r1 => ?_))))))
  obtain ⟨e2, rfl⟩ := r1
  have H2 := H1.to e2
  refine sA rfl rfl (s_nil (W_seq (W_sr (sM rfl rfl (sV rfl (py_lss rfl rfl) (s_nil (W_ifd rfl (fun c2 => ?_) (fun c2 => ?_))))))))
  ·refine W_sr (sA rfl rfl (s_nil (rT hQ Tryz.results42 rfl ?_)))
   exact ⟨H2.ext, congrArg (Value.int .i64) (by unfold szRec; omega)⟩
  ·refine W_skip (W_sr (sV rfl (py_field tu63 rfl ts45 rfl rfl) (sV rfl (py_load tu45 rfl rfl (cell_atL (H2.box 0 rfl) rfl)) (sM rfl rfl (s_call (wn rfl) rfl rfl (pc_call Tryz.func110 rfl Tryz_nm110 rfl) (Tryz_laws_szByteS (H2.sees 1 rfl) (by omega)) (fun v2 w3 r2 => ?_))))))
   obtain ⟨e3, rfl⟩ := r2
   have H3 := H2.to e3
   refine sA rfl rfl (s_nil (W_seq (W_sr (sM rfl rfl (sV rfl (py_lss rfl rfl) (s_nil (W_ifd rfl (fun c3 => ?_) (fun c3 => ?_))))))))
   ·refine W_sr (sA rfl rfl (s_nil (rT hQ Tryz.results42 rfl ?_)))
    exact ⟨H3.ext, congrArg (Value.int .i64) (by unfold szRec; omega)⟩
   ·refine W_skip (W_sr (sV rfl (py_field tu63 rfl ts45 rfl rfl) (sV rfl (py_load tu45 rfl rfl (cell_atL (H3.box 0 rfl) rfl)) (sM rfl rfl (s_call (wn rfl) rfl rfl (pc_call Tryz.func110 rfl Tryz_nm110 rfl) (Tryz_laws_szByteS (H3.sees 2 rfl) (by omega)) (fun v3 w4 r3 => ?_))))))
    obtain ⟨e4, rfl⟩ := r3
    have H4 := H3.to e4
    refine sA rfl rfl (s_nil (W_seq (W_sr (sM rfl rfl (sV rfl (py_lss rfl rfl) (s_nil (W_ifd rfl (fun c4 => ?_) (fun c4 => ?_))))))))
    ·refine W_sr (sA rfl rfl (s_nil (rT hQ Tryz.results42 rfl ?_)))
     exact ⟨H4.ext, congrArg (Value.int .i64) (by unfold szRec; omega)⟩
    ·refine W_skip (W_sr (sM rfl rfl (sA rfl rfl (s_nil (rT hQ Tryz.results42 rfl ?_)))))
     exact ⟨H4.ext, congrArg (Value.int .i64) (by unfold szRec; omega)⟩
theorem Tryz_laws_toRec {w : World} {x : Rec} {xA6 xA7 xA8 : Option Addr} {xC6 xC7 xC8 : Nat} (xK : x.Ok) (xS6 : Sees w [.slice xA6 x.Rows.length xC6] x.Rows) (xS7 : Sees w [.slice xA7 x.Data.length xC7] x.Data) (xS8 : Sees w [.slice xA8 x.Delta.length xC8] x.Delta) (hb : szRec x ≤ 1048576) : Ret Tryz.prog 44 #[x.val xA6 xC6 xA7 xC7 xA8 xC8] w fun v w' => Ext No w w' ∧ (∃ A6 C6 A7 C7 A8 C8, v = x.val A6 C6 A7 C7 A8 C8 ∧ Res w w' [.int .i64 x.Kind, .int .i64 x.Seq, .string x.Name, .int .i64 x.Length, .int .i64 x.Group, .int .i64 x.Row, .slice A6 x.Rows.length C6, .slice A7 x.Data.length C7, .slice A8 x.Delta.length C8] x) := by
 have xK2 := xK
 unfold Rec.Ok at xK2
 try unfold I64ok at xK2
 try unfold maxLen at xK2
 have xN2 : x.Name.size ≤ maxLen := by unfold maxLen; omega
 have xL6 := sL xS6
 obtain ⟨xF6, xO6⟩ := xS6
 have xL7 := sL xS7
 obtain ⟨xF7, xO7⟩ := xS7
 have xL8 := sL xS8
 obtain ⟨xF8, xO8⟩ := xS8
 unfold szRec at hb
 refine ret_Q (vs := [x.val xA6 xC6 xA7 xC7 xA8 xC8]) Tryz.func44 rfl Tryz.ntmps44 rfl (fun Q hQ hN => ?_)
 have H0 := Sep.start (w := w) (F := [seen false [.slice xA6 x.Rows.length xC6] x.Rows xF6, seen false [.slice xA7 x.Data.length xC7] x.Data xF7, seen false [.slice xA8 x.Delta.length xC8] x.Delta xF8]) (all_cons xO6 (all_cons xO7 (all_cons xO8 (by simp))))
 refine W_sr (s_box (wn rfl) rfl rfl H0 (fun b1 w1 e1 g1 H1 => ?_))
 refine s_var (wn rfl) rfl Tryz.zeroValue68 H1 (fun b2 w2 e2 g2 H2 => ?_)
 refine s_nil (W_sr (s_var (wn rfl) rfl Tryz.zeroValue68 H2 (fun b3 w3 e3 g3 H3 => ?_)))
 refine s_nil (W_sr (sV rfl (py_field tu63 rfl ts2 rfl rfl) (sV rfl (py_load tu2 rfl rfl (cell_atL (H3.box 0 rfl) rfl)) (sV rfl (py_field tu68 rfl ts2 rfl rfl) (s_sto (wn rfl) ts2 rfl rfl rfl H3 2 rfl rfl (fun w4 e4 H4 => ?_))))))
 dsimp only [lNA, lCA, lSZ, lSS, layL] at H4
 refine s_nil (W_sr (sV rfl (py_field tu63 rfl ts2 rfl rfl) (sV rfl (py_load tu2 rfl rfl (cell_atL (H4.box 0 rfl) rfl)) (sV rfl (py_field tu68 rfl ts2 rfl rfl) (s_sto (wn rfl) ts2 rfl rfl rfl H4 2 rfl rfl (fun w5 e5 H5 => ?_))))))
 dsimp only [lNA, lCA, lSZ, lSS, layL] at H5
 refine s_nil (W_sr (sV rfl (py_field tu63 rfl ts9 rfl rfl) (sV rfl (py_load tu9 rfl rfl (cell_atL (H5.box 0 rfl) rfl)) (sV rfl (py_field tu68 rfl ts9 rfl rfl) (s_sto (wn rfl) ts9 rfl rfl rfl H5 2 rfl rfl (fun w6 e6 H6 => ?_))))))
 dsimp only [lNA, lCA, lSZ, lSS, layL] at H6
 refine s_nil (W_sr (sV rfl (py_field tu63 rfl ts2 rfl rfl) (sV rfl (py_load tu2 rfl rfl (cell_atL (H6.box 0 rfl) rfl)) (sV rfl (py_field tu68 rfl ts2 rfl rfl) (s_sto (wn rfl) ts2 rfl rfl rfl H6 2 rfl rfl (fun w7 e7 H7 => ?_))))))
 dsimp only [lNA, lCA, lSZ, lSS, layL] at H7
 refine s_nil (W_sr (sV rfl (py_field tu63 rfl ts2 rfl rfl) (sV rfl (py_load tu2 rfl rfl (cell_atL (H7.box 0 rfl) rfl)) (sV rfl (py_field tu68 rfl ts2 rfl rfl) (s_sto (wn rfl) ts2 rfl rfl rfl H7 2 rfl rfl (fun w8 e8 H8 => ?_))))))
 dsimp only [lNA, lCA, lSZ, lSS, layL] at H8
 refine s_nil (W_sr (sV rfl (py_field tu63 rfl ts2 rfl rfl) (sV rfl (py_load tu2 rfl rfl (cell_atL (H8.box 0 rfl) rfl)) (sV rfl (py_field tu68 rfl ts2 rfl rfl) (s_sto (wn rfl) ts2 rfl rfl rfl H8 2 rfl rfl (fun w9 e9 H9 => ?_))))))
 dsimp only [lNA, lCA, lSZ, lSS, layL] at H9
 refine s_nil (W_sr (sV rfl (py_field tu63 rfl ts25 rfl rfl) (sV rfl (py_load tu25 rfl rfl (cell_atL (H9.box 0 rfl) rfl)) (s_call (wn rfl) rfl rfl (pc_call Tryz.func68 rfl Tryz_nm68 rfl) (Tryz_laws_toInt64S (H9.sees 0 rfl) (by omega)) (fun v1 w10 r1 => ?_)))))
 obtain ⟨e10, r1⟩ := r1
 obtain ⟨fp1, H10⟩ := H9.res e10 r1
 obtain ⟨a1, k1, q1⟩ := own_slice (H10.mine 3 rfl)
 cases q1
 refine sV rfl (py_field tu68 rfl ts25 rfl rfl) (s_sto (wn rfl) ts25 rfl rfl rfl H10 2 rfl rfl (fun w11 e11 H11 => ?_))
 dsimp only [lNA, lCA, lSZ, lSS, layL] at H11
 refine s_nil (W_sr (sV rfl (py_field tu63 rfl ts45 rfl rfl) (sV rfl (py_load tu45 rfl rfl (cell_atL (H11.box 0 rfl) rfl)) (s_call (wn rfl) rfl rfl (pc_call Tryz.func116 rfl Tryz_nm116 rfl) (Tryz_laws_toByteS (H11.sees 1 rfl) (by omega)) (fun v2 w12 r2 => ?_)))))
 obtain ⟨e12, r2⟩ := r2
 obtain ⟨fp2, H12⟩ := H11.res e12 r2
 obtain ⟨a2, k2, q2⟩ := own_slice (H12.mine 4 rfl)
 cases q2
 refine sV rfl (py_field tu68 rfl ts45 rfl rfl) (s_sto (wn rfl) ts45 rfl rfl rfl H12 2 rfl rfl (fun w13 e13 H13 => ?_))
 dsimp only [lNA, lCA, lSZ, lSS, layL] at H13
 refine s_nil (W_sr (sV rfl (py_field tu63 rfl ts45 rfl rfl) (sV rfl (py_load tu45 rfl rfl (cell_atL (H13.box 0 rfl) rfl)) (s_call (wn rfl) rfl rfl (pc_call Tryz.func116 rfl Tryz_nm116 rfl) (Tryz_laws_toByteS (H13.sees 2 rfl) (by omega)) (fun v3 w14 r3 => ?_)))))
 obtain ⟨e14, r3⟩ := r3
 obtain ⟨fp3, H14⟩ := H13.res e14 r3
 obtain ⟨a3, k3, q3⟩ := own_slice (H14.mine 5 rfl)
 cases q3
 refine sV rfl (py_field tu68 rfl ts45 rfl rfl) (s_sto (wn rfl) ts45 rfl rfl rfl H14 2 rfl rfl (fun w15 e15 H15 => ?_))
 dsimp only [lNA, lCA, lSZ, lSS, layL] at H15
 refine s_nil (W_sr (sV rfl (py_loadS tu68 rfl ts68 rfl rfl (At.whole (H15.box 2 rfl))) (s_stoS (wn rfl) ts68 rfl rfl rfl rfl H15 1 rfl rfl (fun w16 e16 H16 => ?_))))
 dsimp only [lNA, lCA, lSZ, lSS, layL] at H16
 refine s_nil (W_ret (hQ _ _ (finC Tryz.results44 rfl (run_loadVarS tu68 rfl ts68 rfl (At.whole (H16.box 1 rfl))) ?_)))
 exact ⟨H16.ext, _, _, _, _, _, _, rfl, Rec.out (H16.sub (.cons _ (.cons _ (.cons _ (.cons_cons _ (.cons_cons _ (.cons_cons _ List.Sublist.slnil))))))) xK⟩
theorem Tryz_laws_eqRec {w : World} {a b : Rec} {aA6 aA7 aA8 bA6 bA7 bA8 : Option Addr} {aC6 aC7 aC8 bC6 bC7 bC8 : Nat} (aK : a.Ok) (aS6 : Sees w [.slice aA6 a.Rows.length aC6] a.Rows) (aS7 : Sees w [.slice aA7 a.Data.length aC7] a.Data) (aS8 : Sees w [.slice aA8 a.Delta.length aC8] a.Delta) (bK : b.Ok) (bS6 : Sees w [.slice bA6 b.Rows.length bC6] b.Rows) (bS7 : Sees w [.slice bA7 b.Data.length bC7] b.Data) (bS8 : Sees w [.slice bA8 b.Delta.length bC8] b.Delta) : Ret Tryz.prog 47 #[a.val aA6 aC6 aA7 aC7 aA8 aC8, b.val bA6 bC6 bA7 bC7 bA8 bC8] w fun v w' => Ext No w w' ∧ (v = .bool (decide (a = b))) := by
 have aK2 := aK
 unfold Rec.Ok at aK2
 try unfold I64ok at aK2
 try unfold maxLen at aK2
 have aN2 : a.Name.size ≤ maxLen := by unfold maxLen; omega
 have aL6 := sL aS6
 obtain ⟨aF6, aO6⟩ := aS6
 have aL7 := sL aS7
 obtain ⟨aF7, aO7⟩ := aS7
 have aL8 := sL aS8
 obtain ⟨aF8, aO8⟩ := aS8
 have bK2 := bK
 unfold Rec.Ok at bK2
 try unfold I64ok at bK2
 try unfold maxLen at bK2
 have bN2 : b.Name.size ≤ maxLen := by unfold maxLen; omega
 have bL6 := sL bS6
 obtain ⟨bF6, bO6⟩ := bS6
 have bL7 := sL bS7
 obtain ⟨bF7, bO7⟩ := bS7
 have bL8 := sL bS8
 obtain ⟨bF8, bO8⟩ := bS8
 refine ret_Q (vs := [a.val aA6 aC6 aA7 aC7 aA8 aC8, b.val bA6 bC6 bA7 bC7 bA8 bC8]) Tryz.func47 rfl Tryz.ntmps47 rfl (fun Q hQ hN => ?_)
 have H0 := Sep.start (w := w) (F := [seen false [.slice aA6 a.Rows.length aC6] a.Rows aF6, seen false [.slice aA7 a.Data.length aC7] a.Data aF7, seen false [.slice aA8 a.Delta.length aC8] a.Delta aF8, seen false [.slice bA6 b.Rows.length bC6] b.Rows bF6, seen false [.slice bA7 b.Data.length bC7] b.Data bF7, seen false [.slice bA8 b.Delta.length bC8] b.Delta bF8]) (all_cons aO6 (all_cons aO7 (all_cons aO8 (all_cons bO6 (all_cons bO7 (all_cons bO8 (by simp)))))))
 refine W_sr (s_box (wn rfl) rfl rfl H0 (fun b1 w1 e1 g1 H1 => ?_))
 refine s_box (wn rfl) rfl rfl H1 (fun b2 w2 e2 g2 H2 => ?_)
 refine sA rfl rfl (s_nil (W_seq (W_sr (sV rfl (py_field tu68 rfl ts2 rfl rfl) (sV rfl (py_load tu2 rfl rfl (cell_atL (H2.box 0 rfl) rfl)) (sV rfl (py_field tu68 rfl ts2 rfl rfl) (sV rfl (py_load tu2 rfl rfl (cell_atL (H2.box 1 rfl) rfl)) (sV rfl (py_neq rfl rfl) (s_nil (W_ifd rfl (fun c1 => ?_) (fun c1 => ?_)))))))))))
 ·refine W_sr (sA rfl rfl (s_nil (rT hQ Tryz.results47 rfl (⟨H2.ext, ?_⟩))))
  rw [decide_eq_false (fun e => by subst e; first | exact c1 rfl | simp at c1)]
 ·refine W_skip (W_seq (W_sr (sV rfl (py_field tu68 rfl ts2 rfl rfl) (sV rfl (py_load tu2 rfl rfl (cell_atL (H2.box 0 rfl) rfl)) (sV rfl (py_field tu68 rfl ts2 rfl rfl) (sV rfl (py_load tu2 rfl rfl (cell_atL (H2.box 1 rfl) rfl)) (sV rfl (py_neq rfl rfl) (s_nil (W_ifd rfl (fun c2 => ?_) (fun c2 => ?_))))))))))
  ·refine W_sr (sA rfl rfl (s_nil (rT hQ Tryz.results47 rfl (⟨H2.ext, ?_⟩))))
   rw [decide_eq_false (fun e => by subst e; first | exact c2 rfl | simp at c2)]
  ·refine W_skip (W_seq (W_sr (sV rfl (py_field tu68 rfl ts9 rfl rfl) (sV rfl (py_load tu9 rfl rfl (cell_atL (H2.box 0 rfl) rfl)) (sV rfl (py_field tu68 rfl ts9 rfl rfl) (sV rfl (py_load tu9 rfl rfl (cell_atL (H2.box 1 rfl) rfl)) (sV rfl (py_sneq rfl rfl) (s_nil (W_if rfl (fun c3 => ?_) (fun c3 => ?_))))))))))
   ·refine W_sr (sA rfl rfl (s_nil (rT hQ Tryz.results47 rfl (⟨H2.ext, ?_⟩))))
    rw [decide_eq_false (fun e => by subst e; first | exact c3 rfl | simp at c3)]
   ·refine W_skip (W_seq (W_sr (sV rfl (py_field tu68 rfl ts2 rfl rfl) (sV rfl (py_load tu2 rfl rfl (cell_atL (H2.box 0 rfl) rfl)) (sV rfl (py_field tu68 rfl ts2 rfl rfl) (sV rfl (py_load tu2 rfl rfl (cell_atL (H2.box 1 rfl) rfl)) (sV rfl (py_neq rfl rfl) (s_nil (W_ifd rfl (fun c4 => ?_) (fun c4 => ?_))))))))))
    ·refine W_sr (sA rfl rfl (s_nil (rT hQ Tryz.results47 rfl (⟨H2.ext, ?_⟩))))
     rw [decide_eq_false (fun e => by subst e; first | exact c4 rfl | simp at c4)]
    ·refine W_skip (W_seq (W_sr (sV rfl (py_field tu68 rfl ts2 rfl rfl) (sV rfl (py_load tu2 rfl rfl (cell_atL (H2.box 0 rfl) rfl)) (sV rfl (py_field tu68 rfl ts2 rfl rfl) (sV rfl (py_load tu2 rfl rfl (cell_atL (H2.box 1 rfl) rfl)) (sV rfl (py_neq rfl rfl) (s_nil (W_ifd rfl (fun c5 => ?_) (fun c5 => ?_))))))))))
     ·refine W_sr (sA rfl rfl (s_nil (rT hQ Tryz.results47 rfl (⟨H2.ext, ?_⟩))))
      rw [decide_eq_false (fun e => by subst e; first | exact c5 rfl | simp at c5)]
     ·refine W_skip (W_seq (W_sr (sV rfl (py_field tu68 rfl ts2 rfl rfl) (sV rfl (py_load tu2 rfl rfl (cell_atL (H2.box 0 rfl) rfl)) (sV rfl (py_field tu68 rfl ts2 rfl rfl) (sV rfl (py_load tu2 rfl rfl (cell_atL (H2.box 1 rfl) rfl)) (sV rfl (py_neq rfl rfl) (s_nil (W_ifd rfl (fun c6 => ?_) (fun c6 => ?_))))))))))
      ·refine W_sr (sA rfl rfl (s_nil (rT hQ Tryz.results47 rfl (⟨H2.ext, ?_⟩))))
       rw [decide_eq_false (fun e => by subst e; first | exact c6 rfl | simp at c6)]
      ·refine W_skip (W_seq (W_sr (sV rfl (py_field tu68 rfl ts25 rfl rfl) (sV rfl (py_load tu25 rfl rfl (cell_atL (H2.box 0 rfl) rfl)) (sV rfl (py_field tu68 rfl ts25 rfl rfl) (sV rfl (py_load tu25 rfl rfl (cell_atL (H2.box 1 rfl) rfl)) (s_call (wn rfl) rfl rfl (pc_call Tryz.func78 rfl Tryz_nm78 rfl) (Tryz_laws_eqInt64S (H2.sees 0 rfl) (H2.sees 3 rfl)) (fun v1 w3 r1 => ?_))))))))
       obtain ⟨e3, rfl⟩ := r1
       have H3 := H2.to e3
       refine sV rfl (py_not rfl) (s_nil (W_if rfl (fun c7 => ?_) (fun c7 => ?_)))
       ·refine W_sr (sA rfl rfl (s_nil (rT hQ Tryz.results47 rfl (⟨H3.ext, ?_⟩))))
        rw [decide_eq_false (fun e => by subst e; first | exact c7 rfl | simp at c7)]
       ·refine W_skip (W_seq (W_sr (sV rfl (py_field tu68 rfl ts45 rfl rfl) (sV rfl (py_load tu45 rfl rfl (cell_atL (H3.box 0 rfl) rfl)) (sV rfl (py_field tu68 rfl ts45 rfl rfl) (sV rfl (py_load tu45 rfl rfl (cell_atL (H3.box 1 rfl) rfl)) (s_call (wn rfl) rfl rfl (pc_call Tryz.func87 rfl Tryz_nm87 rfl) (Tryz_laws_eqByteS (H3.sees 1 rfl) (H3.sees 4 rfl)) (fun v2 w4 r2 => ?_))))))))
        obtain ⟨e4, rfl⟩ := r2
        have H4 := H3.to e4
        refine sV rfl (py_not rfl) (s_nil (W_if rfl (fun c8 => ?_) (fun c8 => ?_)))
        ·refine W_sr (sA rfl rfl (s_nil (rT hQ Tryz.results47 rfl (⟨H4.ext, ?_⟩))))
         rw [decide_eq_false (fun e => by subst e; first | exact c8 rfl | simp at c8)]
        ·refine W_skip (W_seq (W_sr (sV rfl (py_field tu68 rfl ts45 rfl rfl) (sV rfl (py_load tu45 rfl rfl (cell_atL (H4.box 0 rfl) rfl)) (sV rfl (py_field tu68 rfl ts45 rfl rfl) (sV rfl (py_load tu45 rfl rfl (cell_atL (H4.box 1 rfl) rfl)) (s_call (wn rfl) rfl rfl (pc_call Tryz.func87 rfl Tryz_nm87 rfl) (Tryz_laws_eqByteS (H4.sees 2 rfl) (H4.sees 5 rfl)) (fun v3 w5 r3 => ?_))))))))
         obtain ⟨e5, rfl⟩ := r3
         have H5 := H4.to e5
         refine sV rfl (py_not rfl) (s_nil (W_if rfl (fun c9 => ?_) (fun c9 => ?_)))
         ·refine W_sr (sA rfl rfl (s_nil (rT hQ Tryz.results47 rfl (⟨H5.ext, ?_⟩))))
          rw [decide_eq_false (fun e => by subst e; first | exact c9 rfl | simp at c9)]
         ·refine W_skip (W_sr (sA rfl rfl (s_nil (rT hQ Tryz.results47 rfl (⟨H5.ext, ?_⟩)))))
          rw [decide_eq_true]
          cases a; cases b; simp_all [str_beq]
theorem Tryz_laws_szRecS {w : World} {xs : List Rec} {xsA : Option Addr} {xsC : Nat} {l : Int} (xsS : Sees w [.slice xsA xs.length xsC] xs) (hl : -1 ≤ l ∧ l ≤ 1048576) : Ret Tryz.prog 231 #[.slice xsA xs.length xsC, .int .i64 l] w fun v w' => Ext No w w' ∧ (v = .int .i64 (if l - szL szRec xs < 0 then -1 else l - szL szRec xs)) := by
 have xsL := sL xsS
 obtain ⟨xsF, xsO⟩ := xsS
 refine ret_Q (vs := [.slice xsA xs.length xsC, .int .i64 l]) Tryz.func231 rfl Tryz.ntmps231 rfl (fun Q hQ hN => ?_)
 have H0 := Sep.start (w := w) (F := [seen false [.slice xsA xs.length xsC] xs xsF]) (all_cons xsO (by simp))
 refine W_sr (sA rfl rfl (s_nil (W_sr (sM rfl rfl (sM rfl rfl (sV rfl (py_len tu134 rfl) (sV rfl (py_sub rfl rfl (in64 ⟨by omega, by omega⟩)) (sA rfl rfl (s_nil (W_seq (W_sr (sM rfl rfl (sV rfl (py_lss rfl rfl) (s_nil (W_ifd rfl (fun c1 => ?_) (fun c1 => ?_))))))))))))))))
 ·refine W_sr (sA rfl rfl (s_nil (rT hQ Tryz.results231 rfl ?_)))
  exact ⟨H0.ext, by rw [if_pos (by rw [szL_eq (f := szRec)]; omega)]⟩
 ·refine W_skip (W_seq (W_sr (sA rfl rfl (s_nil (W_block (W_loop (γ := Nat × Int) (fun (k, m) => [(0, .slice xsA xs.length xsC), (1, .int .i64 m), (5, .int .i64 k)]) (fun (k, m) w' => Sep No w [] [seen false [.slice xsA xs.length xsC] xs xsF] w' ∧ k ≤ xs.length ∧ 0 ≤ m ∧ m = l - xs.length - sumN (fun i => szRec (xs.getD i default)) k) (fun (k, m) => xs.length - k) (0, _) ⟨rfl, rfl, rfl, trivial⟩ ⟨H0, by omega, by omega, by simp only [sumN]; omega⟩ (fun (k, m) w1 H1 => ?_)))))))
  obtain ⟨H1, hk, hm, hs⟩ := H1
  refine W_seq (W_sr (sM rfl rfl (sM rfl rfl (sV rfl (py_len tu134 rfl) (sV rfl (py_lss rfl rfl) (s_nil (W_ifd rfl (fun c2 => ?_) (fun c2 => ?_))))))))
  ·refine W_skip (W_seq (W_block (W_seq ?_)))
   obtain ⟨eb1, eo1, es1, ef1, ee1, ec1, eO1, eH1, em1⟩ := elem_st (H1.seen 0 rfl) k (by omega)
   obtain ⟨ea1, ek1, ea2, ek2, ea3, ek3, eg1, eg2, eg3, rfl, eq1, eK1, eo2, eo3, eo4⟩ := own_Rec eO1
   have eK1U := eK1
   unfold Rec.Ok at eK1U
   try unfold I64ok at eK1U
   try unfold maxLen at eK1U
   have eP1 := H1.look1 0 rfl eo2 (fun b hb => eH1 b (by rw [eq1]; simp [hb]))
   have eL1 := oL eo2
   have eP2 := eP1.look1 0 rfl eo3 (fun b hb => eH1 b (by rw [eq1]; simp [hb]))
   have eL2 := oL eo3
   have eP3 := eP2.look1 0 rfl eo4 (fun b hb => eH1 b (by rw [eq1]; simp [hb]))
   have eL3 := oL eo4
   refine W_reg (sM rfl rfl (sM rfl rfl (sV rfl (py_elz tu134 ts63 rfl rfl ee1 k (by omega) (by omega)) (sV rfl (py_loadS tu63 rfl ts63 rfl rfl ec1) (sM rfl rfl (s_call (wn rfl) rfl rfl (pc_call Tryz.func42 rfl Tryz_nm42 rfl) (Tryz_laws_szRec (by assumption) (eP3.sees 1 rfl) (eP3.sees 2 rfl) (eP3.sees 3 rfl) (by omega)) (fun v1 w2 r1 => ?_)))))))
   obtain ⟨e1, rfl⟩ := r1
   have H2 := eP3.to e1
   refine sA rfl rfl (s_nil (W_sr (sM rfl rfl (sV rfl (py_lss rfl rfl) (s_nil (W_ifd rfl (fun c3 => ?_) (fun c3 => ?_)))))))
   ·refine W_sr (sA rfl rfl (s_nil (rT hQ Tryz.results231 rfl ?_)))
    have sg : sumN (fun i => szRec (xs.getD i default)) (k + 1) = sumN (fun i => szRec (xs.getD i default)) k + szRec (xs.getD k default) := rfl
    have sl := sumN_le (f := (fun i => szRec (xs.getD i default))) (j := k + 1) (k := xs.length) (by omega)
    exact ⟨H2.ext, by rw [if_pos (by rw [szL_eq (f := szRec)]; omega)]⟩
   ·refine W_skip (W_reg (sM rfl rfl (sV rfl (py_add rfl rfl (in64 ⟨by omega, by omega⟩)) (sA rfl rfl (s_nil ?_)))))
    have sg : sumN (fun i => szRec (xs.getD i default)) (k + 1) = sumN (fun i => szRec (xs.getD i default)) k + szRec (xs.getD k default) := rfl
    refine ⟨(k + 1, _), ⟨rfl, rfl, rfl, trivial⟩, ⟨(H2.ftake 1), by omega, by omega, by omega⟩, by dsimp only; omega⟩
  ·refine W_exit (W_sr (sM rfl rfl (sA rfl rfl (s_nil (rT hQ Tryz.results231 rfl ?_)))))
   obtain rfl : k = xs.length := by omega
   exact ⟨H1.ext, congrArg (Value.int .i64) (by rw [szL_eq (f := szRec)]; omega)⟩
theorem Tryz_laws_toRecS {w : World} {xs : List Rec} {xsA : Option Addr} {xsC : Nat} (xsS : Sees w [.slice xsA xs.length xsC] xs) (hl : szL szRec xs ≤ 1048576) : Ret Tryz.prog 236 #[.slice xsA xs.length xsC] w fun v w' => Ext No w w' ∧ (Res w w' [v] xs) := by
 have xsL := sL xsS
 obtain ⟨xsF, xsO⟩ := xsS
 have hl0 : xs.length ≤ 1048576 := by unfold szL at hl; omega
 refine ret_Q (vs := [.slice xsA xs.length xsC]) Tryz.func236 rfl Tryz.ntmps236 rfl (fun Q hQ hN => ?_)
 have H0 := Sep.start (w := w) (F := [seen false [.slice xsA xs.length xsC] xs xsF]) (all_cons xsO (by simp))
 refine W_sr (sA rfl rfl (s_nil (W_sr (sM rfl rfl (sV rfl (py_len tu134 rfl) (s_make (wn rfl) rfl tu30 Tryz_ty68 (show ∀ w, own true w (Value.agg #[.int .i64 0, .int .i64 0, .string ⟨#[]⟩, .int .i64 0, .int .i64 0, .int .i64 0, .slice none 0 0, .slice none 0 0, .slice none 0 0]).cells.toList (default : Rec) [] from fun _ => own_zRec) rfl (by omega) (by unfold maxLen; omega) H0 (fun b1 w1 e1 g1 H1 => ?_)))))))
 refine sA rfl rfl (s_nil (W_seq (W_sr (sA rfl rfl (s_nil (W_block (W_loop (γ := Nat × List Nat) (fun (k, fp) => [(0, .slice xsA xs.length xsC), (3, .slice (some ⟨b1, 0, none⟩) xs.length xs.length), (4, .int .i64 k)]) (fun (k, fp) w' => Sep No w [mine [.slice (some ⟨b1, 0, none⟩) xs.length xs.length] (cp xs k default) fp] [seen false [.slice xsA xs.length xsC] xs xsF] w' ∧ k ≤ xs.length) (fun (k, fp) => xs.length - k) (0, [b1]) ⟨rfl, rfl, rfl, trivial⟩ ⟨cp_zero ▸ H1, by omega⟩ (fun (k, fp) w2 H2 => ?_))))))))
 obtain ⟨H2, hk⟩ := H2
 refine W_seq (W_sr (sM rfl rfl (sM rfl rfl (sV rfl (py_len tu134 rfl) (sV rfl (py_lss rfl rfl) (s_nil (W_ifd rfl (fun c1 => ?_) (fun c1 => ?_))))))))
 ·refine W_skip (W_seq (W_block ?_))
  obtain ⟨hg, hg2⟩ := szL_get hl k (by omega)
  obtain ⟨eb1, eo1, es1, ef1, ee1, ec1, eO1, eH1, em1⟩ := elem_st (H2.seen 0 rfl) k (by omega)
  obtain ⟨ea1, ek1, ea2, ek2, ea3, ek3, eg1, eg2, eg3, rfl, eq1, eK1, eo2, eo3, eo4⟩ := own_Rec eO1
  have eK1U := eK1
  unfold Rec.Ok at eK1U
  try unfold I64ok at eK1U
  try unfold maxLen at eK1U
  have eP1 := H2.look1 0 rfl eo2 (fun b hb => eH1 b (by rw [eq1]; simp [hb]))
  have eL1 := oL eo2
  have eP2 := eP1.look1 0 rfl eo3 (fun b hb => eH1 b (by rw [eq1]; simp [hb]))
  have eL2 := oL eo3
  have eP3 := eP2.look1 0 rfl eo4 (fun b hb => eH1 b (by rw [eq1]; simp [hb]))
  have eL3 := oL eo4
  obtain ⟨eb2, eo5, ee2⟩ := own_addr (eP3.mine 0 rfl) k (by rw [cp_len (xs := xs) (k := k) (by omega)]; omega)
  refine W_reg (sM rfl rfl (sM rfl rfl (sM rfl rfl (sM rfl rfl (sV rfl (py_elz tu134 ts63 rfl rfl ee1 k (by omega) (by omega)) (sV rfl (py_loadS tu63 rfl ts63 rfl rfl ec1) (s_call (wn rfl) rfl rfl (pc_call Tryz.func44 rfl Tryz_nm44 rfl) (Tryz_laws_toRec (by assumption) (eP3.sees 1 rfl) (eP3.sees 2 rfl) (eP3.sees 3 rfl) (by assumption)) (fun v1 w3 r1 => ?_))))))))
  obtain ⟨e2, sa1, sk1, sa2, sk2, sa3, sk3, rfl, r1⟩ := r1
  obtain ⟨fp1, H3⟩ := eP3.res e2 r1
  refine sV rfl (py_elz tu30 ts68 rfl rfl ee2 k (by omega) (by omega)) (s_elst2S (wn rfl) ts68 H3 0 1 rfl rfl rfl k (by rw [cp_len (xs := xs) (k := k) (by omega)]; omega) rfl ee2 rfl (fun w4 fp2 H4 => ?_))
  refine s_nil ?_
  obtain ⟨hg, hg2⟩ := szL_get hl k (by omega)
  refine W_reg (sM rfl rfl (sV rfl (py_add rfl rfl (in64 ⟨by omega, by omega⟩)) (sA rfl rfl (s_nil (⟨(k + 1, _), ⟨rfl, rfl, rfl, trivial⟩, ⟨cp_set (xs := xs) (k := k) (d := default) (by omega) ▸ ((H4.ftake 1).dtake 1), by omega⟩, by dsimp only; omega⟩)))))
 ·refine W_exit (W_sr (sM rfl rfl (sA rfl rfl (s_nil (rT hQ Tryz.results236 rfl ?_)))))
  obtain rfl : k = xs.length := by omega
  exact ⟨H2.ext, by
   have h := H2.out 0 rfl
   rwa [cp_all] at h⟩
theorem Tryz_laws_eqRecS {w : World} {xs ys : List Rec} {xsA ysA : Option Addr} {xsC ysC : Nat} (xsS : Sees w [.slice xsA xs.length xsC] xs) (ysS : Sees w [.slice ysA ys.length ysC] ys) : Ret Tryz.prog 75 #[.slice xsA xs.length xsC, .slice ysA ys.length ysC] w fun v w' => Ext No w w' ∧ (v = .bool (decide (xs = ys))) := by
 have xsL := sL xsS
 obtain ⟨xsF, xsO⟩ := xsS
 have ysL := sL ysS
 obtain ⟨ysF, ysO⟩ := ysS
 refine ret_Q (vs := [.slice xsA xs.length xsC, .slice ysA ys.length ysC]) Tryz.func75 rfl Tryz.ntmps75 rfl (fun Q hQ hN => ?_)
 have H0 := Sep.start (w := w) (F := [seen false [.slice xsA xs.length xsC] xs xsF, seen false [.slice ysA ys.length ysC] ys ysF]) (all_cons xsO (all_cons ysO (by simp)))
 refine W_sr (sA rfl rfl (s_nil (W_seq (W_sr (sM rfl rfl (sV rfl (py_len tu30 rfl) (sM rfl rfl (sV rfl (py_len tu30 rfl) (sV rfl (py_neq rfl rfl) (s_nil (W_ifd rfl (fun c1 => ?_) (fun c1 => ?_))))))))))))
 ·refine W_sr (sA rfl rfl (s_nil (rT hQ Tryz.results75 rfl (⟨H0.ext, ?_⟩))))
  rw [decide_eq_false (fun e => by subst e; exact c1 rfl)]
 ·refine W_skip (W_seq (W_sr (sA rfl rfl (s_nil (W_block (W_loop (γ := Nat) (fun k => [(0, .slice xsA xs.length xsC), (1, .slice ysA ys.length ysC), (5, .int .i64 k)]) (fun k w' => Sep No w [] [seen false [.slice xsA xs.length xsC] xs xsF, seen false [.slice ysA ys.length ysC] ys ysF] w' ∧ k ≤ xs.length ∧ (∀ i, i < k → xs.getD i default = ys.getD i default)) (fun k => xs.length - k) 0 ⟨rfl, rfl, rfl, trivial⟩ ⟨H0, by omega, fun i hi => by omega⟩ (fun k w1 H1 => ?_)))))))
  obtain ⟨H1, hk, he⟩ := H1
  refine W_seq (W_sr (sM rfl rfl (sM rfl rfl (sV rfl (py_len tu30 rfl) (sV rfl (py_lss rfl rfl) (s_nil (W_ifd rfl (fun c2 => ?_) (fun c2 => ?_))))))))
  ·refine W_skip (W_seq (W_block (W_seq ?_)))
   obtain ⟨eb1, eo1, es1, ef1, ee1, ec1, eO1, eH1, em1⟩ := elem_st (H1.seen 0 rfl) k (by omega)
   obtain ⟨ea1, ek1, ea2, ek2, ea3, ek3, eg1, eg2, eg3, rfl, eq1, eK1, eo2, eo3, eo4⟩ := own_Rec eO1
   have eK1U := eK1
   unfold Rec.Ok at eK1U
   try unfold I64ok at eK1U
   try unfold maxLen at eK1U
   have eP1 := H1.look1 0 rfl eo2 (fun b hb => eH1 b (by rw [eq1]; simp [hb]))
   have eL1 := oL eo2
   have eP2 := eP1.look1 0 rfl eo3 (fun b hb => eH1 b (by rw [eq1]; simp [hb]))
   have eL2 := oL eo3
   have eP3 := eP2.look1 0 rfl eo4 (fun b hb => eH1 b (by rw [eq1]; simp [hb]))
   have eL3 := oL eo4
   obtain ⟨eb2, eo5, es2, ef2, ee2, ec2, eO2, eH2, em2⟩ := elem_st (eP3.seen 1 rfl) k (by omega)
   obtain ⟨ea4, ek4, ea5, ek5, ea6, ek6, eg4, eg5, eg6, rfl, eq2, eK2, eo6, eo7, eo8⟩ := own_Rec eO2
   have eK2U := eK2
   unfold Rec.Ok at eK2U
   try unfold I64ok at eK2U
   try unfold maxLen at eK2U
   have eP4 := eP3.look1 1 rfl eo6 (fun b hb => eH2 b (by rw [eq2]; simp [hb]))
   have eL4 := oL eo6
   have eP5 := eP4.look1 1 rfl eo7 (fun b hb => eH2 b (by rw [eq2]; simp [hb]))
   have eL5 := oL eo7
   have eP6 := eP5.look1 1 rfl eo8 (fun b hb => eH2 b (by rw [eq2]; simp [hb]))
   have eL6 := oL eo8
   refine W_drw (S := Ext No _) [(0, true), (1, true), (2, true), (3, true), (4, true), (5, true), (6, true), (7, true), (8, false), (9, false)] (by kernel_rfl) (by kernel_rfl) (by kernel_rfl) rfl (fun _ => Ext.refl.drawn _) (fun q1 => ?_)
   have H2 := eP6.drawn q1
   refine dM rfl rfl rfl (dM rfl rfl rfl (dV rfl rfl (fun zw hx => py_elz tu30 ts68 rfl rfl ee1 k (by omega) (by omega)) (dV rfl rfl (fun zw hx => py_loadS tu68 rfl ts68 rfl rfl (hx.at ec1)) (dM rfl rfl rfl (dM rfl rfl rfl (dV rfl rfl (fun zw hx => py_elz tu30 ts68 rfl rfl ee2 k (by omega) (by omega)) (dV rfl rfl (fun zw hx => py_loadS tu68 rfl ts68 rfl rfl (hx.at ec2)) (d_call rfl (wn rfl) rfl rfl (pc_call Tryz.func47 rfl Tryz_nm47 rfl) (Tryz_laws_eqRec (by assumption) (H2.sees 2 rfl) (H2.sees 3 rfl) (H2.sees 4 rfl) (by assumption) (H2.sees 5 rfl) (H2.sees 6 rfl) (H2.sees 7 rfl)) (fun hS _ _ r _ => hS.trans r.1.no) (fun v1 w2 r1 => ?_)))))))))
   obtain ⟨e1, rfl⟩ := r1
   have H3 := H2.to e1
   refine d_end rfl (wn rfl) rfl rfl (py_not rfl) (d_nil (W_if rfl (fun c3 => ?_) (fun c3 => ?_)))
   ·refine W_sr (sA rfl rfl (s_nil (rT hQ Tryz.results75 rfl (⟨H3.ext, ?_⟩))))
    rw [decide_eq_false (fun e => by subst e; simp at c3)]
   ·refine W_skip (W_reg (sM rfl rfl (sV rfl (py_add rfl rfl (in64 ⟨by omega, by omega⟩)) (sA rfl rfl (s_nil ?_)))))
    have c4 : xs.getD k default = ys.getD k default := by simpa using c3
    refine ⟨k + 1, ⟨rfl, rfl, rfl, trivial⟩, ⟨(H3.ftake 2), by omega, fun i hi => ?_⟩, by dsimp only; omega⟩
    by_cases e : i = k
    ·subst e; exact c4
    ·exact he i (by omega)
  ·refine W_exit (W_sr (sA rfl rfl (s_nil (rT hQ Tryz.results75 rfl (⟨H1.ext, ?_⟩)))))
   rw [decide_eq_true (getD_ext (d := default) (by omega) fun i hi => he i (by omega))]
theorem Tryz_laws_szTape {w : World} {x : Tape} {xA1 : Option Addr} {xC1 : Nat} {l : Int} (xK : x.Ok) (xS1 : Sees w [.slice xA1 x.Recs.length xC1] x.Recs) (hl : -1 ≤ l ∧ l ≤ 1048576) : Ret Tryz.prog 136 #[x.val xA1 xC1, .int .i64 l] w fun v w' => Ext No w w' ∧ (v = .int .i64 (if l - szTape x < 0 then -1 else l - szTape x)) := by
 have xK2 := xK
 unfold Tape.Ok at xK2
 try unfold I64ok at xK2
 try unfold maxLen at xK2
 have xL1 := sL xS1
 obtain ⟨xF1, xO1⟩ := xS1
 refine ret_Q (vs := [x.val xA1 xC1, .int .i64 l]) Tryz.func136 rfl Tryz.ntmps136 rfl (fun Q hQ hN => ?_)
 have H0 := Sep.start (w := w) (F := [seen false [.slice xA1 x.Recs.length xC1] x.Recs xF1]) (all_cons xO1 (by simp))
 refine W_sr (s_box (wn rfl) rfl rfl H0 (fun b1 w1 e1 g1 H1 => ?_))
 refine sA rfl rfl (s_nil (W_sr (sV rfl (py_field tu136 rfl ts134 rfl rfl) (sV rfl (py_load tu134 rfl rfl (cell_atL (H1.box 0 rfl) rfl)) (sM rfl rfl (s_call (wn rfl) rfl rfl (pc_call Tryz.func231 rfl Tryz_nm231 rfl) (Tryz_laws_szRecS (H1.sees 0 rfl) (by omega)) (fun v1 w2 r1 => ?_)))))))
 obtain ⟨e2, rfl⟩ := r1
 have H2 := H1.to e2
 refine sA rfl rfl (s_nil (W_seq (W_sr (sM rfl rfl (sV rfl (py_lss rfl rfl) (s_nil (W_ifd rfl (fun c1 => ?_) (fun c1 => ?_))))))))
 ·refine W_sr (sA rfl rfl (s_nil (rT hQ Tryz.results136 rfl ?_)))
  exact ⟨H2.ext, congrArg (Value.int .i64) (by unfold szTape; omega)⟩
 ·refine W_skip (W_sr (sM rfl rfl (sA rfl rfl (s_nil (rT hQ Tryz.results136 rfl ?_)))))
  exact ⟨H2.ext, congrArg (Value.int .i64) (by unfold szTape; omega)⟩
theorem Tryz_laws_toTape {w : World} {x : Tape} {xA1 : Option Addr} {xC1 : Nat} (xK : x.Ok) (xS1 : Sees w [.slice xA1 x.Recs.length xC1] x.Recs) (hb : szTape x ≤ 1048576) : Ret Tryz.prog 142 #[x.val xA1 xC1] w fun v w' => Ext No w w' ∧ (∃ A1 C1, v = x.val A1 C1 ∧ Res w w' [.bool x.Wiped, .slice A1 x.Recs.length C1] x) := by
 have xK2 := xK
 unfold Tape.Ok at xK2
 try unfold I64ok at xK2
 try unfold maxLen at xK2
 have xL1 := sL xS1
 obtain ⟨xF1, xO1⟩ := xS1
 unfold szTape at hb
 refine ret_Q (vs := [x.val xA1 xC1]) Tryz.func142 rfl Tryz.ntmps142 rfl (fun Q hQ hN => ?_)
 have H0 := Sep.start (w := w) (F := [seen false [.slice xA1 x.Recs.length xC1] x.Recs xF1]) (all_cons xO1 (by simp))
 refine W_sr (s_box (wn rfl) rfl rfl H0 (fun b1 w1 e1 g1 H1 => ?_))
 refine s_var (wn rfl) rfl Tryz.zeroValue139 H1 (fun b2 w2 e2 g2 H2 => ?_)
 refine s_nil (W_sr (s_var (wn rfl) rfl Tryz.zeroValue139 H2 (fun b3 w3 e3 g3 H3 => ?_)))
 refine s_nil (W_sr (sV rfl (py_field tu136 rfl ts4 rfl rfl) (sV rfl (py_load tu4 rfl rfl (cell_atL (H3.box 0 rfl) rfl)) (sV rfl (py_field tu139 rfl ts4 rfl rfl) (s_sto (wn rfl) ts4 rfl rfl rfl H3 2 rfl rfl (fun w4 e4 H4 => ?_))))))
 dsimp only [lNA, lCA, lSZ, lSS, layL] at H4
 refine s_nil (W_sr (sV rfl (py_field tu136 rfl ts134 rfl rfl) (sV rfl (py_load tu134 rfl rfl (cell_atL (H4.box 0 rfl) rfl)) (s_call (wn rfl) rfl rfl (pc_call Tryz.func236 rfl Tryz_nm236 rfl) (Tryz_laws_toRecS (H4.sees 0 rfl) (by first | assumption | omega)) (fun v1 w5 r1 => ?_)))))
 obtain ⟨e5, r1⟩ := r1
 obtain ⟨fp1, H5⟩ := H4.res e5 r1
 obtain ⟨a1, k1, q1⟩ := own_slice (H5.mine 3 rfl)
 cases q1
 refine sV rfl (py_field tu139 rfl ts30 rfl rfl) (s_sto (wn rfl) ts30 rfl rfl rfl H5 2 rfl rfl (fun w6 e6 H6 => ?_))
 dsimp only [lNA, lCA, lSZ, lSS, layL] at H6
 refine s_nil (W_sr (sV rfl (py_loadS tu139 rfl ts139 rfl rfl (At.whole (H6.box 2 rfl))) (s_stoS (wn rfl) ts139 rfl rfl rfl rfl H6 1 rfl rfl (fun w7 e7 H7 => ?_))))
 dsimp only [lNA, lCA, lSZ, lSS, layL] at H7
 refine s_nil (W_ret (hQ _ _ (finC Tryz.results142 rfl (run_loadVarS tu139 rfl ts139 rfl (At.whole (H7.box 1 rfl))) ?_)))
 exact ⟨H7.ext, _, _, rfl, Tape.out (H7.sub (.cons _ (.cons _ (.cons _ (.cons_cons _ List.Sublist.slnil))))) xK⟩
theorem Tryz_laws_eqTape {w : World} {a : Tape} {aA1 : Option Addr} {aC1 : Nat} {b : Tape} {bA1 : Option Addr} {bC1 : Nat} (aK : a.Ok) (aS1 : Sees w [.slice aA1 a.Recs.length aC1] a.Recs) (bK : b.Ok) (bS1 : Sees w [.slice bA1 b.Recs.length bC1] b.Recs) : Ret Tryz.prog 153 #[a.val aA1 aC1, b.val bA1 bC1] w fun v w' => Ext No w w' ∧ (v = .bool (decide (a = b))) := by
 have aK2 := aK
 unfold Tape.Ok at aK2
 try unfold I64ok at aK2
 try unfold maxLen at aK2
 have aL1 := sL aS1
 obtain ⟨aF1, aO1⟩ := aS1
 have bK2 := bK
 unfold Tape.Ok at bK2
 try unfold I64ok at bK2
 try unfold maxLen at bK2
 have bL1 := sL bS1
 obtain ⟨bF1, bO1⟩ := bS1
 refine ret_Q (vs := [a.val aA1 aC1, b.val bA1 bC1]) Tryz.func153 rfl Tryz.ntmps153 rfl (fun Q hQ hN => ?_)
 have H0 := Sep.start (w := w) (F := [seen false [.slice aA1 a.Recs.length aC1] a.Recs aF1, seen false [.slice bA1 b.Recs.length bC1] b.Recs bF1]) (all_cons aO1 (all_cons bO1 (by simp)))
 refine W_sr (s_box (wn rfl) rfl rfl H0 (fun b1 w1 e1 g1 H1 => ?_))
 refine s_box (wn rfl) rfl rfl H1 (fun b2 w2 e2 g2 H2 => ?_)
 refine sA rfl rfl (s_nil (W_seq (W_sr (sV rfl (py_field tu139 rfl ts4 rfl rfl) (sV rfl (py_load tu4 rfl rfl (cell_atL (H2.box 0 rfl) rfl)) (sV rfl (py_field tu139 rfl ts4 rfl rfl) (sV rfl (py_load tu4 rfl rfl (cell_atL (H2.box 1 rfl) rfl)) (sV rfl (py_bneq tu4 rfl rfl) (s_nil (W_if rfl (fun c1 => ?_) (fun c1 => ?_)))))))))))
 ·refine W_sr (sA rfl rfl (s_nil (rT hQ Tryz.results153 rfl (⟨H2.ext, ?_⟩))))
  rw [decide_eq_false (fun e => by subst e; first | exact c1 rfl | simp at c1)]
 ·refine W_skip (W_seq (W_sr (sV rfl (py_field tu139 rfl ts30 rfl rfl) (sV rfl (py_load tu30 rfl rfl (cell_atL (H2.box 0 rfl) rfl)) (sV rfl (py_field tu139 rfl ts30 rfl rfl) (sV rfl (py_load tu30 rfl rfl (cell_atL (H2.box 1 rfl) rfl)) (s_call (wn rfl) rfl rfl (pc_call Tryz.func75 rfl Tryz_nm75 rfl) (Tryz_laws_eqRecS (H2.sees 0 rfl) (H2.sees 1 rfl)) (fun v1 w3 r1 => ?_))))))))
  obtain ⟨e3, rfl⟩ := r1
  have H3 := H2.to e3
  refine sV rfl (py_not rfl) (s_nil (W_if rfl (fun c2 => ?_) (fun c2 => ?_)))
  ·refine W_sr (sA rfl rfl (s_nil (rT hQ Tryz.results153 rfl (⟨H3.ext, ?_⟩))))
   rw [decide_eq_false (fun e => by subst e; first | exact c2 rfl | simp at c2)]
  ·refine W_skip (W_sr (sA rfl rfl (s_nil (rT hQ Tryz.results153 rfl (⟨H3.ext, ?_⟩)))))
   rw [decide_eq_true]
   cases a; cases b; simp_all [str_beq]
theorem Tryz_laws_szTapeS {w : World} {xs : List Tape} {xsA : Option Addr} {xsC : Nat} {l : Int} (xsS : Sees w [.slice xsA xs.length xsC] xs) (hl : -1 ≤ l ∧ l ≤ 1048576) : Ret Tryz.prog 61 #[.slice xsA xs.length xsC, .int .i64 l] w fun v w' => Ext No w w' ∧ (v = .int .i64 (if l - szL szTape xs < 0 then -1 else l - szL szTape xs)) := by
 have xsL := sL xsS
 obtain ⟨xsF, xsO⟩ := xsS
 refine ret_Q (vs := [.slice xsA xs.length xsC, .int .i64 l]) Tryz.func61 rfl Tryz.ntmps61 rfl (fun Q hQ hN => ?_)
 have H0 := Sep.start (w := w) (F := [seen false [.slice xsA xs.length xsC] xs xsF]) (all_cons xsO (by simp))
 refine W_sr (sA rfl rfl (s_nil (W_sr (sM rfl rfl (sM rfl rfl (sV rfl (py_len tu26 rfl) (sV rfl (py_sub rfl rfl (in64 ⟨by omega, by omega⟩)) (sA rfl rfl (s_nil (W_seq (W_sr (sM rfl rfl (sV rfl (py_lss rfl rfl) (s_nil (W_ifd rfl (fun c1 => ?_) (fun c1 => ?_))))))))))))))))
 ·refine W_sr (sA rfl rfl (s_nil (rT hQ Tryz.results61 rfl ?_)))
  exact ⟨H0.ext, by rw [if_pos (by rw [szL_eq (f := szTape)]; omega)]⟩
 ·refine W_skip (W_seq (W_sr (sA rfl rfl (s_nil (W_block (W_loop (γ := Nat × Int) (fun (k, m) => [(0, .slice xsA xs.length xsC), (1, .int .i64 m), (5, .int .i64 k)]) (fun (k, m) w' => Sep No w [] [seen false [.slice xsA xs.length xsC] xs xsF] w' ∧ k ≤ xs.length ∧ 0 ≤ m ∧ m = l - xs.length - sumN (fun i => szTape (xs.getD i default)) k) (fun (k, m) => xs.length - k) (0, _) ⟨rfl, rfl, rfl, trivial⟩ ⟨H0, by omega, by omega, by simp only [sumN]; omega⟩ (fun (k, m) w1 H1 => ?_)))))))
  obtain ⟨H1, hk, hm, hs⟩ := H1
  refine W_seq (W_sr (sM rfl rfl (sM rfl rfl (sV rfl (py_len tu26 rfl) (sV rfl (py_lss rfl rfl) (s_nil (W_ifd rfl (fun c2 => ?_) (fun c2 => ?_))))))))
  ·refine W_skip (W_seq (W_block (W_seq ?_)))
   obtain ⟨eb1, eo1, es1, ef1, ee1, ec1, eO1, eH1, em1⟩ := elem_st (H1.seen 0 rfl) k (by omega)
   obtain ⟨ea1, ek1, eg1, rfl, eq1, eK1, eo2⟩ := own_Tape eO1
   have eP1 := H1.look1 0 rfl eo2 (fun b hb => eH1 b (by rw [eq1]; simp [hb]))
   have eL1 := oL eo2
   refine W_reg (sM rfl rfl (sM rfl rfl (sV rfl (py_elz tu26 ts136 rfl rfl ee1 k (by omega) (by omega)) (sV rfl (py_loadS tu136 rfl ts136 rfl rfl ec1) (sM rfl rfl (s_call (wn rfl) rfl rfl (pc_call Tryz.func136 rfl Tryz_nm136 rfl) (Tryz_laws_szTape (by assumption) (eP1.sees 1 rfl) (by omega)) (fun v1 w2 r1 => ?_)))))))
   obtain ⟨e1, rfl⟩ := r1
   have H2 := eP1.to e1
   refine sA rfl rfl (s_nil (W_sr (sM rfl rfl (sV rfl (py_lss rfl rfl) (s_nil (W_ifd rfl (fun c3 => ?_) (fun c3 => ?_)))))))
   ·refine W_sr (sA rfl rfl (s_nil (rT hQ Tryz.results61 rfl ?_)))
    have sg : sumN (fun i => szTape (xs.getD i default)) (k + 1) = sumN (fun i => szTape (xs.getD i default)) k + szTape (xs.getD k default) := rfl
    have sl := sumN_le (f := (fun i => szTape (xs.getD i default))) (j := k + 1) (k := xs.length) (by omega)
    exact ⟨H2.ext, by rw [if_pos (by rw [szL_eq (f := szTape)]; omega)]⟩
   ·refine W_skip (W_reg (sM rfl rfl (sV rfl (py_add rfl rfl (in64 ⟨by omega, by omega⟩)) (sA rfl rfl (s_nil ?_)))))
    have sg : sumN (fun i => szTape (xs.getD i default)) (k + 1) = sumN (fun i => szTape (xs.getD i default)) k + szTape (xs.getD k default) := rfl
    refine ⟨(k + 1, _), ⟨rfl, rfl, rfl, trivial⟩, ⟨(H2.ftake 1), by omega, by omega, by omega⟩, by dsimp only; omega⟩
  ·refine W_exit (W_sr (sM rfl rfl (sA rfl rfl (s_nil (rT hQ Tryz.results61 rfl ?_)))))
   obtain rfl : k = xs.length := by omega
   exact ⟨H1.ext, congrArg (Value.int .i64) (by rw [szL_eq (f := szTape)]; omega)⟩
theorem Tryz_laws_toTapeS {w : World} {xs : List Tape} {xsA : Option Addr} {xsC : Nat} (xsS : Sees w [.slice xsA xs.length xsC] xs) (hl : szL szTape xs ≤ 1048576) : Ret Tryz.prog 69 #[.slice xsA xs.length xsC] w fun v w' => Ext No w w' ∧ (Res w w' [v] xs) := by
 have xsL := sL xsS
 obtain ⟨xsF, xsO⟩ := xsS
 have hl0 : xs.length ≤ 1048576 := by unfold szL at hl; omega
 refine ret_Q (vs := [.slice xsA xs.length xsC]) Tryz.func69 rfl Tryz.ntmps69 rfl (fun Q hQ hN => ?_)
 have H0 := Sep.start (w := w) (F := [seen false [.slice xsA xs.length xsC] xs xsF]) (all_cons xsO (by simp))
 refine W_sr (sA rfl rfl (s_nil (W_sr (sM rfl rfl (sV rfl (py_len tu26 rfl) (s_make (wn rfl) rfl tu36 Tryz_ty139 (show ∀ w, own true w (Value.agg #[.bool false, .slice none 0 0]).cells.toList (default : Tape) [] from fun _ => own_zTape) rfl (by omega) (by unfold maxLen; omega) H0 (fun b1 w1 e1 g1 H1 => ?_)))))))
 refine sA rfl rfl (s_nil (W_seq (W_sr (sA rfl rfl (s_nil (W_block (W_loop (γ := Nat × List Nat) (fun (k, fp) => [(0, .slice xsA xs.length xsC), (3, .slice (some ⟨b1, 0, none⟩) xs.length xs.length), (4, .int .i64 k)]) (fun (k, fp) w' => Sep No w [mine [.slice (some ⟨b1, 0, none⟩) xs.length xs.length] (cp xs k default) fp] [seen false [.slice xsA xs.length xsC] xs xsF] w' ∧ k ≤ xs.length) (fun (k, fp) => xs.length - k) (0, [b1]) ⟨rfl, rfl, rfl, trivial⟩ ⟨cp_zero ▸ H1, by omega⟩ (fun (k, fp) w2 H2 => ?_))))))))
 obtain ⟨H2, hk⟩ := H2
 refine W_seq (W_sr (sM rfl rfl (sM rfl rfl (sV rfl (py_len tu26 rfl) (sV rfl (py_lss rfl rfl) (s_nil (W_ifd rfl (fun c1 => ?_) (fun c1 => ?_))))))))
 ·refine W_skip (W_seq (W_block ?_))
  obtain ⟨hg, hg2⟩ := szL_get hl k (by omega)
  obtain ⟨eb1, eo1, es1, ef1, ee1, ec1, eO1, eH1, em1⟩ := elem_st (H2.seen 0 rfl) k (by omega)
  obtain ⟨ea1, ek1, eg1, rfl, eq1, eK1, eo2⟩ := own_Tape eO1
  have eP1 := H2.look1 0 rfl eo2 (fun b hb => eH1 b (by rw [eq1]; simp [hb]))
  have eL1 := oL eo2
  obtain ⟨eb2, eo3, ee2⟩ := own_addr (eP1.mine 0 rfl) k (by rw [cp_len (xs := xs) (k := k) (by omega)]; omega)
  refine W_reg (sM rfl rfl (sM rfl rfl (sM rfl rfl (sM rfl rfl (sV rfl (py_elz tu26 ts136 rfl rfl ee1 k (by omega) (by omega)) (sV rfl (py_loadS tu136 rfl ts136 rfl rfl ec1) (s_call (wn rfl) rfl rfl (pc_call Tryz.func142 rfl Tryz_nm142 rfl) (Tryz_laws_toTape (by assumption) (eP1.sees 1 rfl) (by assumption)) (fun v1 w3 r1 => ?_))))))))
  obtain ⟨e2, sa1, sk1, rfl, r1⟩ := r1
  obtain ⟨fp1, H3⟩ := eP1.res e2 r1
  refine sV rfl (py_elz tu36 ts139 rfl rfl ee2 k (by omega) (by omega)) (s_elst2S (wn rfl) ts139 H3 0 1 rfl rfl rfl k (by rw [cp_len (xs := xs) (k := k) (by omega)]; omega) rfl ee2 rfl (fun w4 fp2 H4 => ?_))
  refine s_nil ?_
  obtain ⟨hg, hg2⟩ := szL_get hl k (by omega)
  refine W_reg (sM rfl rfl (sV rfl (py_add rfl rfl (in64 ⟨by omega, by omega⟩)) (sA rfl rfl (s_nil (⟨(k + 1, _), ⟨rfl, rfl, rfl, trivial⟩, ⟨cp_set (xs := xs) (k := k) (d := default) (by omega) ▸ ((H4.ftake 1).dtake 1), by omega⟩, by dsimp only; omega⟩)))))
 ·refine W_exit (W_sr (sM rfl rfl (sA rfl rfl (s_nil (rT hQ Tryz.results69 rfl ?_)))))
  obtain rfl : k = xs.length := by omega
  exact ⟨H2.ext, by
   have h := H2.out 0 rfl
   rwa [cp_all] at h⟩
theorem Tryz_laws_eqTapeS {w : World} {xs : List Tape} {xsA : Option Addr} {xsC : Nat} {ys : List Tape} {ysA : Option Addr} {ysC : Nat} (xsS : Sees w [.slice xsA xs.length xsC] xs) (ysS : Sees w [.slice ysA ys.length ysC] ys) : Ret Tryz.prog 79 #[.slice xsA xs.length xsC, .slice ysA ys.length ysC] w fun v w' => Ext No w w' ∧ (v = .bool (decide (xs = ys))) := by
 have xsL := sL xsS
 obtain ⟨xsF, xsO⟩ := xsS
 have ysL := sL ysS
 obtain ⟨ysF, ysO⟩ := ysS
 refine ret_Q (vs := [.slice xsA xs.length xsC, .slice ysA ys.length ysC]) Tryz.func79 rfl Tryz.ntmps79 rfl (fun Q hQ hN => ?_)
 have H0 := Sep.start (w := w) (F := [seen false [.slice xsA xs.length xsC] xs xsF, seen false [.slice ysA ys.length ysC] ys ysF]) (all_cons xsO (all_cons ysO (by simp)))
 refine W_sr (sA rfl rfl (s_nil (W_seq (W_sr (sM rfl rfl (sV rfl (py_len tu36 rfl) (sM rfl rfl (sV rfl (py_len tu36 rfl) (sV rfl (py_neq rfl rfl) (s_nil (W_ifd rfl (fun c1 => ?_) (fun c1 => ?_))))))))))))
 ·refine W_sr (sA rfl rfl (s_nil (rT hQ Tryz.results79 rfl (⟨H0.ext, ?_⟩))))
  rw [decide_eq_false (fun e => by subst e; exact c1 rfl)]
 ·refine W_skip (W_seq (W_sr (sA rfl rfl (s_nil (W_block (W_loop (γ := Nat) (fun k => [(0, .slice xsA xs.length xsC), (1, .slice ysA ys.length ysC), (5, .int .i64 k)]) (fun k w' => Sep No w [] [seen false [.slice xsA xs.length xsC] xs xsF, seen false [.slice ysA ys.length ysC] ys ysF] w' ∧ k ≤ xs.length ∧ (∀ i, i < k → xs.getD i default = ys.getD i default)) (fun k => xs.length - k) 0 ⟨rfl, rfl, rfl, trivial⟩ ⟨H0, by omega, fun i hi => by omega⟩ (fun k w1 H1 => ?_)))))))
  obtain ⟨H1, hk, he⟩ := H1
  refine W_seq (W_sr (sM rfl rfl (sM rfl rfl (sV rfl (py_len tu36 rfl) (sV rfl (py_lss rfl rfl) (s_nil (W_ifd rfl (fun c2 => ?_) (fun c2 => ?_))))))))
  ·refine W_skip (W_seq (W_block (W_seq ?_)))
   obtain ⟨eb1, eo1, es1, ef1, ee1, ec1, eO1, eH1, em1⟩ := elem_st (H1.seen 0 rfl) k (by omega)
   obtain ⟨ea1, ek1, eg1, rfl, eq1, eK1, eo2⟩ := own_Tape eO1
   have eP1 := H1.look1 0 rfl eo2 (fun b hb => eH1 b (by rw [eq1]; simp [hb]))
   have eL1 := oL eo2
   obtain ⟨eb2, eo3, es2, ef2, ee2, ec2, eO2, eH2, em2⟩ := elem_st (eP1.seen 1 rfl) k (by omega)
   obtain ⟨ea2, ek2, eg2, rfl, eq2, eK2, eo4⟩ := own_Tape eO2
   have eP2 := eP1.look1 1 rfl eo4 (fun b hb => eH2 b (by rw [eq2]; simp [hb]))
   have eL2 := oL eo4
   refine W_drw (S := Ext No _) [(0, true), (1, true), (2, true), (3, true), (4, true), (5, true), (6, true), (7, true), (8, false), (9, false)] (by kernel_rfl) (by kernel_rfl) (by kernel_rfl) rfl (fun _ => Ext.refl.drawn _) (fun q1 => ?_)
   have H2 := eP2.drawn q1
   refine dM rfl rfl rfl (dM rfl rfl rfl (dV rfl rfl (fun zw hx => py_elz tu36 ts139 rfl rfl ee1 k (by omega) (by omega)) (dV rfl rfl (fun zw hx => py_loadS tu139 rfl ts139 rfl rfl (hx.at ec1)) (dM rfl rfl rfl (dM rfl rfl rfl (dV rfl rfl (fun zw hx => py_elz tu36 ts139 rfl rfl ee2 k (by omega) (by omega)) (dV rfl rfl (fun zw hx => py_loadS tu139 rfl ts139 rfl rfl (hx.at ec2)) (d_call rfl (wn rfl) rfl rfl (pc_call Tryz.func153 rfl Tryz_nm153 rfl) (Tryz_laws_eqTape (by assumption) (H2.sees 2 rfl) (by assumption) (H2.sees 3 rfl)) (fun hS _ _ r _ => hS.trans r.1.no) (fun v1 w2 r1 => ?_)))))))))
   obtain ⟨e1, rfl⟩ := r1
   have H3 := H2.to e1
   refine d_end rfl (wn rfl) rfl rfl (py_not rfl) (d_nil (W_if rfl (fun c3 => ?_) (fun c3 => ?_)))
   ·refine W_sr (sA rfl rfl (s_nil (rT hQ Tryz.results79 rfl (⟨H3.ext, ?_⟩))))
    rw [decide_eq_false (fun e => by subst e; simp at c3)]
   ·refine W_skip (W_reg (sM rfl rfl (sV rfl (py_add rfl rfl (in64 ⟨by omega, by omega⟩)) (sA rfl rfl (s_nil ?_)))))
    have c4 : xs.getD k default = ys.getD k default := by simpa using c3
    refine ⟨k + 1, ⟨rfl, rfl, rfl, trivial⟩, ⟨(H3.ftake 2), by omega, fun i hi => ?_⟩, by dsimp only; omega⟩
    by_cases e : i = k
    ·subst e; exact c4
    ·exact he i (by omega)
  ·refine W_exit (W_sr (sA rfl rfl (s_nil (rT hQ Tryz.results79 rfl (⟨H1.ext, ?_⟩)))))
   rw [decide_eq_true (getD_ext (d := default) (by omega) fun i hi => he i (by omega))]
theorem Tryz_laws_szWorld {w : World} {x : Wld} {xA9 xA10 xA11 : Option Addr} {xC9 xC10 xC11 : Nat} {l : Int} (xK : x.Ok) (xS9 : Sees w [.slice xA9 x.Groups.length xC9] x.Groups) (xS10 : Sees w [.slice xA10 x.On.length xC10] x.On) (xS11 : Sees w [.slice xA11 x.Tapes.length xC11] x.Tapes) (hl : -1 ≤ l ∧ l ≤ 1048576) : Ret Tryz.prog 15 #[x.val xA9 xC9 xA10 xC10 xA11 xC11, .int .i64 l] w fun v w' => Ext No w w' ∧ (v = .int .i64 (if l - szWld x < 0 then -1 else l - szWld x)) := by
 have xK2 := xK
 unfold Wld.Ok Shape.Ok at xK2
 try unfold I64ok at xK2
 try unfold maxLen at xK2
 have xL9 := sL xS9
 obtain ⟨xF9, xO9⟩ := xS9
 have xL10 := sL xS10
 obtain ⟨xF10, xO10⟩ := xS10
 have xL11 := sL xS11
 obtain ⟨xF11, xO11⟩ := xS11
 refine ret_Q (vs := [x.val xA9 xC9 xA10 xC10 xA11 xC11, .int .i64 l]) Tryz.func15 rfl Tryz.ntmps15 rfl (fun Q hQ hN => ?_)
 have H0 := Sep.start (w := w) (F := [seen false [.slice xA9 x.Groups.length xC9] x.Groups xF9, seen false [.slice xA10 x.On.length xC10] x.On xF10, seen false [.slice xA11 x.Tapes.length xC11] x.Tapes xF11]) (all_cons xO9 (all_cons xO10 (all_cons xO11 (by simp))))
 refine W_sr (s_box (wn rfl) rfl rfl H0 (fun b1 w1 e1 g1 H1 => ?_))
 refine sA rfl rfl (s_nil (W_sr (sV rfl (py_field tu28 rfl ts24 rfl rfl) (sV rfl (py_load tu24 rfl rfl (cell_atL (H1.box 0 rfl) rfl)) (sM rfl rfl (s_call (wn rfl) rfl rfl (pc_call Tryz.func59 rfl Tryz_nm59 rfl) (Tryz_laws_szDriveSS (H1.sees 0 rfl) (by omega)) (fun v1 w2 r1 => ?_)))))))
 obtain ⟨e2, rfl⟩ := r1
 have H2 := H1.to e2
 refine sA rfl rfl (s_nil (W_seq (W_sr (sM rfl rfl (sV rfl (py_lss rfl rfl) (s_nil (W_ifd rfl (fun c1 => ?_) (fun c1 => ?_))))))))
 ·refine W_sr (sA rfl rfl (s_nil (rT hQ Tryz.results15 rfl ?_)))
  exact ⟨H2.ext, congrArg (Value.int .i64) (by unfold szWld; omega)⟩
 ·refine W_skip (W_sr (sV rfl (py_field tu28 rfl ts25 rfl rfl) (sV rfl (py_load tu25 rfl rfl (cell_atL (H2.box 0 rfl) rfl)) (sM rfl rfl (s_call (wn rfl) rfl rfl (pc_call Tryz.func60 rfl Tryz_nm60 rfl) (Tryz_laws_szInt64S (H2.sees 1 rfl) (by omega)) (fun v2 w3 r2 => ?_))))))
  obtain ⟨e3, rfl⟩ := r2
  have H3 := H2.to e3
  refine sA rfl rfl (s_nil (W_seq (W_sr (sM rfl rfl (sV rfl (py_lss rfl rfl) (s_nil (W_ifd rfl (fun c2 => ?_) (fun c2 => ?_))))))))
  ·refine W_sr (sA rfl rfl (s_nil (rT hQ Tryz.results15 rfl ?_)))
   exact ⟨H3.ext, congrArg (Value.int .i64) (by unfold szWld; omega)⟩
  ·refine W_skip (W_sr (sV rfl (py_field tu28 rfl ts26 rfl rfl) (sV rfl (py_load tu26 rfl rfl (cell_atL (H3.box 0 rfl) rfl)) (sM rfl rfl (s_call (wn rfl) rfl rfl (pc_call Tryz.func61 rfl Tryz_nm61 rfl) (Tryz_laws_szTapeS (H3.sees 2 rfl) (by omega)) (fun v3 w4 r3 => ?_))))))
   obtain ⟨e4, rfl⟩ := r3
   have H4 := H3.to e4
   refine sA rfl rfl (s_nil (W_seq (W_sr (sM rfl rfl (sV rfl (py_lss rfl rfl) (s_nil (W_ifd rfl (fun c3 => ?_) (fun c3 => ?_))))))))
   ·refine W_sr (sA rfl rfl (s_nil (rT hQ Tryz.results15 rfl ?_)))
    exact ⟨H4.ext, congrArg (Value.int .i64) (by unfold szWld; omega)⟩
   ·refine W_skip (W_sr (sM rfl rfl (sA rfl rfl (s_nil (rT hQ Tryz.results15 rfl ?_)))))
    exact ⟨H4.ext, congrArg (Value.int .i64) (by unfold szWld; omega)⟩
theorem Tryz_laws_toWorld {w : World} {x : Wld} {xA9 xA10 xA11 : Option Addr} {xC9 xC10 xC11 : Nat} (xK : x.Ok) (xS9 : Sees w [.slice xA9 x.Groups.length xC9] x.Groups) (xS10 : Sees w [.slice xA10 x.On.length xC10] x.On) (xS11 : Sees w [.slice xA11 x.Tapes.length xC11] x.Tapes) (hb : szWld x ≤ 1048576) : Ret Tryz.prog 17 #[x.val xA9 xC9 xA10 xC10 xA11 xC11] w fun v w' => Ext No w w' ∧ (∃ A9 C9 A10 C10 A11 C11, v = x.val A9 C9 A10 C10 A11 C11 ∧ Res w w' [.int .i64 x.Shape.Groups, .int .i64 x.Shape.Column, .int .i64 x.Shape.Data, .int .i64 x.Shape.Spare, .int .i64 x.Shape.Rows, .int .i64 x.Shape.Cap, .int .i64 x.Shape.Batch, .int .i64 x.Shape.Queue, .int .i64 x.Shape.Stage, .slice A9 x.Groups.length C9, .slice A10 x.On.length C10, .slice A11 x.Tapes.length C11, .int .i64 x.Writes, .int .i64 x.Stop, .bool x.Down] x) := by
 have xK2 := xK
 unfold Wld.Ok Shape.Ok at xK2
 try unfold I64ok at xK2
 try unfold maxLen at xK2
 have xL9 := sL xS9
 obtain ⟨xF9, xO9⟩ := xS9
 have xL10 := sL xS10
 obtain ⟨xF10, xO10⟩ := xS10
 have xL11 := sL xS11
 obtain ⟨xF11, xO11⟩ := xS11
 unfold szWld at hb
 refine ret_Q (vs := [x.val xA9 xC9 xA10 xC10 xA11 xC11]) Tryz.func17 rfl Tryz.ntmps17 rfl (fun Q hQ hN => ?_)
 have H0 := Sep.start (w := w) (F := [seen false [.slice xA9 x.Groups.length xC9] x.Groups xF9, seen false [.slice xA10 x.On.length xC10] x.On xF10, seen false [.slice xA11 x.Tapes.length xC11] x.Tapes xF11]) (all_cons xO9 (all_cons xO10 (all_cons xO11 (by simp))))
 refine W_sr (s_box (wn rfl) rfl rfl H0 (fun b1 w1 e1 g1 H1 => ?_))
 refine s_var (wn rfl) rfl Tryz.zeroValue38 H1 (fun b2 w2 e2 g2 H2 => ?_)
 refine s_nil (W_sr (s_var (wn rfl) rfl Tryz.zeroValue38 H2 (fun b3 w3 e3 g3 H3 => ?_)))
 refine s_nil (W_sr (sV rfl (py_field tu28 rfl ts23 rfl rfl) (sV rfl (py_loadS tu23 rfl ts23 rfl rfl (At.sub (H3.box 0 rfl) 9)) (s_call (wn rfl) rfl rfl (pc_call Tryz.func66 rfl Tryz_nm66 rfl) Tryz_laws_toShape (fun v1 w4 r1 => ?_)))))
 obtain ⟨e4, rfl⟩ := r1
 have H4 := H3.to e4
 refine sV rfl (py_field tu38 rfl ts34 rfl rfl) (s_stoS (wn rfl) ts34 rfl rfl rfl rfl H4 2 rfl rfl (fun w5 e5 H5 => ?_))
 dsimp only [lNA, lCA, lSZ, lSS, layL] at H5
 refine s_nil (W_sr (sV rfl (py_field tu28 rfl ts24 rfl rfl) (sV rfl (py_load tu24 rfl rfl (cell_atL (H5.box 0 rfl) rfl)) (s_call (wn rfl) rfl rfl (pc_call Tryz.func67 rfl Tryz_nm67 rfl) (Tryz_laws_toDriveSS (H5.sees 0 rfl) (by first | assumption | omega)) (fun v2 w6 r2 => ?_)))))
 obtain ⟨e6, r2⟩ := r2
 obtain ⟨fp1, H6⟩ := H5.res e6 r2
 obtain ⟨a1, k1, q1⟩ := own_slice (H6.mine 3 rfl)
 cases q1
 refine sV rfl (py_field tu38 rfl ts35 rfl rfl) (s_sto (wn rfl) ts35 rfl rfl rfl H6 2 rfl rfl (fun w7 e7 H7 => ?_))
 dsimp only [lNA, lCA, lSZ, lSS, layL] at H7
 refine s_nil (W_sr (sV rfl (py_field tu28 rfl ts25 rfl rfl) (sV rfl (py_load tu25 rfl rfl (cell_atL (H7.box 0 rfl) rfl)) (s_call (wn rfl) rfl rfl (pc_call Tryz.func68 rfl Tryz_nm68 rfl) (Tryz_laws_toInt64S (H7.sees 1 rfl) (by omega)) (fun v3 w8 r3 => ?_)))))
 obtain ⟨e8, r3⟩ := r3
 obtain ⟨fp2, H8⟩ := H7.res e8 r3
 obtain ⟨a2, k2, q2⟩ := own_slice (H8.mine 4 rfl)
 cases q2
 refine sV rfl (py_field tu38 rfl ts25 rfl rfl) (s_sto (wn rfl) ts25 rfl rfl rfl H8 2 rfl rfl (fun w9 e9 H9 => ?_))
 dsimp only [lNA, lCA, lSZ, lSS, layL] at H9
 refine s_nil (W_sr (sV rfl (py_field tu28 rfl ts26 rfl rfl) (sV rfl (py_load tu26 rfl rfl (cell_atL (H9.box 0 rfl) rfl)) (s_call (wn rfl) rfl rfl (pc_call Tryz.func69 rfl Tryz_nm69 rfl) (Tryz_laws_toTapeS (H9.sees 2 rfl) (by first | assumption | omega)) (fun v4 w10 r4 => ?_)))))
 obtain ⟨e10, r4⟩ := r4
 obtain ⟨fp3, H10⟩ := H9.res e10 r4
 obtain ⟨a3, k3, q3⟩ := own_slice (H10.mine 5 rfl)
 cases q3
 refine sV rfl (py_field tu38 rfl ts36 rfl rfl) (s_sto (wn rfl) ts36 rfl rfl rfl H10 2 rfl rfl (fun w11 e11 H11 => ?_))
 dsimp only [lNA, lCA, lSZ, lSS, layL] at H11
 refine s_nil (W_sr (sV rfl (py_field tu28 rfl ts2 rfl rfl) (sV rfl (py_load tu2 rfl rfl (cell_atL (H11.box 0 rfl) rfl)) (sV rfl (py_field tu38 rfl ts2 rfl rfl) (s_sto (wn rfl) ts2 rfl rfl rfl H11 2 rfl rfl (fun w12 e12 H12 => ?_))))))
 dsimp only [lNA, lCA, lSZ, lSS, layL] at H12
 refine s_nil (W_sr (sV rfl (py_field tu28 rfl ts2 rfl rfl) (sV rfl (py_load tu2 rfl rfl (cell_atL (H12.box 0 rfl) rfl)) (sV rfl (py_field tu38 rfl ts2 rfl rfl) (s_sto (wn rfl) ts2 rfl rfl rfl H12 2 rfl rfl (fun w13 e13 H13 => ?_))))))
 dsimp only [lNA, lCA, lSZ, lSS, layL] at H13
 refine s_nil (W_sr (sV rfl (py_field tu28 rfl ts4 rfl rfl) (sV rfl (py_load tu4 rfl rfl (cell_atL (H13.box 0 rfl) rfl)) (sV rfl (py_field tu38 rfl ts4 rfl rfl) (s_sto (wn rfl) ts4 rfl rfl rfl H13 2 rfl rfl (fun w14 e14 H14 => ?_))))))
 dsimp only [lNA, lCA, lSZ, lSS, layL] at H14
 refine s_nil (W_sr (sV rfl (py_loadS tu38 rfl ts38 rfl rfl (At.whole (H14.box 2 rfl))) (s_stoS (wn rfl) ts38 rfl rfl rfl rfl H14 1 rfl rfl (fun w15 e15 H15 => ?_))))
 dsimp only [lNA, lCA, lSZ, lSS, layL] at H15
 refine s_nil (W_ret (hQ _ _ (finC Tryz.results17 rfl (run_loadVarS tu38 rfl ts38 rfl (At.whole (H15.box 1 rfl))) ?_)))
 exact ⟨H15.ext, _, _, _, _, _, _, rfl, Wld.out (H15.sub (.cons _ (.cons _ (.cons _ (.cons_cons _ (.cons_cons _ (.cons_cons _ List.Sublist.slnil))))))) xK⟩
theorem Tryz_laws_eqWorld {w : World} {a b : Wld} {aA9 aA10 aA11 bA9 bA10 bA11 : Option Addr} {aC9 aC10 aC11 bC9 bC10 bC11 : Nat} (aK : a.Ok) (aS9 : Sees w [.slice aA9 a.Groups.length aC9] a.Groups) (aS10 : Sees w [.slice aA10 a.On.length aC10] a.On) (aS11 : Sees w [.slice aA11 a.Tapes.length aC11] a.Tapes) (bK : b.Ok) (bS9 : Sees w [.slice bA9 b.Groups.length bC9] b.Groups) (bS10 : Sees w [.slice bA10 b.On.length bC10] b.On) (bS11 : Sees w [.slice bA11 b.Tapes.length bC11] b.Tapes) : Ret Tryz.prog 20 #[a.val aA9 aC9 aA10 aC10 aA11 aC11, b.val bA9 bC9 bA10 bC10 bA11 bC11] w fun v w' => Ext No w w' ∧ (v = .bool (decide (a = b))) := by
 have aK2 := aK
 unfold Wld.Ok Shape.Ok at aK2
 try unfold I64ok at aK2
 try unfold maxLen at aK2
 have aL9 := sL aS9
 obtain ⟨aF9, aO9⟩ := aS9
 have aL10 := sL aS10
 obtain ⟨aF10, aO10⟩ := aS10
 have aL11 := sL aS11
 obtain ⟨aF11, aO11⟩ := aS11
 have bK2 := bK
 unfold Wld.Ok Shape.Ok at bK2
 try unfold I64ok at bK2
 try unfold maxLen at bK2
 have bL9 := sL bS9
 obtain ⟨bF9, bO9⟩ := bS9
 have bL10 := sL bS10
 obtain ⟨bF10, bO10⟩ := bS10
 have bL11 := sL bS11
 obtain ⟨bF11, bO11⟩ := bS11
 refine ret_Q (vs := [a.val aA9 aC9 aA10 aC10 aA11 aC11, b.val bA9 bC9 bA10 bC10 bA11 bC11]) Tryz.func20 rfl Tryz.ntmps20 rfl (fun Q hQ hN => ?_)
 have H0 := Sep.start (w := w) (F := [seen false [.slice aA9 a.Groups.length aC9] a.Groups aF9, seen false [.slice aA10 a.On.length aC10] a.On aF10, seen false [.slice aA11 a.Tapes.length aC11] a.Tapes aF11, seen false [.slice bA9 b.Groups.length bC9] b.Groups bF9, seen false [.slice bA10 b.On.length bC10] b.On bF10, seen false [.slice bA11 b.Tapes.length bC11] b.Tapes bF11]) (all_cons aO9 (all_cons aO10 (all_cons aO11 (all_cons bO9 (all_cons bO10 (all_cons bO11 (by simp)))))))
 refine W_sr (s_box (wn rfl) rfl rfl H0 (fun b1 w1 e1 g1 H1 => ?_))
 refine s_box (wn rfl) rfl rfl H1 (fun b2 w2 e2 g2 H2 => ?_)
 refine sA rfl rfl (s_nil (W_seq (W_sr (sV rfl (py_field tu38 rfl ts34 rfl rfl) (sV rfl (py_loadS tu34 rfl ts34 rfl rfl (At.sub (H2.box 0 rfl) 9)) (sV rfl (py_field tu38 rfl ts34 rfl rfl) (sV rfl (py_loadS tu34 rfl ts34 rfl rfl (At.sub (H2.box 1 rfl) 9)) (s_call (wn rfl) rfl rfl (pc_call Tryz.func76 rfl Tryz_nm76 rfl) Tryz_laws_eqShape (fun v1 w3 r1 => ?_)))))))))
 obtain ⟨e3, rfl⟩ := r1
 have H3 := H2.to e3
 refine sV rfl (py_not rfl) (s_nil (W_if rfl (fun c1 => ?_) (fun c1 => ?_)))
 ·refine W_sr (sA rfl rfl (s_nil (rT hQ Tryz.results20 rfl (⟨H3.ext, ?_⟩))))
  rw [decide_eq_false (fun e => by subst e; first | exact c1 rfl | simp at c1)]
 ·refine W_skip (W_seq (W_sr (sV rfl (py_field tu38 rfl ts35 rfl rfl) (sV rfl (py_load tu35 rfl rfl (cell_atL (H3.box 0 rfl) rfl)) (sV rfl (py_field tu38 rfl ts35 rfl rfl) (sV rfl (py_load tu35 rfl rfl (cell_atL (H3.box 1 rfl) rfl)) (s_call (wn rfl) rfl rfl (pc_call Tryz.func77 rfl Tryz_nm77 rfl) (Tryz_laws_eqDriveSS (H3.sees 0 rfl) (H3.sees 3 rfl)) (fun v2 w4 r2 => ?_))))))))
  obtain ⟨e4, rfl⟩ := r2
  have H4 := H3.to e4
  refine sV rfl (py_not rfl) (s_nil (W_if rfl (fun c2 => ?_) (fun c2 => ?_)))
  ·refine W_sr (sA rfl rfl (s_nil (rT hQ Tryz.results20 rfl (⟨H4.ext, ?_⟩))))
   rw [decide_eq_false (fun e => by subst e; first | exact c2 rfl | simp at c2)]
  ·refine W_skip (W_seq (W_sr (sV rfl (py_field tu38 rfl ts25 rfl rfl) (sV rfl (py_load tu25 rfl rfl (cell_atL (H4.box 0 rfl) rfl)) (sV rfl (py_field tu38 rfl ts25 rfl rfl) (sV rfl (py_load tu25 rfl rfl (cell_atL (H4.box 1 rfl) rfl)) (s_call (wn rfl) rfl rfl (pc_call Tryz.func78 rfl Tryz_nm78 rfl) (Tryz_laws_eqInt64S (H4.sees 1 rfl) (H4.sees 4 rfl)) (fun v3 w5 r3 => ?_))))))))
   obtain ⟨e5, rfl⟩ := r3
   have H5 := H4.to e5
   refine sV rfl (py_not rfl) (s_nil (W_if rfl (fun c3 => ?_) (fun c3 => ?_)))
   ·refine W_sr (sA rfl rfl (s_nil (rT hQ Tryz.results20 rfl (⟨H5.ext, ?_⟩))))
    rw [decide_eq_false (fun e => by subst e; first | exact c3 rfl | simp at c3)]
   ·refine W_skip (W_seq (W_sr (sV rfl (py_field tu38 rfl ts36 rfl rfl) (sV rfl (py_load tu36 rfl rfl (cell_atL (H5.box 0 rfl) rfl)) (sV rfl (py_field tu38 rfl ts36 rfl rfl) (sV rfl (py_load tu36 rfl rfl (cell_atL (H5.box 1 rfl) rfl)) (s_call (wn rfl) rfl rfl (pc_call Tryz.func79 rfl Tryz_nm79 rfl) (Tryz_laws_eqTapeS (H5.sees 2 rfl) (H5.sees 5 rfl)) (fun v4 w6 r4 => ?_))))))))
    obtain ⟨e6, rfl⟩ := r4
    have H6 := H5.to e6
    refine sV rfl (py_not rfl) (s_nil (W_if rfl (fun c4 => ?_) (fun c4 => ?_)))
    ·refine W_sr (sA rfl rfl (s_nil (rT hQ Tryz.results20 rfl (⟨H6.ext, ?_⟩))))
     rw [decide_eq_false (fun e => by subst e; first | exact c4 rfl | simp at c4)]
    ·refine W_skip (W_seq (W_sr (sV rfl (py_field tu38 rfl ts2 rfl rfl) (sV rfl (py_load tu2 rfl rfl (cell_atL (H6.box 0 rfl) rfl)) (sV rfl (py_field tu38 rfl ts2 rfl rfl) (sV rfl (py_load tu2 rfl rfl (cell_atL (H6.box 1 rfl) rfl)) (sV rfl (py_neq rfl rfl) (s_nil (W_ifd rfl (fun c5 => ?_) (fun c5 => ?_))))))))))
     ·refine W_sr (sA rfl rfl (s_nil (rT hQ Tryz.results20 rfl (⟨H6.ext, ?_⟩))))
      rw [decide_eq_false (fun e => by subst e; first | exact c5 rfl | simp at c5)]
     ·refine W_skip (W_seq (W_sr (sV rfl (py_field tu38 rfl ts2 rfl rfl) (sV rfl (py_load tu2 rfl rfl (cell_atL (H6.box 0 rfl) rfl)) (sV rfl (py_field tu38 rfl ts2 rfl rfl) (sV rfl (py_load tu2 rfl rfl (cell_atL (H6.box 1 rfl) rfl)) (sV rfl (py_neq rfl rfl) (s_nil (W_ifd rfl (fun c6 => ?_) (fun c6 => ?_))))))))))
      ·refine W_sr (sA rfl rfl (s_nil (rT hQ Tryz.results20 rfl (⟨H6.ext, ?_⟩))))
       rw [decide_eq_false (fun e => by subst e; first | exact c6 rfl | simp at c6)]
      ·refine W_skip (W_seq (W_sr (sV rfl (py_field tu38 rfl ts4 rfl rfl) (sV rfl (py_load tu4 rfl rfl (cell_atL (H6.box 0 rfl) rfl)) (sV rfl (py_field tu38 rfl ts4 rfl rfl) (sV rfl (py_load tu4 rfl rfl (cell_atL (H6.box 1 rfl) rfl)) (sV rfl (py_bneq tu4 rfl rfl) (s_nil (W_if rfl (fun c7 => ?_) (fun c7 => ?_))))))))))
       ·refine W_sr (sA rfl rfl (s_nil (rT hQ Tryz.results20 rfl (⟨H6.ext, ?_⟩))))
        rw [decide_eq_false (fun e => by subst e; first | exact c7 rfl | simp at c7)]
       ·refine W_skip (W_sr (sA rfl rfl (s_nil (rT hQ Tryz.results20 rfl (⟨H6.ext, ?_⟩)))))
        rw [decide_eq_true]
        cases a; cases b; simp_all [str_beq]
end Go.Wk
namespace Go.Wk
open Rp (sz own)
def apartAt (xs : List Int) (m : Int) (i : Nat) : Bool := ins (xs.getD i 0) 0 m && !decide (xs.getD i 0 ∈ xs.take i)
def apartL (xs : List Int) (m : Int) : Bool := (List.range xs.length).all (apartAt xs m)
theorem all_yes {n : Nat} {p : Nat → Bool} (h : ∀ i, i < n → p i = true) : (List.range n).all p = true := by
  rw [List.all_eq_true]; exact fun i hi => h i (by simpa using hi)
theorem all_get {n : Nat} {p : Nat → Bool} (h : (List.range n).all p = true) (i : Nat) (hi : i < n) : p i = true := by
  rw [List.all_eq_true] at h; exact h i (by simpa using hi)
theorem all_no {n : Nat} {p : Nat → Bool} (i : Nat) (hi : i < n) (h : p i = false) : (List.range n).all p = false := by
  cases hr : (List.range n).all p with
  | false => rfl
  | true => rw [all_get hr i hi] at h; cases h
def partsOf (s : Shape) (len : Int) : Int := (len - 1).tdiv (s.Data * 4) + 1
def longOf (s : Shape) (len : Int) : Int := if len < 1 then 6 else if 3 * (s.Data * 4) < len then 2 else 0
def itemOK (s : Shape) (r : Rec) : Bool :=
  if r.Length = -1 then decide (r.Data.length = 0) && decide (r.Rows.length = 0)
  else decide (longOf s r.Length = 0) && if 0 < r.Data.length then decide ((r.Data.length : Int) = r.Length) && decide (r.Rows.length = 0) else decide ((r.Rows.length : Int) = partsOf s r.Length) && apartL r.Rows (s.Rows - 1)
def weightsOK (s : Shape) (r : Rec) : Bool :=
  decide ((r.Delta.length : Int) = s.Groups + s.Column) && decide (((r.Delta.getD r.Group.toNat 0).toNat : Int) = 0) && (List.range r.Rows.length).all fun i => decide (¬ ((r.Delta.getD (r.Rows.getD i 0).toNat 0).toNat : Int) = 0)
def shareOK (s : Shape) (r : Rec) : Bool :=
  ins r.Group 0 (s.Groups + s.Column - 1) && ins r.Row 0 (s.Rows - 1) && rises r.Rows (s.Groups + s.Column - 1) && decide ((r.Data.length : Int) = s.Data * 4) && weightsOK s r
def moveOK (s : Shape) (r : Rec) : Bool := ins r.Group 0 (s.Groups - 1) && ins r.Row 0 (s.Rows - 1) && decide ((r.Data.length : Int) = s.Data * 4) && decide ((r.Delta.length : Int) = s.Data * 4)
def noName (r : Rec) : Bool := decide (r.Name = ⟨#[]⟩)
def bareOK (r : Rec) : Bool :=
  if r.Kind = 1 then decide (r.Group = 0) && decide (r.Row = 0) && decide (r.Delta.length = 0)
  else if r.Kind = 2 then noName r && decide (r.Length = 0) && decide (r.Rows.length = 0)
  else if r.Kind = 3 then noName r && decide (r.Length = 0) && decide (r.Row = 0) && decide (r.Rows.length = 0) && decide (r.Data.length = 0) && decide (r.Delta.length = 0)
  else noName r && decide (r.Length = 0)
def kindF (s : Shape) (r : Rec) : Int :=
  if r.Kind = 1 then if nameFault r.Name ≠ 0 then nameFault r.Name else if itemOK s r then 0 else 3
  else if r.Kind = 2 then if moveOK s r then 0 else 3
  else if r.Kind = 3 then if ins r.Group 0 (s.Groups + s.Column - 1) then 0 else 3
  else if shareOK s r then 0 else 3
def recF (s : Shape) (r : Rec) : Int :=
  if ins r.Kind 1 4 then if ins r.Seq 1 1000000000 then if kindF s r ≠ 0 then kindF s r else if bareOK r then 0 else 1 else 3 else 5
def blockOK (b : Block) : Bool := ins b.Stamp 0 1000000000 && decide (b.Bytes.length = 4)
def driveOK (s : Shape) (d : Drive) : Bool := decide ((d.Blocks.length : Int) = s.Rows) && (List.range d.Blocks.length).all fun i => blockOK (d.Blocks.getD i default)
def groupOK (s : Shape) (g : List Drive) : Bool := decide ((g.length : Int) = s.Data + s.Spare) && (List.range g.length).all fun i => driveOK s (g.getD i default)
def groupsOK (w : Wld) : Bool := decide ((w.Groups.length : Int) = w.Shape.Groups + w.Shape.Column) && (List.range w.Groups.length).all fun i => groupOK w.Shape (w.Groups.getD i [])
def onOK (w : Wld) : Bool := apartL w.On (w.Shape.Groups + w.Shape.Column - 1) && decide ((w.On.length : Int) ≤ w.Shape.Cap) && (decide (w.On.length = 0) || !w.Down)
def recsF (s : Shape) (rs : List Rec) : Nat → Int
  | 0 => 0
  | k + 1 => if recsF s rs k ≠ 0 then recsF s rs k else recF s (rs.getD k default)
def tapeF (s : Shape) (ts : List Tape) : Nat → Int
  | 0 => 0
  | k + 1 => if tapeF s ts k ≠ 0 then tapeF s ts k else recsF s (ts.getD k default).Recs (ts.getD k default).Recs.length
def manyRecs (t : Tape) : Bool := decide ((200 : Int) < t.Recs.length)
def wipedFull (t : Tape) : Bool := t.Wiped && decide ((0 : Int) < t.Recs.length)
def tapesF (w : Wld) : Int :=
  if w.Tapes.any manyRecs then 2 else if tapeF w.Shape w.Tapes w.Tapes.length ≠ 0 then tapeF w.Shape w.Tapes w.Tapes.length else if w.Tapes.any wipedFull then 1 else 0
def worldF (w : Wld) : Int :=
  if w.Shape.fault ≠ 0 then w.Shape.fault
  else if groupsOK w && onOK w && decide (w.Tapes.length = 2) then if tapesF w ≠ 0 then tapesF w else if ins w.Writes 0 1000000000 && ins w.Stop (-1) 1000000000 then 0 else 3
  else 1
end Go.Wk
namespace Go.Wk
open Rp (sz own)
section
variable {s : Shape} {len : Int}
theorem parts_iff (hd : 1 ≤ s.Data ∧ s.Data ≤ 3) (h : 1 ≤ len) : 3 < (len - 1).tdiv (s.Data * 4) + 1 ↔ 3 * (s.Data * 4) < len := by
  rw [Int.tdiv_eq_ediv_of_nonneg (by omega)]
  have : s.Data = 1 ∨ s.Data = 2 ∨ s.Data = 3 := by omega
  rcases this with e | e | e <;> rw [e] <;> omega
theorem parts_two (hd : 1 ≤ s.Data ∧ s.Data ≤ 3) (h : 1 ≤ len) : (len + s.Data * 4 - 1).tdiv (s.Data * 4) = partsOf s len := by
  rw [partsOf, Int.tdiv_eq_ediv_of_nonneg (by omega), Int.tdiv_eq_ediv_of_nonneg (by omega)]
  have : s.Data = 1 ∨ s.Data = 2 ∨ s.Data = 3 := by omega
  rcases this with e | e | e <;> rw [e] <;> omega
theorem parts_bd (hd : 1 ≤ s.Data ∧ s.Data ≤ 3) (h : 1 ≤ len) : 0 ≤ (len - 1).tdiv (s.Data * 4) ∧ (len - 1).tdiv (s.Data * 4) < len := by
  rw [Int.tdiv_eq_ediv_of_nonneg (by omega)]
  have : s.Data = 1 ∨ s.Data = 2 ∨ s.Data = 3 := by omega
  rcases this with e | e | e <;> rw [e] <;> omega
def partsN (s : Shape) (len : Int) : Int := if longOf s len = 0 then partsOf s len else 0
theorem long_low (h : len < 1) : longOf s len = 6 ∧ partsN s len = 0 := by
  have : longOf s len = 6 := by rw [longOf, if_pos h]
  exact ⟨this, by rw [partsN, this]; rfl⟩
theorem long_high (h : ¬ len < 1) (h2 : 3 * (s.Data * 4) < len) : longOf s len = 2 ∧ partsN s len = 0 := by
  have : longOf s len = 2 := by rw [longOf, if_neg h, if_pos h2]
  exact ⟨this, by rw [partsN, this]; rfl⟩
theorem long_ok (h : ¬ len < 1) (h2 : ¬ 3 * (s.Data * 4) < len) : longOf s len = 0 ∧ partsN s len = partsOf s len := by
  have : longOf s len = 0 := by rw [longOf, if_neg h, if_neg h2]
  exact ⟨this, by rw [partsN, if_pos this]⟩
theorem long_zero (h : longOf s len = 0) : 1 ≤ len ∧ ¬ 3 * (s.Data * 4) < len := by
  unfold longOf at h
  split at h
  · cases h
  · split at h
    · cases h
    · exact ⟨by omega, by omega⟩
end
theorem all_step {n : Nat} {p : Nat → Bool} : (List.range (n + 1)).all p = ((List.range n).all p && p n) := by
  rw [List.range_succ, List.all_append]; simp
theorem cut_take {α : Type} {xs : List α} {i : Nat} : cut xs 0 i = xs.take i := by simp [cut]
theorem recsF_stay {s : Shape} {rs : List Rec} {j : Nat} (h : recsF s rs j ≠ 0) : ∀ m, j ≤ m → recsF s rs m = recsF s rs j := by
  intro m hm
  induction m with
  | zero => rw [show j = 0 by omega]
  | succ m ih =>
    by_cases e : j = m + 1
    · rw [e]
    · have ih := ih (by omega)
      rw [recsF, if_pos (by rw [ih]; exact h), ih]
theorem recsF_next {s : Shape} {rs : List Rec} {j : Nat} (h : recsF s rs j = 0) : recsF s rs (j + 1) = recF s (rs.getD j default) := by rw [recsF, if_neg (by omega)]
theorem recsF_hit {s : Shape} {rs : List Rec} {j : Nat} (hj : j < rs.length) (h : recsF s rs j = 0) (hr : recF s (rs.getD j default) ≠ 0) : recsF s rs rs.length = recF s (rs.getD j default) := by
  have e := recsF_next h
  rw [recsF_stay (j := j + 1) (by rw [e]; exact hr) _ (by omega), e]
theorem tapeF_stay {s : Shape} {ts : List Tape} {j : Nat} (h : tapeF s ts j ≠ 0) : ∀ m, j ≤ m → tapeF s ts m = tapeF s ts j := by
  intro m hm
  induction m with
  | zero => rw [show j = 0 by omega]
  | succ m ih =>
    by_cases e : j = m + 1
    · rw [e]
    · have ih := ih (by omega)
      rw [tapeF, if_pos (by rw [ih]; exact h), ih]
theorem tapeF_next {s : Shape} {ts : List Tape} {j : Nat} (h : tapeF s ts j = 0) : tapeF s ts (j + 1) = recsF s (ts.getD j default).Recs (ts.getD j default).Recs.length := by rw [tapeF, if_neg (by omega)]
theorem tapeF_hit {s : Shape} {ts : List Tape} {j i : Nat} (hj : j < ts.length) (h : tapeF s ts j = 0) (hi : i < (ts.getD j default).Recs.length) (h2 : recsF s (ts.getD j default).Recs i = 0) (hr : recF s ((ts.getD j default).Recs.getD i default) ≠ 0) :
    tapeF s ts ts.length = recF s ((ts.getD j default).Recs.getD i default) := by
  have e := tapeF_next h
  rw [recsF_hit hi h2 hr] at e
  rw [tapeF_stay (j := j + 1) (by rw [e]; exact hr) _ (by omega), e]
theorem any_at {α : Type} [Inhabited α] {xs : List α} {p : α → Bool} (k : Nat) (hk : k < xs.length) (h : p (xs.getD k default) = true) : xs.any p = true := by
  rw [List.any_eq_true]
  exact ⟨xs[k], List.getElem_mem hk, by simpa [List.getD, hk] using h⟩
theorem any_none {α : Type} [Inhabited α] {xs : List α} {p : α → Bool} (h : ∀ i, i < xs.length → p (xs.getD i default) = false) : xs.any p = false := by
  rw [List.any_eq_false]
  intro x hx
  obtain ⟨i, hi, rfl⟩ := List.getElem_of_mem hx
  have := h i hi
  simpa [List.getD, hi] using this
end Go.Wk
namespace Go.Wk
def upF (w : Wld) : Int := if worldF w ≠ 0 then worldF w else if w.Down = true then 9 else 0
def groupF (w : Wld) (g : Int) : Int := if ins g 0 (w.Shape.Groups + w.Shape.Column - 1) = true then if g ∈ w.On then 0 else 8 else 3
def rowF (w : Wld) (g row : Int) : Int := if ins g 0 (w.Shape.Groups + w.Shape.Column - 1) = true ∧ ins row 0 (w.Shape.Rows - 1) = false then 3 else groupF w g
def whereF (w : Wld) (g row : Int) : Int := if upF w ≠ 0 then upF w else rowF w g row
theorem worldF_ok {w : Wld} (h : worldF w = 0) : w.Shape.ok = true ∧ groupsOK w = true ∧ onOK w = true ∧ w.Tapes.length = 2 ∧ tapesF w = 0 := by
  unfold worldF at h
  split at h
  · rename_i h1; exact absurd h h1
  · rename_i h1
    have hs := shapeFault_ok (s := w.Shape) (by omega)
    split at h
    · rename_i h2
      simp only [Bool.and_eq_true, decide_eq_true_eq] at h2
      split at h
      · rename_i h3; exact absurd h h3
      · rename_i h3
        exact ⟨hs, h2.1.1, h2.1.2, h2.2, by omega⟩
    · cases h
theorem upF_ok {w : Wld} (h : upF w = 0) : worldF w = 0 ∧ w.Down = false := by
  unfold upF at h
  split at h
  · rename_i h1; exact absurd h h1
  · split at h
    · cases h
    · rename_i h1 h2
      exact ⟨by omega, by simpa using h2⟩
theorem groups_get {w : Wld} (h : groupsOK w = true) : (w.Groups.length : Int) = w.Shape.Groups + w.Shape.Column ∧ ∀ g, g < w.Groups.length → ((w.Groups.getD g []).length : Int) = w.Shape.Data + w.Shape.Spare ∧
    ∀ d, d < (w.Groups.getD g []).length → ((((w.Groups.getD g []).getD d default).Blocks.length : Int) = w.Shape.Rows) ∧
      ∀ i, i < ((w.Groups.getD g []).getD d default).Blocks.length → blockOK (((w.Groups.getD g []).getD d default).Blocks.getD i default) = true := by
  simp only [groupsOK, Bool.and_eq_true, decide_eq_true_eq] at h
  refine ⟨h.1, fun g hg => ?_⟩
  have h2 := all_get h.2 g hg
  simp only [groupOK, Bool.and_eq_true, decide_eq_true_eq] at h2
  refine ⟨h2.1, fun d hd => ?_⟩
  have h3 := all_get h2.2 d hd
  simp only [driveOK, Bool.and_eq_true, decide_eq_true_eq] at h3
  exact ⟨h3.1, fun i hi => all_get h3.2 i hi⟩
theorem blockOK_get {b : Block} (h : blockOK b = true) : 0 ≤ b.Stamp ∧ b.Stamp ≤ 1000000000 ∧ b.Bytes.length = 4 := by
  simp only [blockOK, Bool.and_eq_true, ins_iff, decide_eq_true_eq] at h
  exact ⟨h.1.1, h.1.2, h.2⟩
end Go.Wk
namespace Go.Wk
theorem eqB {a b : Bool} (h : a = b) : some (Value.bool a) = some (Value.bool b) := by rw [h]
def itemF (s : Shape) (r : Rec) : Int := if nameFault r.Name ≠ 0 then nameFault r.Name else if itemOK s r = true then 0 else 3
theorem itemF_name {s r} (h : nameFault r.Name ≠ 0) : itemF s r = nameFault r.Name := by rw [itemF, if_pos h]
theorem itemF_ok {s r} (h : ¬ nameFault r.Name ≠ 0) (h2 : itemOK s r = true) : itemF s r = 0 := by rw [itemF, if_neg h, if_pos h2]
theorem itemF_bad {s r} (h : ¬ nameFault r.Name ≠ 0) (h2 : itemOK s r = false) : itemF s r = 3 := by rw [itemF, if_neg h, if_neg (by simp [h2])]
end Go.Wk
namespace Go.Wk
open Rp (sz own)
section
variable {P : Program} {n : Nat} {c : Code} {Q : Post} {L : Env} {w w0 : World} {M : Nat → Prop} {Δ F : List Rsc}
theorem sub_append {L : Env} : ∀ {A B : Env}, sub L A → sub L B → sub L (A ++ B)
  | [], _, _, h => h
  | _ :: _, _, h, k => ⟨h.1, sub_append h.2 k⟩
theorem W_loopS {γ : Type} (H : Sep M w0 Δ F w) (E2 : Env) (h2 : sub L E2) (E : γ → Env) (I : γ → Prop) (μ : γ → Nat) (g0 : γ) (hs : sub L (E g0)) (h0 : I g0)
  (round : ∀ g w, Sep M w0 Δ F w → I g → W P n c (again (fun g => E g ++ E2) (fun g w' => Sep M w0 Δ F w' ∧ I g) μ g Q) (E g ++ E2) w) : W P n (.loop c) Q L w :=
 W_loop (fun g => E g ++ E2) (fun g w' => Sep M w0 Δ F w' ∧ I g) μ g0 (sub_append hs h2) ⟨H, h0⟩ fun g w h => round g w h.1 h.2
theorem W_cutS {x y : Code} {γ : Type} (H : Sep M w0 Δ F w) (E2 : Env) (h2 : sub L E2) (E : γ → Env) (I : γ → Prop)
  (h : W P n x (meets (fun g => E g ++ E2) (fun g w' => Sep M w0 Δ F w' ∧ I g) Q) L w)
  (k : ∀ g w', Sep M w0 Δ F w' → I g → W P n y Q (E g ++ E2) w') : W P n (.seq x y) Q L w :=
 W_cut (fun g => E g ++ E2) (fun g w' => Sep M w0 Δ F w' ∧ I g) h fun g w' hI => k g w' hI.1 hI.2
end
end Go.Wk
namespace Go.Wk
theorem item_ok {s : Shape} {r : Rec} {a b c d : Bool} (h1 : r.Length ≠ -1) (h2 : longOf s r.Length = 0) (ea : a = decide ((r.Data.length : Int) = r.Length)) (eb : b = decide ((r.Rows.length : Int) = 0))
    (ec : c = decide ((r.Data.length : Int) = 0)) (ed : d = decide ((r.Rows.length : Int) = partsOf s r.Length)) : (a && b || (c && d && apartL r.Rows (s.Rows - 1))) = itemOK s r := by
  subst ea; subst eb; subst ec; subst ed
  have hz := long_zero h2
  rw [itemOK, if_neg h1, decide_eq_true h2, Bool.true_and]
  by_cases hd : 0 < r.Data.length
  · rw [if_pos hd, decide_eq_false (by omega : ¬ ((r.Data.length : Int) = 0))]
    simp
  · rw [if_neg hd, decide_eq_true (by omega : ((r.Data.length : Int) = 0)), decide_eq_false (by omega : ¬ ((r.Data.length : Int) = r.Length))]
    simp
theorem item_del {s : Shape} {r : Rec} (h1 : r.Length = -1) : itemOK s r = (decide (r.Data.length = 0) && decide (r.Rows.length = 0)) := by rw [itemOK, if_pos h1]
theorem item_long {s : Shape} {r : Rec} (h1 : r.Length ≠ -1) (h2 : longOf s r.Length ≠ 0) : itemOK s r = false := by rw [itemOK, if_neg h1, decide_eq_false h2]; rfl
theorem partsN_ok {s : Shape} {len : Int} (h : longOf s len = 0) : partsN s len = partsOf s len := by rw [partsN, if_pos h]
end Go.Wk
namespace Go.Wk
def emptyR (r : Rec) : Bool := noName r && decide (r.Length = 0) && decide (r.Group = 0) && decide (r.Row = 0) && decide (r.Rows.length = 0) && decide (r.Data.length = 0) && decide (r.Delta.length = 0)
def recOf (r : Rec) : Rec :=
  if r.Kind = 1 then ⟨r.Kind, r.Seq, r.Name, r.Length, 0, 0, r.Rows, r.Data, []⟩
  else if r.Kind = 2 then ⟨r.Kind, r.Seq, ⟨#[]⟩, 0, r.Group, r.Row, [], r.Data, r.Delta⟩
  else if r.Kind = 3 then ⟨r.Kind, r.Seq, ⟨#[]⟩, 0, r.Group, 0, [], [], []⟩
  else if r.Kind = 4 then ⟨r.Kind, r.Seq, ⟨#[]⟩, 0, r.Group, r.Row, r.Rows, r.Data, r.Delta⟩
  else ⟨r.Kind, r.Seq, ⟨#[]⟩, 0, 0, 0, [], [], []⟩
theorem recOf_same {r : Rec} (hk : 1 ≤ r.Kind ∧ r.Kind ≤ 4) : decide (r = recOf r) = bareOK r := by
  obtain ⟨k, q, nm, ln, g, rw, rs, da, de⟩ := r
  have : k = 1 ∨ k = 2 ∨ k = 3 ∨ k = 4 := by simp only at hk; omega
  rcases this with rfl | rfl | rfl | rfl <;> simp [recOf, bareOK, noName, Bool.and_assoc]
theorem same_rec {a b : Rec} : (decide (a.Kind = b.Kind) && (decide (a.Seq = b.Seq) && ((a.Name.toList == b.Name.toList) && (decide (a.Length = b.Length) && (decide (a.Group = b.Group) && (decide (a.Row = b.Row) && (decide (a.Rows = b.Rows) && (decide (a.Data = b.Data) && decide (a.Delta = b.Delta))))))))) = decide (a = b) := by
  obtain ⟨k, q, nm, ln, g, rw, rs, da, de⟩ := a
  obtain ⟨k2, q2, nm2, ln2, g2, rw2, rs2, da2, de2⟩ := b
  simp [str_beq]
theorem weight_grp {s : Shape} {r : Rec} (h : ¬ ((r.Delta.getD r.Group.toNat 0).toNat : Int) = 0) : weightsOK s r = false := by rw [weightsOK, decide_eq_false h]; simp
theorem weight_row {s : Shape} {r : Rec} (k : Nat) (hk : k < r.Rows.length) (h : ((r.Delta.getD (r.Rows.getD k 0).toNat 0).toNat : Int) = 0) : weightsOK s r = false := by
  rw [weightsOK, all_no k hk (by rw [decide_eq_false (by simpa using h)])]; simp
theorem weight_ok {s : Shape} {r : Rec} (h : (r.Delta.length : Int) = s.Groups + s.Column) (h2 : ((r.Delta.getD r.Group.toNat 0).toNat : Int) = 0) (h3 : ∀ i, i < r.Rows.length → ¬ ((r.Delta.getD (r.Rows.getD i 0).toNat 0).toNat : Int) = 0) : weightsOK s r = true := by
  rw [weightsOK, decide_eq_true h, decide_eq_true h2, all_yes fun i hi => decide_eq_true (h3 i hi)]; rfl
theorem weight_bad {s : Shape} {r : Rec} (h : ¬ (r.Delta.length : Int) = s.Groups + s.Column) : weightsOK s r = false := by rw [weightsOK, decide_eq_false h]; rfl
end Go.Wk
namespace Go.Wk
theorem item_long0 {s : Shape} {r : Rec} (h1 : r.Length ≠ -1) (h2 : longOf s r.Length = 0) : itemOK s r = if 0 < r.Data.length then decide ((r.Data.length : Int) = r.Length) && decide (r.Rows.length = 0) else decide ((r.Rows.length : Int) = partsOf s r.Length) && apartL r.Rows (s.Rows - 1) := by
  rw [itemOK, if_neg h1, decide_eq_true h2, Bool.true_and]
end Go.Wk
namespace Go.Wk
theorem any_getD {α : Type} {d : α} {xs : List α} {p : α → Bool} (h : xs.any p = true) : ∃ i, i < xs.length ∧ p (xs.getD i d) = true := by
  rw [List.any_eq_true] at h
  obtain ⟨x, hx, hp⟩ := h
  obtain ⟨i, hi, rfl⟩ := List.getElem_of_mem hx
  exact ⟨i, hi, by simpa [List.getD, hi] using hp⟩
theorem any_noD {α : Type} {d : α} {xs : List α} {p : α → Bool} (h : xs.any p = false) (i : Nat) (hi : i < xs.length) : p (xs.getD i d) = false := by
  rw [List.any_eq_false] at h
  have := h xs[i] (List.getElem_mem hi)
  simpa [List.getD, hi] using this
theorem weight_any {s : Shape} {r : Rec} (h : r.Rows.any (fun k => decide (((r.Delta.getD k.toNat 0).toNat : Int) = 0)) = true) : weightsOK s r = false := by
  obtain ⟨i, hi, h⟩ := any_getD (d := 0) h
  exact weight_row i hi (by simpa using h)
theorem weight_none {s : Shape} {r : Rec} (h : (r.Delta.length : Int) = s.Groups + s.Column) (h2 : ((r.Delta.getD r.Group.toNat 0).toNat : Int) = 0) (h3 : r.Rows.any (fun k => decide (((r.Delta.getD k.toNat 0).toNat : Int) = 0)) = false) : weightsOK s r = true :=
  weight_ok h h2 fun i hi => by simpa using any_noD (d := 0) h3 i hi
end Go.Wk
namespace Go.Wk
theorem recOf_0 {r : Rec} (h : r.Kind = 1) : recOf r = ⟨r.Kind, r.Seq, r.Name, r.Length, 0, 0, r.Rows, r.Data, []⟩ := by rw [recOf, if_pos h]
theorem recOf_1 {r : Rec} (h : ¬ r.Kind = 1) (h2 : r.Kind = 2) : recOf r = ⟨r.Kind, r.Seq, ⟨#[]⟩, 0, r.Group, r.Row, [], r.Data, r.Delta⟩ := by rw [recOf, if_neg h, if_pos h2]
theorem recOf_2 {r : Rec} (h : ¬ r.Kind = 1) (h2 : ¬ r.Kind = 2) (h3 : r.Kind = 3) : recOf r = ⟨r.Kind, r.Seq, ⟨#[]⟩, 0, r.Group, 0, [], [], []⟩ := by rw [recOf, if_neg h, if_neg h2, if_pos h3]
theorem recOf_3 {r : Rec} (h : ¬ r.Kind = 1) (h2 : ¬ r.Kind = 2) (h3 : ¬ r.Kind = 3) (h4 : r.Kind = 4) : recOf r = ⟨r.Kind, r.Seq, ⟨#[]⟩, 0, r.Group, r.Row, r.Rows, r.Data, r.Delta⟩ := by rw [recOf, if_neg h, if_neg h2, if_neg h3, if_pos h4]
theorem recOf_4 {r : Rec} (h : ¬ r.Kind = 1) (h2 : ¬ r.Kind = 2) (h3 : ¬ r.Kind = 3) (h4 : ¬ r.Kind = 4) : recOf r = ⟨r.Kind, r.Seq, ⟨#[]⟩, 0, 0, 0, [], [], []⟩ := by rw [recOf, if_neg h, if_neg h2, if_neg h3, if_neg h4]
theorem recOf_ok {r : Rec} (h : r.Ok) : (recOf r).Ok := by
  unfold Rec.Ok I64ok at h ⊢
  unfold recOf
  have : (⟨#[]⟩ : ByteArray).size ≤ maxLen := Nat.zero_le _
  split
  · simp only; omega
  · split
    · simp only; omega
    · split
      · simp only; omega
      · split
        · simp only; omega
        · simp only; omega
end Go.Wk
namespace Go.Wk
section
variable {s : Shape} {r : Rec}
theorem recF_kind (h : ins r.Kind 1 4 = false) : recF s r = 5 := by rw [recF, if_neg (by simp [h])]
theorem recF_seq (h : ins r.Kind 1 4 = true) (h2 : ins r.Seq 1 1000000000 = false) : recF s r = 3 := by rw [recF, if_pos h, if_neg (by simp [h2])]
theorem recF_bad (h : ins r.Kind 1 4 = true) (h2 : ins r.Seq 1 1000000000 = true) (h3 : kindF s r ≠ 0) : recF s r = kindF s r := by rw [recF, if_pos h, if_pos h2, if_pos h3]
theorem recF_form (h : ins r.Kind 1 4 = true) (h2 : ins r.Seq 1 1000000000 = true) (h3 : kindF s r = 0) (h4 : bareOK r = false) : recF s r = 1 := by rw [recF, if_pos h, if_pos h2, if_neg (by omega), if_neg (by simp [h4])]
theorem recF_ok (h : ins r.Kind 1 4 = true) (h2 : ins r.Seq 1 1000000000 = true) (h3 : kindF s r = 0) (h4 : bareOK r = true) : recF s r = 0 := by rw [recF, if_pos h, if_pos h2, if_neg (by omega), if_pos h4]
theorem kindF_item (h : r.Kind = 1) : kindF s r = itemF s r := by rw [kindF, if_pos h]; rfl
theorem kindF_share (h : r.Kind = 4) : kindF s r = if shareOK s r = true then 0 else 3 := by rw [kindF, if_neg (by omega), if_neg (by omega), if_neg (by omega)]
theorem kindF_done_no (h : r.Kind = 3) (h2 : ins r.Group 0 (s.Groups + s.Column - 1) = false) : kindF s r = 3 := by rw [kindF, if_neg (by omega), if_neg (by omega), if_pos h, if_neg (by simp [h2])]
theorem kindF_done_ok (h : r.Kind = 3) (h2 : ins r.Group 0 (s.Groups + s.Column - 1) = true) : kindF s r = 0 := by rw [kindF, if_neg (by omega), if_neg (by omega), if_pos h, if_pos h2]
theorem kindF_move_no (h : r.Kind = 2) (h2 : moveOK s r = false) : kindF s r = 3 := by rw [kindF, if_neg (by omega), if_pos h, if_neg (by simp [h2])]
theorem kindF_move_ok (h : r.Kind = 2) (h2 : moveOK s r = true) : kindF s r = 0 := by rw [kindF, if_neg (by omega), if_pos h, if_pos h2]
end
end Go.Wk
namespace Go.Wk
section
variable {P : Program} {n : Nat} {c : Code} {Q : Post} {L : Env} {w w0 : World} {M : Nat → Prop} {Δ F : List Rsc}
theorem set_getD {Δ : List Rsc} {i : Nat} {r : Rsc} (h : Δ[i]? = some r) : Δ.set i r = Δ := by
  apply List.ext_getElem?
  intro j
  rw [List.getElem?_set]
  split
  · rename_i e; subst e
    obtain ⟨hl, _⟩ := List.getElem?_eq_some_iff.1 h
    rw [if_pos hl, h]
  · rfl
theorem W_loopA {α : Type} [Rp α] {γ : Type} {v0 : Value} {fp0 : List Nat} (f : γ → List α) (g0 : γ) (H : Sep M w0 Δ F w) (i : Nat) (hi : Δ[i]? = some (mine [v0] (f g0) fp0)) (t : Nat) (ht : look L t = some v0)
  (E2 : Env) (h2 : sub L E2) (E : γ → Env) (I : γ → Prop) (μ : γ → Nat) (hs : sub L (E g0)) (h0 : I g0)
  (round : ∀ g v fp w, Sep M w0 (Δ.set i (mine [v] (f g) fp)) F w → I g → W P n c (again (fun x : γ × Value × List Nat => (t, x.2.1) :: (E x.1 ++ E2)) (fun x w' => Sep M w0 (Δ.set i (mine [x.2.1] (f x.1) x.2.2)) F w' ∧ I x.1) (fun x => μ x.1) (g, v, fp) Q) ((t, v) :: (E g ++ E2)) w) : W P n (.loop c) Q L w :=
 W_loop (fun x : γ × Value × List Nat => (t, x.2.1) :: (E x.1 ++ E2)) (fun x w' => Sep M w0 (Δ.set i (mine [x.2.1] (f x.1) x.2.2)) F w' ∧ I x.1) (fun x => μ x.1) (g0, v0, fp0) ⟨ht, sub_append hs h2⟩ ⟨by rw [set_getD hi]; exact H, h0⟩ fun x w h => round x.1 x.2.1 x.2.2 w h.1 h.2
end
end Go.Wk
