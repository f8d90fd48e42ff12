/-
  The functions walked, each once. (Printed by a program of mine.)
-/
import Derived.Test.YtlcpnnnangneeaaFacts
import Derived.Test.YtlcpnnnangneeaaWkK
namespace Go.Wk
open Go.Proofs Rp
set_option maxRecDepth 10000
theorem Try_laws_szInt64S {w : World} {xs : List Int} {xsA : Option Addr} {xsC : Nat} {l : Int} (xsS : Sees w [.slice xsA xs.length xsC] xs) (hl : -1 ≤ l ∧ l ≤ 1048576) : Ret Try.prog 75 #[.slice xsA xs.length xsC, .int .i64 l] w fun v w' => Ext No w w' ∧ (v = .int .i64 (if l - xs.length < 0 then -1 else l - xs.length)) := by
  have xsL := sees_len xsS
  unfold maxLen at xsL
  obtain ⟨xsF, xsO⟩ := xsS
  refine ret_Q (vs := [.slice xsA xs.length xsC, .int .i64 l]) Try.func75 rfl Try.ntmps75 rfl (fun Q hQ hN => ?_)
  have H0 := Sep.start (w := w) (F := [seen false [.slice xsA xs.length xsC] xs xsF]) (all_cons xsO (by simp))
  refine W_seq ?_
  refine W_reg ?_
  refine s_val (wn rfl) rfl rfl (py_assign rfl) ?_
  refine s_nil ?_
  refine W_seq ?_
  refine W_reg ?_
  refine s_val (wn rfl) rfl rfl (py_move rfl) (s_val (wn rfl) rfl rfl (py_move rfl) (s_val (wn rfl) rfl rfl (py_len Try.underlying33 rfl) (s_val (wn rfl) rfl rfl (py_sub rfl rfl (in64 ⟨by omega, by omega⟩)) (s_val (wn rfl) rfl rfl (py_assign rfl) ?_))))
  refine s_nil ?_
  refine W_seq ?_
  refine W_seq ?_
  refine W_reg ?_
  refine s_val (wn rfl) rfl rfl (py_move rfl) (s_val (wn rfl) rfl rfl (py_lss rfl rfl) ?_)
  refine s_nil ?_
  refine W_ifd rfl (fun c1 => ?_) (fun c1 => ?_)
  · refine W_seq ?_
    refine W_reg ?_
    refine s_val (wn rfl) rfl rfl (py_assign rfl) ?_
    refine s_nil ?_
    refine W_ret (hQ _ _ (fin1 Try.results75 rfl ?_))
    exact ⟨H0.ext, by rw [if_pos c1]⟩
  · refine W_skip ?_
    refine W_seq ?_
    refine W_reg ?_
    refine s_val (wn rfl) rfl rfl (py_move rfl) (s_val (wn rfl) rfl rfl (py_assign rfl) ?_)
    refine s_nil ?_
    refine W_ret (hQ _ _ (fin1 Try.results75 rfl ?_))
    exact ⟨H0.ext, by rw [if_neg c1]⟩
theorem Try_laws_eqInt64S {w : World} {xs : List Int} {xsA : Option Addr} {xsC : Nat} {ys : List Int} {ysA : Option Addr} {ysC : Nat} (xsS : Sees w [.slice xsA xs.length xsC] xs) (ysS : Sees w [.slice ysA ys.length ysC] ys) : Ret Try.prog 55 #[.slice xsA xs.length xsC, .slice ysA ys.length ysC] w fun v w' => Ext No w w' ∧ (v = .bool (decide (xs = ys))) := by
  have xsL := sees_len xsS
  unfold maxLen at xsL
  obtain ⟨xsF, xsO⟩ := xsS
  have ysL := sees_len ysS
  unfold maxLen at ysL
  obtain ⟨ysF, ysO⟩ := ysS
  refine ret_Q (vs := [.slice xsA xs.length xsC, .slice ysA ys.length ysC]) Try.func55 rfl Try.ntmps55 rfl (fun Q hQ hN => ?_)
  have H0 := Sep.start (w := w) (F := [seen false [.slice xsA xs.length xsC] xs xsF, seen false [.slice ysA ys.length ysC] ys ysF]) (all_cons xsO (all_cons ysO (by simp)))
  refine W_seq ?_
  refine W_reg ?_
  refine s_val (wn rfl) rfl rfl (py_assign rfl) ?_
  refine s_nil ?_
  refine W_seq ?_
  refine W_seq ?_
  refine W_reg ?_
  refine s_val (wn rfl) rfl rfl (py_move rfl) (s_val (wn rfl) rfl rfl (py_len Try.underlying33 rfl) (s_val (wn rfl) rfl rfl (py_move rfl) (s_val (wn rfl) rfl rfl (py_len Try.underlying33 rfl) (s_val (wn rfl) rfl rfl (py_neq rfl rfl) ?_))))
  refine s_nil ?_
  refine W_ifd rfl (fun c1 => ?_) (fun c1 => ?_)
  · refine W_seq ?_
    refine W_reg ?_
    refine s_val (wn rfl) rfl rfl (py_assign rfl) ?_
    refine s_nil ?_
    refine W_ret (hQ _ _ (fin1 Try.results55 rfl ?_))
    refine ⟨H0.ext, ?_⟩
    rw [decide_eq_false (fun e => by subst e; exact c1 rfl)]
  · refine W_skip ?_
    refine W_seq ?_
    refine W_seq ?_
    refine W_reg ?_
    refine s_val (wn rfl) rfl rfl (py_assign rfl) ?_
    refine s_nil ?_
    refine W_block ?_
    refine W_loop (γ := Nat) (fun k => [(0, .slice xsA xs.length xsC), (1, .slice ysA ys.length ysC), (5, .int .i64 k)]) (fun k w' => Sep No w [] [seen false [.slice xsA xs.length xsC] xs xsF, seen false [.slice ysA ys.length ysC] ys ysF] w' ∧ k ≤ xs.length ∧ (∀ i, i < k → xs.getD i 0 = ys.getD i 0)) (fun k => xs.length - k) 0 ⟨rfl, rfl, rfl, trivial⟩ ⟨H0, by omega, fun i hi => by omega⟩ (fun k w1 H1 => ?_)
    obtain ⟨H1, hk, he⟩ := H1
    refine W_seq ?_
    refine W_seq ?_
    refine W_reg ?_
    refine s_val (wn rfl) rfl rfl (py_move rfl) (s_val (wn rfl) rfl rfl (py_move rfl) (s_val (wn rfl) rfl rfl (py_len Try.underlying33 rfl) (s_val (wn rfl) rfl rfl (py_lss rfl rfl) ?_)))
    refine s_nil ?_
    refine W_ifd rfl (fun c2 => ?_) (fun c2 => ?_)
    · refine W_skip ?_
      refine W_seq ?_
      refine W_block ?_
      refine W_seq ?_
      obtain ⟨eb1, eo1, ee1, ec1⟩ := elem_int (H1.seen 0 rfl) k (by omega)
      have eI1 := elem_i64 (H1.seen 0 rfl) k (by omega)
      obtain ⟨eb2, eo2, ee2, ec2⟩ := elem_int (H1.seen 1 rfl) k (by omega)
      have eI2 := elem_i64 (H1.seen 1 rfl) k (by omega)
      refine W_drw (S := Ext No _) [(0, true), (1, true), (2, true), (3, true), (4, true), (5, true), (6, true), (7, true), (8, false)] (by kernel_rfl) (by kernel_rfl) (by kernel_rfl) rfl (fun _ => Ext.refl.drawn _) (fun q1 => ?_)
      have H2 := H1.drawn q1
      refine d_val rfl (wn rfl) rfl rfl (fun zw hx => py_move rfl) (d_val rfl (wn rfl) rfl rfl (fun zw hx => py_move rfl) (d_val rfl (wn rfl) rfl rfl (fun zw hx => py_elz Try.underlying33 Try.sizeOf2 rfl rfl ee1 k (by omega) (by omega)) (d_val rfl (wn rfl) rfl rfl (fun zw hx => py_load Try.underlying2 rfl rfl (hx.cell ec1)) (d_val rfl (wn rfl) rfl rfl (fun zw hx => py_move rfl) (d_val rfl (wn rfl) rfl rfl (fun zw hx => py_move rfl) (d_val rfl (wn rfl) rfl rfl (fun zw hx => py_elz Try.underlying33 Try.sizeOf2 rfl rfl ee2 k (by omega) (by omega)) (d_val rfl (wn rfl) rfl rfl (fun zw hx => py_load Try.underlying2 rfl rfl (hx.cell ec2)) (d_end rfl (wn rfl) rfl rfl (py_neq rfl rfl) ?_))))))))
      refine d_nil ?_
      refine W_ifd rfl (fun c3 => ?_) (fun c3 => ?_)
      · refine W_seq ?_
        refine W_reg ?_
        refine s_val (wn rfl) rfl rfl (py_assign rfl) ?_
        refine s_nil ?_
        refine W_ret (hQ _ _ (fin1 Try.results55 rfl ?_))
        refine ⟨H2.ext, ?_⟩
        rw [decide_eq_false (fun e => by subst e; exact c3 rfl)]
      · refine W_skip ?_
        refine W_reg ?_
        refine s_val (wn rfl) rfl rfl (py_move rfl) (s_val (wn rfl) rfl rfl (py_add rfl rfl (in64 ⟨by omega, by omega⟩)) (s_val (wn rfl) rfl rfl (py_assign rfl) ?_))
        refine s_nil ?_
        refine ⟨k + 1, ⟨rfl, rfl, rfl, trivial⟩, ⟨H2, by omega, fun i hi => ?_⟩, by dsimp only; omega⟩
        have c4 : xs.getD k 0 = ys.getD k 0 := by omega
        by_cases e : i = k
        · subst e; exact c4
        · exact he i (by omega)
    · refine W_exit ?_
      refine W_seq ?_
      refine W_reg ?_
      refine s_val (wn rfl) rfl rfl (py_assign rfl) ?_
      refine s_nil ?_
      refine W_ret (hQ _ _ (fin1 Try.results55 rfl ?_))
      refine ⟨H1.ext, ?_⟩
      rw [decide_eq_true (getD_ext (d := 0) (by omega) fun i hi => he i (by omega))]
theorem Try_laws_szByteS {w : World} {xs : List UInt8} {xsA : Option Addr} {xsC : Nat} {l : Int} (xsS : Sees w [.slice xsA xs.length xsC] xs) (hl : -1 ≤ l ∧ l ≤ 1048576) : Ret Try.prog 76 #[.slice xsA xs.length xsC, .int .i64 l] w fun v w' => Ext No w w' ∧ (v = .int .i64 (if l - xs.length < 0 then -1 else l - xs.length)) := by
  have xsL := sees_len xsS
  unfold maxLen at xsL
  obtain ⟨xsF, xsO⟩ := xsS
  refine ret_Q (vs := [.slice xsA xs.length xsC, .int .i64 l]) Try.func76 rfl Try.ntmps76 rfl (fun Q hQ hN => ?_)
  have H0 := Sep.start (w := w) (F := [seen false [.slice xsA xs.length xsC] xs xsF]) (all_cons xsO (by simp))
  refine W_seq ?_
  refine W_reg ?_
  refine s_val (wn rfl) rfl rfl (py_assign rfl) ?_
  refine s_nil ?_
  refine W_seq ?_
  refine W_reg ?_
  refine s_val (wn rfl) rfl rfl (py_move rfl) (s_val (wn rfl) rfl rfl (py_move rfl) (s_val (wn rfl) rfl rfl (py_len Try.underlying34 rfl) (s_val (wn rfl) rfl rfl (py_sub rfl rfl (in64 ⟨by omega, by omega⟩)) (s_val (wn rfl) rfl rfl (py_assign rfl) ?_))))
  refine s_nil ?_
  refine W_seq ?_
  refine W_seq ?_
  refine W_reg ?_
  refine s_val (wn rfl) rfl rfl (py_move rfl) (s_val (wn rfl) rfl rfl (py_lss rfl rfl) ?_)
  refine s_nil ?_
  refine W_ifd rfl (fun c1 => ?_) (fun c1 => ?_)
  · refine W_seq ?_
    refine W_reg ?_
    refine s_val (wn rfl) rfl rfl (py_assign rfl) ?_
    refine s_nil ?_
    refine W_ret (hQ _ _ (fin1 Try.results76 rfl ?_))
    exact ⟨H0.ext, by rw [if_pos c1]⟩
  · refine W_skip ?_
    refine W_seq ?_
    refine W_reg ?_
    refine s_val (wn rfl) rfl rfl (py_move rfl) (s_val (wn rfl) rfl rfl (py_assign rfl) ?_)
    refine s_nil ?_
    refine W_ret (hQ _ _ (fin1 Try.results76 rfl ?_))
    exact ⟨H0.ext, by rw [if_neg c1]⟩
theorem Try_laws_eqByteS {w : World} {xs : List UInt8} {xsA : Option Addr} {xsC : Nat} {ys : List UInt8} {ysA : Option Addr} {ysC : Nat} (xsS : Sees w [.slice xsA xs.length xsC] xs) (ysS : Sees w [.slice ysA ys.length ysC] ys) : Ret Try.prog 29 #[.slice xsA xs.length xsC, .slice ysA ys.length ysC] w fun v w' => Ext No w w' ∧ (v = .bool (decide (xs = ys))) := by
  have xsL := sees_len xsS
  unfold maxLen at xsL
  obtain ⟨xsF, xsO⟩ := xsS
  have ysL := sees_len ysS
  unfold maxLen at ysL
  obtain ⟨ysF, ysO⟩ := ysS
  refine ret_Q (vs := [.slice xsA xs.length xsC, .slice ysA ys.length ysC]) Try.func29 rfl Try.ntmps29 rfl (fun Q hQ hN => ?_)
  have H0 := Sep.start (w := w) (F := [seen false [.slice xsA xs.length xsC] xs xsF, seen false [.slice ysA ys.length ysC] ys ysF]) (all_cons xsO (all_cons ysO (by simp)))
  refine W_seq ?_
  refine W_reg ?_
  refine s_val (wn rfl) rfl rfl (py_assign rfl) ?_
  refine s_nil ?_
  refine W_seq ?_
  refine W_seq ?_
  refine W_reg ?_
  refine s_val (wn rfl) rfl rfl (py_move rfl) (s_val (wn rfl) rfl rfl (py_len Try.underlying34 rfl) (s_val (wn rfl) rfl rfl (py_move rfl) (s_val (wn rfl) rfl rfl (py_len Try.underlying34 rfl) (s_val (wn rfl) rfl rfl (py_neq rfl rfl) ?_))))
  refine s_nil ?_
  refine W_ifd rfl (fun c1 => ?_) (fun c1 => ?_)
  · refine W_seq ?_
    refine W_reg ?_
    refine s_val (wn rfl) rfl rfl (py_assign rfl) ?_
    refine s_nil ?_
    refine W_ret (hQ _ _ (fin1 Try.results29 rfl ?_))
    refine ⟨H0.ext, ?_⟩
    rw [decide_eq_false (fun e => by subst e; exact c1 rfl)]
  · refine W_skip ?_
    refine W_seq ?_
    refine W_seq ?_
    refine W_reg ?_
    refine s_val (wn rfl) rfl rfl (py_assign rfl) ?_
    refine s_nil ?_
    refine W_block ?_
    refine W_loop (γ := Nat) (fun k => [(0, .slice xsA xs.length xsC), (1, .slice ysA ys.length ysC), (5, .int .i64 k)]) (fun k w' => Sep No w [] [seen false [.slice xsA xs.length xsC] xs xsF, seen false [.slice ysA ys.length ysC] ys ysF] w' ∧ k ≤ xs.length ∧ (∀ i, i < k → xs.getD i 0 = ys.getD i 0)) (fun k => xs.length - k) 0 ⟨rfl, rfl, rfl, trivial⟩ ⟨H0, by omega, fun i hi => by omega⟩ (fun k w1 H1 => ?_)
    obtain ⟨H1, hk, he⟩ := H1
    refine W_seq ?_
    refine W_seq ?_
    refine W_reg ?_
    refine s_val (wn rfl) rfl rfl (py_move rfl) (s_val (wn rfl) rfl rfl (py_move rfl) (s_val (wn rfl) rfl rfl (py_len Try.underlying34 rfl) (s_val (wn rfl) rfl rfl (py_lss rfl rfl) ?_)))
    refine s_nil ?_
    refine W_ifd rfl (fun c2 => ?_) (fun c2 => ?_)
    · refine W_skip ?_
      refine W_seq ?_
      refine W_block ?_
      refine W_seq ?_
      obtain ⟨eb1, eo1, ee1, ec1⟩ := elem_u8 (H1.seen 0 rfl) k (by omega)
      obtain ⟨eb2, eo2, ee2, ec2⟩ := elem_u8 (H1.seen 1 rfl) k (by omega)
      refine W_drw (S := Ext No _) [(0, true), (1, true), (2, true), (3, true), (4, true), (5, true), (6, true), (7, true), (8, false)] (by kernel_rfl) (by kernel_rfl) (by kernel_rfl) rfl (fun _ => Ext.refl.drawn _) (fun q1 => ?_)
      have H2 := H1.drawn q1
      refine d_val rfl (wn rfl) rfl rfl (fun zw hx => py_move rfl) (d_val rfl (wn rfl) rfl rfl (fun zw hx => py_move rfl) (d_val rfl (wn rfl) rfl rfl (fun zw hx => py_elz Try.underlying34 Try.sizeOf5 rfl rfl ee1 k (by omega) (by omega)) (d_val rfl (wn rfl) rfl rfl (fun zw hx => py_load Try.underlying5 rfl rfl (hx.cell ec1)) (d_val rfl (wn rfl) rfl rfl (fun zw hx => py_move rfl) (d_val rfl (wn rfl) rfl rfl (fun zw hx => py_move rfl) (d_val rfl (wn rfl) rfl rfl (fun zw hx => py_elz Try.underlying34 Try.sizeOf5 rfl rfl ee2 k (by omega) (by omega)) (d_val rfl (wn rfl) rfl rfl (fun zw hx => py_load Try.underlying5 rfl rfl (hx.cell ec2)) (d_end rfl (wn rfl) rfl rfl (py_neq rfl rfl) ?_))))))))
      refine d_nil ?_
      refine W_ifd rfl (fun c3 => ?_) (fun c3 => ?_)
      · refine W_seq ?_
        refine W_reg ?_
        refine s_val (wn rfl) rfl rfl (py_assign rfl) ?_
        refine s_nil ?_
        refine W_ret (hQ _ _ (fin1 Try.results29 rfl ?_))
        refine ⟨H2.ext, ?_⟩
        rw [decide_eq_false (fun e => by subst e; exact c3 rfl)]
      · refine W_skip ?_
        refine W_reg ?_
        refine s_val (wn rfl) rfl rfl (py_move rfl) (s_val (wn rfl) rfl rfl (py_add rfl rfl (in64 ⟨by omega, by omega⟩)) (s_val (wn rfl) rfl rfl (py_assign rfl) ?_))
        refine s_nil ?_
        refine ⟨k + 1, ⟨rfl, rfl, rfl, trivial⟩, ⟨H2, by omega, fun i hi => ?_⟩, by dsimp only; omega⟩
        have c4 : xs.getD k 0 = ys.getD k 0 := by apply u8_inj.1; omega
        by_cases e : i = k
        · subst e; exact c4
        · exact he i (by omega)
    · refine W_exit ?_
      refine W_seq ?_
      refine W_reg ?_
      refine s_val (wn rfl) rfl rfl (py_assign rfl) ?_
      refine s_nil ?_
      refine W_ret (hQ _ _ (fin1 Try.results29 rfl ?_))
      refine ⟨H1.ext, ?_⟩
      rw [decide_eq_true (getD_ext (d := 0) (by omega) fun i hi => he i (by omega))]
theorem Try_laws_toInt64S {w : World} {xs : List Int} {xsA : Option Addr} {xsC : Nat} (xsS : Sees w [.slice xsA xs.length xsC] xs) (hl : xs.length ≤ 1048576) : Ret Try.prog 52 #[.slice xsA xs.length xsC] w fun v w' => Ext No w w' ∧ (Res w w' [v] xs) := by
  have xsL := sees_len xsS
  unfold maxLen at xsL
  obtain ⟨xsF, xsO⟩ := xsS
  refine ret_Q (vs := [.slice xsA xs.length xsC]) Try.func52 rfl Try.ntmps52 rfl (fun Q hQ hN => ?_)
  have H0 := Sep.start (w := w) (F := [seen false [.slice xsA xs.length xsC] xs xsF]) (all_cons xsO (by simp))
  refine W_seq ?_
  refine W_reg ?_
  refine s_val (wn rfl) rfl rfl (py_assign rfl) ?_
  refine s_nil ?_
  refine W_seq ?_
  refine W_reg ?_
  refine s_val (wn rfl) rfl rfl (py_move rfl) (s_val (wn rfl) rfl rfl (py_len Try.underlying33 rfl) ?_)
  refine s_make (wn rfl) rfl Try.underlying33 Try_ty2 own_zi rfl (by omega) (by unfold maxLen; omega) H0 (fun b1 w1 e1 g1 H1 => ?_)
  refine s_val (wn rfl) rfl rfl (py_assign rfl) ?_
  refine s_nil ?_
  refine W_seq ?_
  refine W_seq ?_
  refine W_reg ?_
  refine s_val (wn rfl) rfl rfl (py_assign rfl) ?_
  refine s_nil ?_
  refine W_block ?_
  refine W_loop (γ := Nat × List Nat) (fun (k, fp) => [(0, .slice xsA xs.length xsC), (3, .slice (some ⟨b1, 0, none⟩) xs.length xs.length), (4, .int .i64 k)]) (fun (k, fp) w' => Sep No w [mine [.slice (some ⟨b1, 0, none⟩) xs.length xs.length] (cp xs k 0) fp] [seen false [.slice xsA xs.length xsC] xs xsF] w' ∧ k ≤ xs.length) (fun (k, fp) => xs.length - k) (0, [b1]) ⟨rfl, rfl, rfl, trivial⟩ ⟨cp_zero ▸ H1, by omega⟩ (fun (k, fp) w2 H2 => ?_)
  obtain ⟨H2, hk⟩ := H2
  refine W_seq ?_
  refine W_seq ?_
  refine W_reg ?_
  refine s_val (wn rfl) rfl rfl (py_move rfl) (s_val (wn rfl) rfl rfl (py_move rfl) (s_val (wn rfl) rfl rfl (py_len Try.underlying33 rfl) (s_val (wn rfl) rfl rfl (py_lss rfl rfl) ?_)))
  refine s_nil ?_
  refine W_ifd rfl (fun c1 => ?_) (fun c1 => ?_)
  · refine W_skip ?_
    refine W_seq ?_
    refine W_block ?_
    obtain ⟨eb1, eo1, ee1, ec1⟩ := elem_int (H2.seen 0 rfl) k (by omega)
    have eI1 := elem_i64 (H2.seen 0 rfl) k (by omega)
    obtain ⟨eb2, eo2, ee2, ec2⟩ := elem_int (H2.mine 0 rfl) k (by rw [cp_len (xs := xs) (k := k) (by omega)]; omega)
    refine W_reg ?_
    refine s_val (wn rfl) rfl rfl (py_move rfl) (s_val (wn rfl) rfl rfl (py_move rfl) (s_val (wn rfl) rfl rfl (py_move rfl) (s_val (wn rfl) rfl rfl (py_move rfl) (s_val (wn rfl) rfl rfl (py_elz Try.underlying33 Try.sizeOf2 rfl rfl ee1 k (by omega) (by omega)) (s_val (wn rfl) rfl rfl (py_load Try.underlying2 rfl rfl ec1) (s_val (wn rfl) rfl rfl (py_elz Try.underlying33 Try.sizeOf2 rfl rfl ee2 k (by omega) (by omega)) ?_))))))
    refine s_elst (wn rfl) Try.sizeOf2 rfl H2 0 rfl k (by rw [cp_len (xs := xs) (k := k) (by omega)]; omega) rfl ee2 rfl (own_bi (by first | assumption | (unfold I64ok; omega))) (fun w3 fp1 e2 H3 => ?_)
    refine s_nil ?_
    refine W_reg ?_
    refine s_val (wn rfl) rfl rfl (py_move rfl) (s_val (wn rfl) rfl rfl (py_add rfl rfl (in64 ⟨by omega, by omega⟩)) (s_val (wn rfl) rfl rfl (py_assign rfl) ?_))
    refine s_nil ?_
    refine ⟨(k + 1, _), ⟨rfl, rfl, rfl, trivial⟩, ⟨cp_set (xs := xs) (k := k) (d := 0) (by omega) ▸ H3, by omega⟩, by dsimp only; omega⟩
  · refine W_exit ?_
    refine W_seq ?_
    refine W_reg ?_
    refine s_val (wn rfl) rfl rfl (py_move rfl) (s_val (wn rfl) rfl rfl (py_assign rfl) ?_)
    refine s_nil ?_
    refine W_ret (hQ _ _ (fin1 Try.results52 rfl ?_))
    obtain rfl : k = xs.length := by omega
    exact ⟨H2.ext, by
      have h := H2.out 0 rfl
      rwa [cp_all] at h⟩
theorem Try_laws_toByteS {w : World} {xs : List UInt8} {xsA : Option Addr} {xsC : Nat} (xsS : Sees w [.slice xsA xs.length xsC] xs) (hl : xs.length ≤ 1048576) : Ret Try.prog 26 #[.slice xsA xs.length xsC] w fun v w' => Ext No w w' ∧ (Res w w' [v] xs) := by
  have xsL := sees_len xsS
  unfold maxLen at xsL
  obtain ⟨xsF, xsO⟩ := xsS
  refine ret_Q (vs := [.slice xsA xs.length xsC]) Try.func26 rfl Try.ntmps26 rfl (fun Q hQ hN => ?_)
  have H0 := Sep.start (w := w) (F := [seen false [.slice xsA xs.length xsC] xs xsF]) (all_cons xsO (by simp))
  refine W_seq ?_
  refine W_reg ?_
  refine s_val (wn rfl) rfl rfl (py_assign rfl) ?_
  refine s_nil ?_
  refine W_seq ?_
  refine W_reg ?_
  refine s_val (wn rfl) rfl rfl (py_move rfl) (s_val (wn rfl) rfl rfl (py_len Try.underlying34 rfl) ?_)
  refine s_make (wn rfl) rfl Try.underlying34 Try_ty5 own_z8 rfl (by omega) (by unfold maxLen; omega) H0 (fun b1 w1 e1 g1 H1 => ?_)
  refine s_val (wn rfl) rfl rfl (py_assign rfl) ?_
  refine s_nil ?_
  refine W_seq ?_
  refine W_seq ?_
  refine W_reg ?_
  refine s_val (wn rfl) rfl rfl (py_assign rfl) ?_
  refine s_nil ?_
  refine W_block ?_
  refine W_loop (γ := Nat × List Nat) (fun (k, fp) => [(0, .slice xsA xs.length xsC), (3, .slice (some ⟨b1, 0, none⟩) xs.length xs.length), (4, .int .i64 k)]) (fun (k, fp) w' => Sep No w [mine [.slice (some ⟨b1, 0, none⟩) xs.length xs.length] (cp xs k 0) fp] [seen false [.slice xsA xs.length xsC] xs xsF] w' ∧ k ≤ xs.length) (fun (k, fp) => xs.length - k) (0, [b1]) ⟨rfl, rfl, rfl, trivial⟩ ⟨cp_zero ▸ H1, by omega⟩ (fun (k, fp) w2 H2 => ?_)
  obtain ⟨H2, hk⟩ := H2
  refine W_seq ?_
  refine W_seq ?_
  refine W_reg ?_
  refine s_val (wn rfl) rfl rfl (py_move rfl) (s_val (wn rfl) rfl rfl (py_move rfl) (s_val (wn rfl) rfl rfl (py_len Try.underlying34 rfl) (s_val (wn rfl) rfl rfl (py_lss rfl rfl) ?_)))
  refine s_nil ?_
  refine W_ifd rfl (fun c1 => ?_) (fun c1 => ?_)
  · refine W_skip ?_
    refine W_seq ?_
    refine W_block ?_
    obtain ⟨eb1, eo1, ee1, ec1⟩ := elem_u8 (H2.seen 0 rfl) k (by omega)
    obtain ⟨eb2, eo2, ee2, ec2⟩ := elem_u8 (H2.mine 0 rfl) k (by rw [cp_len (xs := xs) (k := k) (by omega)]; omega)
    refine W_reg ?_
    refine s_val (wn rfl) rfl rfl (py_move rfl) (s_val (wn rfl) rfl rfl (py_move rfl) (s_val (wn rfl) rfl rfl (py_move rfl) (s_val (wn rfl) rfl rfl (py_move rfl) (s_val (wn rfl) rfl rfl (py_elz Try.underlying34 Try.sizeOf5 rfl rfl ee1 k (by omega) (by omega)) (s_val (wn rfl) rfl rfl (py_load Try.underlying5 rfl rfl ec1) (s_val (wn rfl) rfl rfl (py_elz Try.underlying34 Try.sizeOf5 rfl rfl ee2 k (by omega) (by omega)) ?_))))))
    refine s_elst (wn rfl) Try.sizeOf5 rfl H2 0 rfl k (by rw [cp_len (xs := xs) (k := k) (by omega)]; omega) rfl ee2 rfl own_b8 (fun w3 fp1 e2 H3 => ?_)
    refine s_nil ?_
    refine W_reg ?_
    refine s_val (wn rfl) rfl rfl (py_move rfl) (s_val (wn rfl) rfl rfl (py_add rfl rfl (in64 ⟨by omega, by omega⟩)) (s_val (wn rfl) rfl rfl (py_assign rfl) ?_))
    refine s_nil ?_
    refine ⟨(k + 1, _), ⟨rfl, rfl, rfl, trivial⟩, ⟨cp_set (xs := xs) (k := k) (d := 0) (by omega) ▸ H3, by omega⟩, by dsimp only; omega⟩
  · refine W_exit ?_
    refine W_seq ?_
    refine W_reg ?_
    refine s_val (wn rfl) rfl rfl (py_move rfl) (s_val (wn rfl) rfl rfl (py_assign rfl) ?_)
    refine s_nil ?_
    refine W_ret (hQ _ _ (fin1 Try.results26 rfl ?_))
    obtain rfl : k = xs.length := by omega
    exact ⟨H2.ext, by
      have h := H2.out 0 rfl
      rwa [cp_all] at h⟩
theorem Try_laws_szByteSS {w : World} {xs : List (List UInt8)} {xsA : Option Addr} {xsC : Nat} {l : Int} (xsS : Sees w [.slice xsA xs.length xsC] xs) (hl : -1 ≤ l ∧ l ≤ 1048576) : Ret Try.prog 44 #[.slice xsA xs.length xsC, .int .i64 l] w fun v w' => Ext No w w' ∧ (v = .int .i64 (if l - totB xs < 0 then -1 else l - totB xs)) := by
  have xsL := sees_len xsS
  unfold maxLen at xsL
  obtain ⟨xsF, xsO⟩ := xsS
  refine ret_Q (vs := [.slice xsA xs.length xsC, .int .i64 l]) Try.func44 rfl Try.ntmps44 rfl (fun Q hQ hN => ?_)
  have H0 := Sep.start (w := w) (F := [seen false [.slice xsA xs.length xsC] xs xsF]) (all_cons xsO (by simp))
  refine W_seq ?_
  refine W_reg ?_
  refine s_val (wn rfl) rfl rfl (py_assign rfl) ?_
  refine s_nil ?_
  refine W_seq ?_
  refine W_reg ?_
  refine s_val (wn rfl) rfl rfl (py_move rfl) (s_val (wn rfl) rfl rfl (py_move rfl) (s_val (wn rfl) rfl rfl (py_len Try.underlying43 rfl) (s_val (wn rfl) rfl rfl (py_sub rfl rfl (in64 ⟨by omega, by omega⟩)) (s_val (wn rfl) rfl rfl (py_assign rfl) ?_))))
  refine s_nil ?_
  refine W_seq ?_
  refine W_seq ?_
  refine W_reg ?_
  refine s_val (wn rfl) rfl rfl (py_move rfl) (s_val (wn rfl) rfl rfl (py_lss rfl rfl) ?_)
  refine s_nil ?_
  refine W_ifd rfl (fun c1 => ?_) (fun c1 => ?_)
  · refine W_seq ?_
    refine W_reg ?_
    refine s_val (wn rfl) rfl rfl (py_assign rfl) ?_
    refine s_nil ?_
    refine W_ret (hQ _ _ (fin1 Try.results44 rfl ?_))
    exact ⟨H0.ext, by rw [if_pos (by unfold totB; omega)]⟩
  · refine W_skip ?_
    refine W_seq ?_
    refine W_seq ?_
    refine W_reg ?_
    refine s_val (wn rfl) rfl rfl (py_assign rfl) ?_
    refine s_nil ?_
    refine W_block ?_
    refine W_loop (γ := Nat × Int) (fun (k, m) => [(0, .slice xsA xs.length xsC), (1, .int .i64 m), (5, .int .i64 k)]) (fun (k, m) w' => Sep No w [] [seen false [.slice xsA xs.length xsC] xs xsF] w' ∧ k ≤ xs.length ∧ 0 ≤ m ∧ m = l - xs.length - sumN (fun i => (xs.getD i []).length) k) (fun (k, m) => xs.length - k) (0, _) ⟨rfl, rfl, rfl, trivial⟩ ⟨H0, by omega, by omega, by simp only [sumN]; omega⟩ (fun (k, m) w1 H1 => ?_)
    obtain ⟨H1, hk, hm, hs⟩ := H1
    refine W_seq ?_
    refine W_seq ?_
    refine W_reg ?_
    refine s_val (wn rfl) rfl rfl (py_move rfl) (s_val (wn rfl) rfl rfl (py_move rfl) (s_val (wn rfl) rfl rfl (py_len Try.underlying43 rfl) (s_val (wn rfl) rfl rfl (py_lss rfl rfl) ?_)))
    refine s_nil ?_
    refine W_ifd rfl (fun c2 => ?_) (fun c2 => ?_)
    · refine W_skip ?_
      refine W_seq ?_
      refine W_block ?_
      refine W_seq ?_
      obtain ⟨eb1, eo1, ea1, ek1, ef1, ee1, ec1, eO1, eH1⟩ := elem_sl (H1.seen 0 rfl) k (by omega)
      have eP1 := H1.look1 0 rfl eO1 eH1
      refine W_reg ?_
      refine s_val (wn rfl) rfl rfl (py_move rfl) (s_val (wn rfl) rfl rfl (py_move rfl) (s_val (wn rfl) rfl rfl (py_elz Try.underlying43 Try.sizeOf34 rfl rfl ee1 k (by omega) (by omega)) (s_val (wn rfl) rfl rfl (py_load Try.underlying34 rfl rfl ec1) (s_val (wn rfl) rfl rfl (py_move rfl) ?_))))
      refine s_call (wn rfl) rfl rfl (pc_call Try.func76 rfl Try_nm76 rfl) (Try_laws_szByteS (eP1.sees 1 rfl) (by omega)) (fun v1 w2 r1 => ?_)
      obtain ⟨e1, rfl⟩ := r1
      have H2 := eP1.to e1
      refine s_val (wn rfl) rfl rfl (py_assign rfl) ?_
      refine s_nil ?_
      refine W_seq ?_
      refine W_reg ?_
      refine s_val (wn rfl) rfl rfl (py_move rfl) (s_val (wn rfl) rfl rfl (py_lss rfl rfl) ?_)
      refine s_nil ?_
      refine W_ifd rfl (fun c3 => ?_) (fun c3 => ?_)
      · refine W_seq ?_
        refine W_reg ?_
        refine s_val (wn rfl) rfl rfl (py_assign rfl) ?_
        refine s_nil ?_
        refine W_ret (hQ _ _ (fin1 Try.results44 rfl ?_))
        have sg : sumN (fun i => (xs.getD i []).length) (k + 1) = sumN (fun i => (xs.getD i []).length) k + (xs.getD k []).length := rfl
        have sl := sumN_le (f := fun i => (xs.getD i []).length) (j := k + 1) (k := xs.length) (by omega)
        exact ⟨H2.ext, by rw [if_pos (by unfold totB; omega)]⟩
      · refine W_skip ?_
        refine W_reg ?_
        refine s_val (wn rfl) rfl rfl (py_move rfl) (s_val (wn rfl) rfl rfl (py_add rfl rfl (in64 ⟨by omega, by omega⟩)) (s_val (wn rfl) rfl rfl (py_assign rfl) ?_))
        refine s_nil ?_
        have sg : sumN (fun i => (xs.getD i []).length) (k + 1) = sumN (fun i => (xs.getD i []).length) k + (xs.getD k []).length := rfl
        refine ⟨(k + 1, _), ⟨rfl, rfl, rfl, trivial⟩, ⟨(H2.ftake 1), by omega, by omega, by omega⟩, by dsimp only; omega⟩
    · refine W_exit ?_
      refine W_seq ?_
      refine W_reg ?_
      refine s_val (wn rfl) rfl rfl (py_move rfl) (s_val (wn rfl) rfl rfl (py_assign rfl) ?_)
      refine s_nil ?_
      refine W_ret (hQ _ _ (fin1 Try.results44 rfl ?_))
      obtain rfl : k = xs.length := by omega
      exact ⟨H1.ext, congrArg (Value.int .i64) (by unfold totB; omega)⟩
theorem Try_laws_eqByteSS {w : World} {xs : List (List UInt8)} {xsA : Option Addr} {xsC : Nat} {ys : List (List UInt8)} {ysA : Option Addr} {ysC : Nat} (xsS : Sees w [.slice xsA xs.length xsC] xs) (ysS : Sees w [.slice ysA ys.length ysC] ys) : Ret Try.prog 48 #[.slice xsA xs.length xsC, .slice ysA ys.length ysC] w fun v w' => Ext No w w' ∧ (v = .bool (decide (xs = ys))) := by
  have xsL := sees_len xsS
  unfold maxLen at xsL
  obtain ⟨xsF, xsO⟩ := xsS
  have ysL := sees_len ysS
  unfold maxLen at ysL
  obtain ⟨ysF, ysO⟩ := ysS
  refine ret_Q (vs := [.slice xsA xs.length xsC, .slice ysA ys.length ysC]) Try.func48 rfl Try.ntmps48 rfl (fun Q hQ hN => ?_)
  have H0 := Sep.start (w := w) (F := [seen false [.slice xsA xs.length xsC] xs xsF, seen false [.slice ysA ys.length ysC] ys ysF]) (all_cons xsO (all_cons ysO (by simp)))
  refine W_seq ?_
  refine W_reg ?_
  refine s_val (wn rfl) rfl rfl (py_assign rfl) ?_
  refine s_nil ?_
  refine W_seq ?_
  refine W_seq ?_
  refine W_reg ?_
  refine s_val (wn rfl) rfl rfl (py_move rfl) (s_val (wn rfl) rfl rfl (py_len Try.underlying43 rfl) (s_val (wn rfl) rfl rfl (py_move rfl) (s_val (wn rfl) rfl rfl (py_len Try.underlying43 rfl) (s_val (wn rfl) rfl rfl (py_neq rfl rfl) ?_))))
  refine s_nil ?_
  refine W_ifd rfl (fun c1 => ?_) (fun c1 => ?_)
  · refine W_seq ?_
    refine W_reg ?_
    refine s_val (wn rfl) rfl rfl (py_assign rfl) ?_
    refine s_nil ?_
    refine W_ret (hQ _ _ (fin1 Try.results48 rfl ?_))
    refine ⟨H0.ext, ?_⟩
    rw [decide_eq_false (fun e => by subst e; exact c1 rfl)]
  · refine W_skip ?_
    refine W_seq ?_
    refine W_seq ?_
    refine W_reg ?_
    refine s_val (wn rfl) rfl rfl (py_assign rfl) ?_
    refine s_nil ?_
    refine W_block ?_
    refine W_loop (γ := Nat) (fun k => [(0, .slice xsA xs.length xsC), (1, .slice ysA ys.length ysC), (5, .int .i64 k)]) (fun k w' => Sep No w [] [seen false [.slice xsA xs.length xsC] xs xsF, seen false [.slice ysA ys.length ysC] ys ysF] w' ∧ k ≤ xs.length ∧ (∀ i, i < k → xs.getD i [] = ys.getD i [])) (fun k => xs.length - k) 0 ⟨rfl, rfl, rfl, trivial⟩ ⟨H0, by omega, fun i hi => by omega⟩ (fun k w1 H1 => ?_)
    obtain ⟨H1, hk, he⟩ := H1
    refine W_seq ?_
    refine W_seq ?_
    refine W_reg ?_
    refine s_val (wn rfl) rfl rfl (py_move rfl) (s_val (wn rfl) rfl rfl (py_move rfl) (s_val (wn rfl) rfl rfl (py_len Try.underlying43 rfl) (s_val (wn rfl) rfl rfl (py_lss rfl rfl) ?_)))
    refine s_nil ?_
    refine W_ifd rfl (fun c2 => ?_) (fun c2 => ?_)
    · refine W_skip ?_
      refine W_seq ?_
      refine W_block ?_
      refine W_seq ?_
      obtain ⟨eb1, eo1, ea1, ek1, ef1, ee1, ec1, eO1, eH1⟩ := elem_sl (H1.seen 0 rfl) k (by omega)
      have eP1 := H1.look1 0 rfl eO1 eH1
      obtain ⟨eb2, eo2, ea2, ek2, ef2, ee2, ec2, eO2, eH2⟩ := elem_sl (eP1.seen 1 rfl) k (by omega)
      have eP2 := eP1.look1 1 rfl eO2 eH2
      refine W_drw (S := Ext No _) [(0, true), (1, true), (2, true), (3, true), (4, true), (5, true), (6, true), (7, true), (8, false), (9, false)] (by kernel_rfl) (by kernel_rfl) (by kernel_rfl) rfl (fun _ => Ext.refl.drawn _) (fun q1 => ?_)
      have H2 := eP2.drawn q1
      refine d_val rfl (wn rfl) rfl rfl (fun zw hx => py_move rfl) (d_val rfl (wn rfl) rfl rfl (fun zw hx => py_move rfl) (d_val rfl (wn rfl) rfl rfl (fun zw hx => py_elz Try.underlying43 Try.sizeOf34 rfl rfl ee1 k (by omega) (by omega)) (d_val rfl (wn rfl) rfl rfl (fun zw hx => py_load Try.underlying34 rfl rfl (hx.cell ec1)) (d_val rfl (wn rfl) rfl rfl (fun zw hx => py_move rfl) (d_val rfl (wn rfl) rfl rfl (fun zw hx => py_move rfl) (d_val rfl (wn rfl) rfl rfl (fun zw hx => py_elz Try.underlying43 Try.sizeOf34 rfl rfl ee2 k (by omega) (by omega)) (d_val rfl (wn rfl) rfl rfl (fun zw hx => py_load Try.underlying34 rfl rfl (hx.cell ec2)) ?_)))))))
      refine d_call rfl (wn rfl) rfl rfl (pc_call Try.func29 rfl Try_nm29 rfl) (Try_laws_eqByteS (H2.sees 2 rfl) (H2.sees 3 rfl)) (fun hS _ _ r _ => hS.trans r.1.no) (fun v1 w2 r1 => ?_)
      obtain ⟨e1, rfl⟩ := r1
      have H3 := H2.to e1
      refine d_end rfl (wn rfl) rfl rfl (py_not rfl) ?_
      refine d_nil ?_
      refine W_if rfl (fun c3 => ?_) (fun c3 => ?_)
      · refine W_seq ?_
        refine W_reg ?_
        refine s_val (wn rfl) rfl rfl (py_assign rfl) ?_
        refine s_nil ?_
        refine W_ret (hQ _ _ (fin1 Try.results48 rfl ?_))
        refine ⟨H3.ext, ?_⟩
        rw [decide_eq_false (fun e => by subst e; simp at c3)]
      · refine W_skip ?_
        refine W_reg ?_
        refine s_val (wn rfl) rfl rfl (py_move rfl) (s_val (wn rfl) rfl rfl (py_add rfl rfl (in64 ⟨by omega, by omega⟩)) (s_val (wn rfl) rfl rfl (py_assign rfl) ?_))
        refine s_nil ?_
        have c4 : xs.getD k [] = ys.getD k [] := by simpa using c3
        refine ⟨k + 1, ⟨rfl, rfl, rfl, trivial⟩, ⟨(H3.ftake 2), by omega, fun i hi => ?_⟩, by dsimp only; omega⟩
        by_cases e : i = k
        · subst e; exact c4
        · exact he i (by omega)
    · refine W_exit ?_
      refine W_seq ?_
      refine W_reg ?_
      refine s_val (wn rfl) rfl rfl (py_assign rfl) ?_
      refine s_nil ?_
      refine W_ret (hQ _ _ (fin1 Try.results48 rfl ?_))
      refine ⟨H1.ext, ?_⟩
      rw [decide_eq_true (getD_ext (d := []) (by omega) fun i hi => he i (by omega))]
theorem Try_laws_toByteSS {w : World} {xs : List (List UInt8)} {xsA : Option Addr} {xsC : Nat} (xsS : Sees w [.slice xsA xs.length xsC] xs) (hl : totB xs ≤ 1048576) : Ret Try.prog 46 #[.slice xsA xs.length xsC] w fun v w' => Ext No w w' ∧ (Res w w' [v] xs) := by
  have xsL := sees_len xsS
  unfold maxLen at xsL
  obtain ⟨xsF, xsO⟩ := xsS
  have hl0 : xs.length ≤ 1048576 := by unfold totB at hl; omega
  refine ret_Q (vs := [.slice xsA xs.length xsC]) Try.func46 rfl Try.ntmps46 rfl (fun Q hQ hN => ?_)
  have H0 := Sep.start (w := w) (F := [seen false [.slice xsA xs.length xsC] xs xsF]) (all_cons xsO (by simp))
  refine W_seq ?_
  refine W_reg ?_
  refine s_val (wn rfl) rfl rfl (py_assign rfl) ?_
  refine s_nil ?_
  refine W_seq ?_
  refine W_reg ?_
  refine s_val (wn rfl) rfl rfl (py_move rfl) (s_val (wn rfl) rfl rfl (py_len Try.underlying43 rfl) ?_)
  refine s_make (wn rfl) rfl Try.underlying43 Try_ty34 (own_zs (α := UInt8)) rfl (by omega) (by unfold maxLen; omega) H0 (fun b1 w1 e1 g1 H1 => ?_)
  refine s_val (wn rfl) rfl rfl (py_assign rfl) ?_
  refine s_nil ?_
  refine W_seq ?_
  refine W_seq ?_
  refine W_reg ?_
  refine s_val (wn rfl) rfl rfl (py_assign rfl) ?_
  refine s_nil ?_
  refine W_block ?_
  refine W_loop (γ := Nat × List Nat) (fun (k, fp) => [(0, .slice xsA xs.length xsC), (3, .slice (some ⟨b1, 0, none⟩) xs.length xs.length), (4, .int .i64 k)]) (fun (k, fp) w' => Sep No w [mine [.slice (some ⟨b1, 0, none⟩) xs.length xs.length] (cp xs k []) fp] [seen false [.slice xsA xs.length xsC] xs xsF] w' ∧ k ≤ xs.length) (fun (k, fp) => xs.length - k) (0, [b1]) ⟨rfl, rfl, rfl, trivial⟩ ⟨cp_zero ▸ H1, by omega⟩ (fun (k, fp) w2 H2 => ?_)
  obtain ⟨H2, hk⟩ := H2
  refine W_seq ?_
  refine W_seq ?_
  refine W_reg ?_
  refine s_val (wn rfl) rfl rfl (py_move rfl) (s_val (wn rfl) rfl rfl (py_move rfl) (s_val (wn rfl) rfl rfl (py_len Try.underlying43 rfl) (s_val (wn rfl) rfl rfl (py_lss rfl rfl) ?_)))
  refine s_nil ?_
  refine W_ifd rfl (fun c1 => ?_) (fun c1 => ?_)
  · refine W_skip ?_
    refine W_seq ?_
    refine W_block ?_
    have hl1 := totB_get hl k (by omega)
    obtain ⟨eb1, eo1, ea1, ek1, ef1, ee1, ec1, eO1, eH1⟩ := elem_sl (H2.seen 0 rfl) k (by omega)
    have eP1 := H2.look1 0 rfl eO1 eH1
    obtain ⟨eb2, eo2, ee2⟩ := own_addr (eP1.mine 0 rfl) k (by rw [cp_len (xs := xs) (k := k) (by omega)]; omega)
    refine W_reg ?_
    refine s_val (wn rfl) rfl rfl (py_move rfl) (s_val (wn rfl) rfl rfl (py_move rfl) (s_val (wn rfl) rfl rfl (py_move rfl) (s_val (wn rfl) rfl rfl (py_move rfl) (s_val (wn rfl) rfl rfl (py_elz Try.underlying43 Try.sizeOf34 rfl rfl ee1 k (by omega) (by omega)) (s_val (wn rfl) rfl rfl (py_load Try.underlying34 rfl rfl ec1) ?_)))))
    refine s_call (wn rfl) rfl rfl (pc_call Try.func26 rfl Try_nm26 rfl) (Try_laws_toByteS (eP1.sees 1 rfl) (by omega)) (fun v1 w3 r1 => ?_)
    obtain ⟨e2, r1⟩ := r1
    obtain ⟨fp1, H3⟩ := eP1.res e2 r1
    obtain ⟨a1, k1, q1⟩ := own_slice (H3.mine 1 rfl)
    cases q1
    refine s_val (wn rfl) rfl rfl (py_elz Try.underlying43 Try.sizeOf34 rfl rfl ee2 k (by omega) (by omega)) ?_
    refine s_elst2 (wn rfl) Try.sizeOf34 rfl H3 0 1 rfl rfl rfl k (by rw [cp_len (xs := xs) (k := k) (by omega)]; omega) rfl ee2 rfl (fun w4 fp2 H4 => ?_)
    refine s_nil ?_
    refine W_reg ?_
    refine s_val (wn rfl) rfl rfl (py_move rfl) (s_val (wn rfl) rfl rfl (py_add rfl rfl (in64 ⟨by omega, by omega⟩)) (s_val (wn rfl) rfl rfl (py_assign rfl) ?_))
    refine s_nil ?_
    refine ⟨(k + 1, _), ⟨rfl, rfl, rfl, trivial⟩, ⟨cp_set (xs := xs) (k := k) (d := []) (by omega) ▸ ((H4.ftake 1).dtake 1), by omega⟩, by dsimp only; omega⟩
  · refine W_exit ?_
    refine W_seq ?_
    refine W_reg ?_
    refine s_val (wn rfl) rfl rfl (py_move rfl) (s_val (wn rfl) rfl rfl (py_assign rfl) ?_)
    refine s_nil ?_
    refine W_ret (hQ _ _ (fin1 Try.results46 rfl ?_))
    obtain rfl : k = xs.length := by omega
    exact ⟨H2.ext, by
      have h := H2.out 0 rfl
      rwa [cp_all] at h⟩
theorem Try_spec_l1Has {w : World} {xs : List Int} {xsA : Option Addr} {xsC : Nat} {x : Int} (xsS : Sees w [.slice xsA xs.length xsC] xs) : Ret Try.prog 77 #[.slice xsA xs.length xsC, .int .i64 x] w fun v w' => Ext No w w' ∧ (v = .bool (decide (x ∈ xs))) := by
  have xsL := sees_len xsS
  unfold maxLen at xsL
  obtain ⟨xsF, xsO⟩ := xsS
  refine ret_Q (vs := [.slice xsA xs.length xsC, .int .i64 x]) Try.func77 rfl Try.ntmps77 rfl (fun Q hQ hN => ?_)
  have H0 := Sep.start (w := w) (F := [seen false [.slice xsA xs.length xsC] xs xsF]) (all_cons xsO (by simp))
  refine W_seq ?_
  refine W_reg ?_
  refine s_val (wn rfl) rfl rfl (py_assign rfl) ?_
  refine s_nil ?_
  refine W_seq ?_
  refine W_seq ?_
  refine W_reg ?_
  refine s_val (wn rfl) rfl rfl (py_assign rfl) ?_
  refine s_nil ?_
  refine W_block ?_
  refine W_loop (γ := Nat) (fun k => [(0, .slice xsA xs.length xsC), (1, .int .i64 x), (5, .int .i64 k)]) (fun k w' => Sep No w [] [seen false [.slice xsA xs.length xsC] xs xsF] w' ∧ k ≤ xs.length ∧ (∀ i, i < k → xs.getD i 0 ≠ x)) (fun k => xs.length - k) 0 ⟨rfl, rfl, rfl, trivial⟩ ⟨H0, by omega, fun i hi => by omega⟩ (fun k w1 H1 => ?_)
  obtain ⟨H1, hk, he⟩ := H1
  refine W_seq ?_
  refine W_seq ?_
  refine W_reg ?_
  refine s_val (wn rfl) rfl rfl (py_move rfl) (s_val (wn rfl) rfl rfl (py_move rfl) (s_val (wn rfl) rfl rfl (py_len Try.underlying33 rfl) (s_val (wn rfl) rfl rfl (py_lss rfl rfl) ?_)))
  refine s_nil ?_
  refine W_ifd rfl (fun c1 => ?_) (fun c1 => ?_)
  · refine W_skip ?_
    refine W_seq ?_
    refine W_block ?_
    refine W_seq ?_
    obtain ⟨eb1, eo1, ee1, ec1⟩ := elem_int (H1.seen 0 rfl) k (by omega)
    have eI1 := elem_i64 (H1.seen 0 rfl) k (by omega)
    refine W_reg ?_
    refine s_val (wn rfl) rfl rfl (py_move rfl) (s_val (wn rfl) rfl rfl (py_move rfl) (s_val (wn rfl) rfl rfl (py_elz Try.underlying33 Try.sizeOf2 rfl rfl ee1 k (by omega) (by omega)) (s_val (wn rfl) rfl rfl (py_load Try.underlying2 rfl rfl ec1) (s_val (wn rfl) rfl rfl (py_move rfl) (s_val (wn rfl) rfl rfl (py_eql rfl rfl) ?_)))))
    refine s_nil ?_
    refine W_ifd rfl (fun c2 => ?_) (fun c2 => ?_)
    · refine W_seq ?_
      refine W_reg ?_
      refine s_val (wn rfl) rfl rfl (py_assign rfl) ?_
      refine s_nil ?_
      refine W_ret (hQ _ _ (fin1 Try.results77 rfl ?_))
      exact ⟨H1.ext, by rw [decide_eq_true (mem_getD (d := 0) (k := k) (by omega) c2)]⟩
    · refine W_skip ?_
      refine W_reg ?_
      refine s_val (wn rfl) rfl rfl (py_move rfl) (s_val (wn rfl) rfl rfl (py_add rfl rfl (in64 ⟨by omega, by omega⟩)) (s_val (wn rfl) rfl rfl (py_assign rfl) ?_))
      refine s_nil ?_
      refine ⟨k + 1, ⟨rfl, rfl, rfl, trivial⟩, ⟨H1, by omega, fun i hi => ?_⟩, by dsimp only; omega⟩
      by_cases e : i = k
      · subst e; omega
      · exact he i (by omega)
  · refine W_exit ?_
    refine W_seq ?_
    refine W_reg ?_
    refine s_val (wn rfl) rfl rfl (py_assign rfl) ?_
    refine s_nil ?_
    refine W_ret (hQ _ _ (fin1 Try.results77 rfl ?_))
    exact ⟨H1.ext, by rw [decide_eq_false (not_mem_getD (d := 0) fun i hi => he i (by omega))]⟩
theorem Try_slices_Index_int64_int64 {w : World} {xs : List Int} {xsA : Option Addr} {xsC : Nat} {x : Int} (xsS : Sees w [.slice xsA xs.length xsC] xs) : Ret Try.prog 132 #[.slice xsA xs.length xsC, .int .i64 x] w fun v w' => Ext No w w' ∧ (v = .int .i64 (idxOf xs x)) := by
  have xsL := sees_len xsS
  unfold maxLen at xsL
  obtain ⟨xsF, xsO⟩ := xsS
  refine ret_Q (vs := [.slice xsA xs.length xsC, .int .i64 x]) Try.func132 rfl Try.ntmps132 rfl (fun Q hQ hN => ?_)
  have H0 := Sep.start (w := w) (F := [seen false [.slice xsA xs.length xsC] xs xsF]) (all_cons xsO (by simp))
  refine W_seq ?_
  refine W_reg ?_
  refine s_val (wn rfl) rfl rfl (py_assign rfl) ?_
  refine s_nil ?_
  refine W_seq ?_
  refine W_seq ?_
  refine W_reg ?_
  refine s_val (wn rfl) rfl rfl (py_move rfl) (s_val (wn rfl) rfl rfl (py_len Try.underlying33 rfl) (s_val (wn rfl) rfl rfl (py_move rfl) ?_))
  refine s_nil ?_
  refine W_block ?_
  refine W_loop (γ := Nat) (fun k => [(0, .slice xsA xs.length xsC), (1, .int .i64 x), (7, .int .i64 xs.length), (8, .int .i64 k)]) (fun k w' => Sep No w [] [seen false [.slice xsA xs.length xsC] xs xsF] w' ∧ k ≤ xs.length ∧ (∀ i, i < k → xs.getD i 0 ≠ x)) (fun k => xs.length - k) 0 ⟨rfl, rfl, rfl, rfl, trivial⟩ ⟨H0, by omega, fun i hi => by omega⟩ (fun k w1 H1 => ?_)
  obtain ⟨H1, hk, he⟩ := H1
  refine W_seq ?_
  refine W_reg ?_
  refine s_val (wn rfl) rfl rfl (py_lss rfl rfl) ?_
  refine s_nil ?_
  refine W_seq ?_
  refine W_ifd rfl (fun c1 => ?_) (fun c1 => ?_)
  · refine W_skip ?_
    refine W_seq ?_
    refine W_block ?_
    refine W_seq ?_
    refine W_reg ?_
    refine s_val (wn rfl) rfl rfl (py_move rfl) (s_val (wn rfl) rfl rfl (py_assign rfl) ?_)
    refine s_nil ?_
    refine W_seq ?_
    obtain ⟨eb1, eo1, ee1, ec1⟩ := elem_int (H1.seen 0 rfl) k (by omega)
    have eI1 := elem_i64 (H1.seen 0 rfl) k (by omega)
    refine W_reg ?_
    refine s_val (wn rfl) rfl rfl (py_move rfl) (s_val (wn rfl) rfl rfl (py_move rfl) (s_val (wn rfl) rfl rfl (py_move rfl) (s_val (wn rfl) rfl rfl (py_elz Try.underlying33 Try.sizeOf2 rfl rfl ee1 k (by omega) (by omega)) (s_val (wn rfl) rfl rfl (py_load Try.underlying2 rfl rfl ec1) (s_val (wn rfl) rfl rfl (py_eql rfl rfl) ?_)))))
    refine s_nil ?_
    refine W_ifd rfl (fun c2 => ?_) (fun c2 => ?_)
    · refine W_seq ?_
      refine W_reg ?_
      refine s_val (wn rfl) rfl rfl (py_move rfl) (s_val (wn rfl) rfl rfl (py_assign rfl) ?_)
      refine s_nil ?_
      refine W_ret (hQ _ _ (fin1 Try.results132 rfl ?_))
      exact ⟨H1.ext, congrArg (Value.int .i64) (idxOf_eq (by omega) c2.symm he).symm⟩
    · refine W_skip ?_
      refine W_reg ?_
      refine s_val (wn rfl) rfl rfl (py_add rfl rfl (in64 ⟨by omega, by omega⟩)) (s_val (wn rfl) rfl rfl (py_move rfl) ?_)
      refine s_nil ?_
      refine ⟨k + 1, ⟨rfl, rfl, rfl, rfl, trivial⟩, ⟨H1, by omega, fun i hi => ?_⟩, by dsimp only; omega⟩
      by_cases e : i = k
      · subst e; omega
      · exact he i (by omega)
  · refine W_exit ?_
    refine W_seq ?_
    refine W_reg ?_
    refine s_val (wn rfl) rfl rfl (py_assign rfl) ?_
    refine s_nil ?_
    refine W_ret (hQ _ _ (fin1 Try.results132 rfl ?_))
    exact ⟨H1.ext, congrArg (Value.int .i64) (idxOf_no fun i hi => he i (by omega)).symm⟩
theorem Try_slices_Contains_int64_int64 {w : World} {xs : List Int} {xsA : Option Addr} {xsC : Nat} {x : Int} (xsS : Sees w [.slice xsA xs.length xsC] xs) : Ret Try.prog 78 #[.slice xsA xs.length xsC, .int .i64 x] w fun v w' => Ext No w w' ∧ (v = .bool (decide (x ∈ xs))) := by
  have xsL := sees_len xsS
  unfold maxLen at xsL
  obtain ⟨xsF, xsO⟩ := xsS
  refine ret_Q (vs := [.slice xsA xs.length xsC, .int .i64 x]) Try.func78 rfl Try.ntmps78 rfl (fun Q hQ hN => ?_)
  have H0 := Sep.start (w := w) (F := [seen false [.slice xsA xs.length xsC] xs xsF]) (all_cons xsO (by simp))
  refine W_seq ?_
  refine W_reg ?_
  refine s_val (wn rfl) rfl rfl (py_assign rfl) ?_
  refine s_nil ?_
  refine W_seq ?_
  refine W_reg ?_
  refine s_val (wn rfl) rfl rfl (py_move rfl) (s_val (wn rfl) rfl rfl (py_move rfl) ?_)
  refine s_call (wn rfl) rfl rfl (pc_call Try.func132 rfl Try_nm132 rfl) (Try_slices_Index_int64_int64 (H0.sees 0 rfl)) (fun v1 w1 r1 => ?_)
  obtain ⟨e1, rfl⟩ := r1
  have H1 := H0.to e1
  refine s_val (wn rfl) rfl rfl (py_geq rfl rfl) (s_val (wn rfl) rfl rfl (py_assign rfl) ?_)
  refine s_nil ?_
  refine W_ret (hQ _ _ (fin1 Try.results78 rfl ?_))
  exact ⟨H1.ext, by rw [idxOf_has]⟩
end Go.Wk
