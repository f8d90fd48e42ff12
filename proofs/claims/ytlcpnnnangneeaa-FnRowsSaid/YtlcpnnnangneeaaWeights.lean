/-
  The functions walked, each once. (Printed by a program of mine.)
-/
import Derived.Test.YtlcpnnnangneeaaSolve
import Derived.Test.YtlcpnnnangneeaaWlB
namespace Go.Wk
open Go.Proofs Rp
set_option maxRecDepth 10000
theorem Try_impl_size_int64 {w : World} {xs : List Int} {xsA : Option Addr} {xsC : Nat} (xsS : Sees w [.slice xsA xs.length xsC] xs) : Ret Try.prog 105 #[.slice xsA xs.length xsC] w fun v w' => Ext No w w' ∧ (v = .int .i64 xs.length) := by
  have xsL := sees_len xsS
  unfold maxLen at xsL
  obtain ⟨xsF, xsO⟩ := xsS
  refine ret_Q (vs := [.slice xsA xs.length xsC]) Try.func105 rfl Try.ntmps105 rfl (fun Q hQ hN => ?_)
  have H0 := Sep.start (w := w) (F := [seen false [.slice xsA xs.length xsC] xs xsF]) (all_cons xsO (by simp))
  refine W_seq ?_
  refine W_reg ?_
  refine s_val (wn rfl) rfl rfl (py_assign rfl) ?_
  refine s_nil ?_
  refine W_seq ?_
  refine W_reg ?_
  refine s_val (wn rfl) rfl rfl (py_move rfl) (s_val (wn rfl) rfl rfl (py_len Try.underlying33 rfl) (s_val (wn rfl) rfl rfl (py_assign rfl) ?_))
  refine s_nil ?_
  refine W_ret (hQ _ _ (fin1 Try.results105 rfl ?_))
  exact ⟨H0.ext, rfl⟩
theorem Try_laws_eqBytesResult {w : World} {a : BytesResult} {aA1 : Option Addr} {aC1 : Nat} {b : BytesResult} {bA1 : Option Addr} {bC1 : Nat} (aK : a.Ok) (aS1 : Sees w [.slice aA1 a.Bytes.length aC1] a.Bytes) (bK : b.Ok) (bS1 : Sees w [.slice bA1 b.Bytes.length bC1] b.Bytes) : Ret Try.prog 54 #[a.val aA1 aC1, b.val bA1 bC1] w fun v w' => Ext No w w' ∧ (v = .bool (decide (a = b))) := by
  have aK2 := aK
  unfold BytesResult.Ok I64ok at aK2
  try unfold maxLen at aK2
  have aL1 := sees_len aS1
  unfold maxLen at aL1
  obtain ⟨aF1, aO1⟩ := aS1
  have bK2 := bK
  unfold BytesResult.Ok I64ok at bK2
  try unfold maxLen at bK2
  have bL1 := sees_len bS1
  unfold maxLen at bL1
  obtain ⟨bF1, bO1⟩ := bS1
  refine ret_Q (vs := [a.val aA1 aC1, b.val bA1 bC1]) Try.func54 rfl Try.ntmps54 rfl (fun Q hQ hN => ?_)
  have H0 := Sep.start (w := w) (F := [seen false [.slice aA1 a.Bytes.length aC1] a.Bytes aF1, seen false [.slice bA1 b.Bytes.length bC1] b.Bytes bF1]) (all_cons aO1 (all_cons bO1 (by simp)))
  refine W_seq ?_
  refine W_reg ?_
  refine s_box (wn rfl) rfl rfl H0 (fun b1 w1 e1 g1 H1 => ?_)
  refine s_box (wn rfl) rfl rfl H1 (fun b2 w2 e2 g2 H2 => ?_)
  refine s_val (wn rfl) rfl rfl (py_assign rfl) ?_
  refine s_nil ?_
  refine W_seq ?_
  refine W_seq ?_
  refine W_reg ?_
  refine s_val (wn rfl) rfl rfl (py_field Try.underlying70 rfl Try.sizeOf2 rfl rfl) (s_val (wn rfl) rfl rfl (py_load Try.underlying2 rfl rfl (cell_atL (H2.box 0 rfl) rfl)) (s_val (wn rfl) rfl rfl (py_field Try.underlying70 rfl Try.sizeOf2 rfl rfl) (s_val (wn rfl) rfl rfl (py_load Try.underlying2 rfl rfl (cell_atL (H2.box 1 rfl) rfl)) (s_val (wn rfl) rfl rfl (py_neq rfl rfl) ?_))))
  refine s_nil ?_
  refine W_ifd rfl (fun c1 => ?_) (fun c1 => ?_)
  · refine W_seq ?_
    refine W_reg ?_
    refine s_val (wn rfl) rfl rfl (py_assign rfl) ?_
    refine s_nil ?_
    refine W_ret (hQ _ _ (fin1 Try.results54 rfl ?_))
    refine ⟨H2.ext, ?_⟩
    rw [decide_eq_false (fun e => by subst e; first | exact c1 rfl | simp at c1)]
  · refine W_skip ?_
    refine W_seq ?_
    refine W_seq ?_
    refine W_reg ?_
    refine s_val (wn rfl) rfl rfl (py_field Try.underlying70 rfl Try.sizeOf34 rfl rfl) (s_val (wn rfl) rfl rfl (py_load Try.underlying34 rfl rfl (cell_atL (H2.box 0 rfl) rfl)) (s_val (wn rfl) rfl rfl (py_field Try.underlying70 rfl Try.sizeOf34 rfl rfl) (s_val (wn rfl) rfl rfl (py_load Try.underlying34 rfl rfl (cell_atL (H2.box 1 rfl) rfl)) ?_)))
    refine s_call (wn rfl) rfl rfl (pc_call Try.func29 rfl Try_nm29 rfl) (Try_laws_eqByteS (H2.sees 0 rfl) (H2.sees 1 rfl)) (fun v1 w3 r1 => ?_)
    obtain ⟨e3, rfl⟩ := r1
    have H3 := H2.to e3
    refine s_val (wn rfl) rfl rfl (py_not rfl) ?_
    refine s_nil ?_
    refine W_if rfl (fun c2 => ?_) (fun c2 => ?_)
    · refine W_seq ?_
      refine W_reg ?_
      refine s_val (wn rfl) rfl rfl (py_assign rfl) ?_
      refine s_nil ?_
      refine W_ret (hQ _ _ (fin1 Try.results54 rfl ?_))
      refine ⟨H3.ext, ?_⟩
      rw [decide_eq_false (fun e => by subst e; first | exact c2 rfl | simp at c2)]
    · refine W_skip ?_
      refine W_seq ?_
      refine W_reg ?_
      refine s_val (wn rfl) rfl rfl (py_assign rfl) ?_
      refine s_nil ?_
      refine W_ret (hQ _ _ (fin1 Try.results54 rfl ?_))
      refine ⟨H3.ext, ?_⟩
      rw [decide_eq_true]
      cases a; cases b; simp_all
theorem Try_laws_markBytesResult {w : World} {xs : List UInt8} {xsA : Option Addr} {xsC : Nat} {c k : Int} {fp : List Nat} (o : own true w [.slice xsA xs.length xsC] xs fp) (nd : fp.Nodup) (hk : 0 ≤ k ∧ k + xs.length ≤ 4611686018427387904) : Ret Try.prog 57 #[.agg #[.int .i64 c, .slice xsA xs.length xsC], .int .i64 k] w fun v w' => (v = .int .i64 (k + xs.length) ∧ ∃ xs', Mut w w' fp [.slice xsA xs.length xsC] xs' ∧ xs'.length = xs.length ∧ MarkB xs' k) := by
  refine ret_Q (vs := [.agg #[.int .i64 c, .slice xsA xs.length xsC], .int .i64 k]) Try.func57 rfl Try.ntmps57 rfl (fun Q hQ hN => ?_)
  have H0 := Sep.begin o nd
  refine W_seq ?_
  refine W_reg ?_
  refine s_box (wn rfl) rfl rfl H0 (fun b1 w1 e1 g1 H1 => ?_)
  refine s_val (wn rfl) rfl rfl (py_assign rfl) ?_
  refine s_nil ?_
  refine W_seq ?_
  refine W_reg ?_
  refine s_val (wn rfl) rfl rfl (py_field Try.underlying70 rfl Try.sizeOf34 rfl rfl) (s_val (wn rfl) rfl rfl (py_load Try.underlying34 rfl rfl (cell_atL (H1.box 1 rfl) rfl)) (s_val (wn rfl) rfl rfl (py_move rfl) ?_))
  refine s_call (wn rfl) rfl rfl (pc_call Try.func30 rfl Try_nm30 rfl) (Try_laws_markByteS (H1.mine 0 rfl) (H1.nodup1 (i := 0) rfl) (by constructor <;> omega)) (fun v1 w2 r1 => ?_)
  obtain ⟨rfl, mx1, mm1, ml1, mk1⟩ := r1
  obtain ⟨fp1, H2⟩ := H1.mut 0 rfl mm1
  try dsimp only [List.nil_append, List.cons_append, List.set_cons_zero, List.set_cons_succ] at H2
  refine s_val (wn rfl) rfl rfl (py_assign rfl) ?_
  refine s_nil ?_
  refine W_seq ?_
  refine W_reg ?_
  refine s_val (wn rfl) rfl rfl (py_move rfl) (s_val (wn rfl) rfl rfl (py_assign rfl) ?_)
  refine s_nil ?_
  refine W_ret (hQ _ _ (fin1 Try.results57 rfl ?_))
  have hz := H2.dtake 1
  exact ⟨rfl, _, hz.done, ml1, mk1⟩
theorem Try_laws_heldBytesResult {w : World} {xs : List UInt8} {xsA : Option Addr} {n xsC : Nat} {c k : Int} (xsS : Sees w [.slice xsA n xsC] xs) (hk : 0 ≤ k ∧ k + xs.length ≤ 4611686018427387904) (hm : MarkB xs k) : Ret Try.prog 58 #[.agg #[.int .i64 c, .slice xsA n xsC], .int .i64 k] w fun v w' => Ext No w w' ∧ (v = .int .i64 (k + xs.length)) := by
  obtain ⟨xsF, xsO⟩ := xsS
  obtain rfl := own_n xsO
  refine ret_Q (vs := [.agg #[.int .i64 c, .slice xsA xs.length xsC], .int .i64 k]) Try.func58 rfl Try.ntmps58 rfl (fun Q hQ hN => ?_)
  have H0 := Sep.start (w := w) (F := [seen false [.slice xsA xs.length xsC] xs xsF]) (all_cons xsO (by simp))
  refine W_seq ?_
  refine W_reg ?_
  refine s_box (wn rfl) rfl rfl H0 (fun b1 w1 e1 g1 H1 => ?_)
  refine s_val (wn rfl) rfl rfl (py_assign rfl) ?_
  refine s_nil ?_
  refine W_seq ?_
  refine W_reg ?_
  refine s_val (wn rfl) rfl rfl (py_field Try.underlying70 rfl Try.sizeOf34 rfl rfl) (s_val (wn rfl) rfl rfl (py_load Try.underlying34 rfl rfl (cell_atL (H1.box 0 rfl) rfl)) (s_val (wn rfl) rfl rfl (py_move rfl) ?_))
  refine s_call (wn rfl) rfl rfl (pc_call Try.func110 rfl Try_nm110 rfl) (Try_laws_heldByteS (H1.sees 0 rfl) (by constructor <;> omega) (by assumption)) (fun v1 w2 r1 => ?_)
  obtain ⟨e2, rfl⟩ := r1
  have H2 := H1.to e2
  refine s_val (wn rfl) rfl rfl (py_assign rfl) ?_
  refine s_nil ?_
  refine W_seq ?_
  refine W_seq ?_
  refine W_reg ?_
  refine s_val (wn rfl) rfl rfl (py_move rfl) (s_val (wn rfl) rfl rfl (py_lss rfl rfl) ?_)
  refine s_nil ?_
  refine W_ifd rfl (fun c1 => ?_) (fun c1 => ?_)
  · refine W_seq ?_
    refine W_reg ?_
    refine s_val (wn rfl) rfl rfl (py_assign rfl) ?_
    refine s_nil ?_
    refine W_ret (hQ _ _ (fin1 Try.results58 rfl ?_))
    exact absurd c1 (by omega)
  · refine W_skip ?_
    refine W_seq ?_
    refine W_reg ?_
    refine s_val (wn rfl) rfl rfl (py_move rfl) (s_val (wn rfl) rfl rfl (py_assign rfl) ?_)
    refine s_nil ?_
    refine W_ret (hQ _ _ (fin1 Try.results58 rfl ?_))
    exact ⟨H2.ext, rfl⟩
theorem Try_impl_RowWeights {w : World} {x : Int} {y : Int} {hs : List Int} {hsA : Option Addr} {hsC : Nat} {p : Int} (hsS : Sees w [.slice hsA hs.length hsC] hs) : Ret Try.prog 53 #[.int .i64 x, .int .i64 y, .slice hsA hs.length hsC, .int .i64 p] w fun v w' => Ext No w w' ∧ (∃ A1 C1, v = (rowWeights x y hs p).val A1 C1 ∧ Res w w' [.int .i64 (rowWeights x y hs p).Code, .slice A1 (rowWeights x y hs p).Bytes.length C1] (rowWeights x y hs p)) := by
  have hsL := sees_len hsS
  unfold maxLen at hsL
  obtain ⟨hsF, hsO⟩ := hsS
  refine ret_Q (vs := [.int .i64 x, .int .i64 y, .slice hsA hs.length hsC, .int .i64 p]) Try.func53 rfl Try.ntmps53 rfl (fun Q hQ hN => ?_)
  have H0 := Sep.start (w := w) (F := [seen false [.slice hsA hs.length hsC] hs hsF]) (all_cons hsO (by simp))
  refine W_seq ?_
  refine W_reg ?_
  refine s_var (wn rfl) rfl Try.zeroValue70 H0 (fun b1 w1 e1 g1 H1 => ?_)
  refine s_nil ?_
  refine W_seq ?_
  refine W_reg ?_
  refine s_val (wn rfl) rfl rfl (py_move rfl) (s_val (wn rfl) rfl rfl (py_move rfl) (s_val (wn rfl) rfl rfl (py_buildS Try_pl105 rfl rfl) ?_))
  refine s_var (wn rfl) rfl Try.zeroValue105 H1 (fun b2 w2 e2 g2 H2 => ?_)
  refine s_stoS (wn rfl) Try.sizeOf105 rfl rfl rfl rfl H2 1 rfl rfl (fun w3 e3 H3 => ?_)
  dsimp only [List.nil_append, List.cons_append, List.set_cons_zero, List.set_cons_succ, layL] at H3
  refine s_nil ?_
  refine W_seq ?_
  refine W_block ?_
  refine W_seq ?_
  refine W_reg ?_
  refine s_val (wn rfl) rfl rfl (py_loadS Try.underlying105 rfl Try.sizeOf105 rfl rfl (At.whole (H3.box 1 rfl))) ?_
  refine s_call (wn rfl) rfl rfl (pc_call Try.func81 rfl Try_nm81 rfl) Try_impl_rowCode_ok (fun v1 w4 r1 => ?_)
  obtain ⟨e4, rfl⟩ := r1
  have H4 := H3.to e4
  refine s_val (wn rfl) rfl rfl (py_not rfl) (s_val (wn rfl) rfl rfl (py_assign rfl) ?_)
  refine s_nil ?_
  refine W_if rfl (fun c1 => ?_) (fun c1 => ?_)
  · refine W_seq ?_
    refine W_reg ?_
    refine s_val (wn rfl) rfl rfl (py_buildS Try_pl70 rfl rfl) ?_
    refine s_stoS (wn rfl) Try.sizeOf70 rfl rfl rfl rfl H4 0 rfl rfl (fun w5 e5 H5 => ?_)
    dsimp only [List.nil_append, List.cons_append, List.set_cons_zero, List.set_cons_succ, layL] at H5
    refine s_nil ?_
    refine W_ret (hQ _ _ (finC Try.results53 rfl (run_loadVarS Try.underlying70 rfl Try.sizeOf70 rfl (At.whole (H5.box 0 rfl))) ?_))
    rw [rowWeights_range (not_true c1)]
    exact ⟨H5.ext, none, 0, rfl, bytes_nil (by unfold I64ok; dsimp only; omega)⟩
  · refine W_seq ?_
    have bd := rOK_bd (not_false c1)
    refine W_reg ?_
    refine s_val (wn rfl) rfl rfl (py_move rfl) ?_
    refine s_call (wn rfl) rfl rfl (pc_call Try.func105 rfl Try_nm105 rfl) (Try_impl_size_int64 (H4.sees 0 rfl)) (fun v2 w6 r2 => ?_)
    obtain ⟨e6, rfl⟩ := r2
    have H6 := H4.to e6
    refine s_val (wn rfl) rfl rfl (py_move rfl) (s_val (wn rfl) rfl rfl (py_neq rfl rfl) (s_val (wn rfl) rfl rfl (py_move rfl) ?_))
    refine s_grp 5 (j := 4) (want := false) (t := 28) rfl rfl rfl rfl (fun hg1 kk1 => s_val (wgE rfl rfl rfl hg1) rfl rfl (py_move rfl) (s_val (wgE rfl rfl rfl hg1) rfl rfl (py_loadS Try.underlying105 rfl Try.sizeOf105 rfl rfl (At.whole (H6.box 1 rfl))) (s_callv (wgE rfl rfl rfl hg1) rfl rfl (pc_call Try.func107 rfl Try_nm107 rfl) (Try_impl_rowCode_blocks (by omega)) (fun w8 e8 => s_callv (wgE rfl rfl rfl hg1) rfl rfl (pc_call Try.func106 rfl Try_nm106 rfl) (Try_impl_risesIn ((H6.to e8).sees 0 rfl) (by omega)) (fun w9 e9 => s_val (wgE rfl rfl rfl hg1) rfl rfl (py_not rfl) (kk1 _ _ (kx rfl (kx rfl (kx rfl (kx rfl (kx rfl k0))))) rfl ((Ext.refl.trans e8).trans e9))))))) (fun w7 e7 => ?_)
    have H7 := H6.to e7
    refine s_val (wn rfl) rfl rfl (py_bor rfl rfl) (s_val (wn rfl) rfl rfl (py_assign rfl) ?_)
    refine s_nil ?_
    refine W_if rfl (fun c2 => ?_) (fun c2 => ?_)
    · refine W_seq ?_
      refine W_reg ?_
      refine s_val (wn rfl) rfl rfl (py_buildS Try_pl70 rfl rfl) ?_
      refine s_stoS (wn rfl) Try.sizeOf70 rfl rfl rfl rfl H7 0 rfl rfl (fun w10 e10 H8 => ?_)
      dsimp only [List.nil_append, List.cons_append, List.set_cons_zero, List.set_cons_succ, layL] at H8
      refine s_nil ?_
      refine W_ret (hQ _ _ (finC Try.results53 rfl (run_loadVarS Try.underlying70 rfl Try.sizeOf70 rfl (At.whole (H8.box 0 rfl))) ?_))
      rw [rowWeights_form (not_false c1) c2]
      exact ⟨H8.ext, none, 0, rfl, bytes_nil (by unfold I64ok; dsimp only; omega)⟩
    · refine W_seq ?_
      refine W_reg ?_
      refine s_val (wn rfl) rfl rfl (py_move rfl) (s_val (wn rfl) rfl rfl (py_loadS Try.underlying105 rfl Try.sizeOf105 rfl rfl (At.whole (H7.box 1 rfl))) ?_)
      refine s_call (wn rfl) rfl rfl (pc_call Try.func107 rfl Try_nm107 rfl) (Try_impl_rowCode_blocks (by omega)) (fun v3 w11 r3 => ?_)
      obtain ⟨e11, rfl⟩ := r3
      have H9 := H7.to e11
      refine s_val (wn rfl) rfl rfl (py_sub rfl rfl (in64 ⟨by omega, by omega⟩)) ?_
      refine s_call (wn rfl) rfl rfl (pc_call Try.func108 rfl Try_nm108 rfl) Try_impl_inside (fun v4 w12 r4 => ?_)
      obtain ⟨e12, rfl⟩ := r4
      have H10 := H9.to e12
      refine s_val (wn rfl) rfl rfl (py_not rfl) (s_val (wn rfl) rfl rfl (py_assign rfl) ?_)
      refine s_nil ?_
      refine W_if rfl (fun c3 => ?_) (fun c3 => ?_)
      · refine W_seq ?_
        refine W_reg ?_
        refine s_val (wn rfl) rfl rfl (py_buildS Try_pl70 rfl rfl) ?_
        refine s_stoS (wn rfl) Try.sizeOf70 rfl rfl rfl rfl H10 0 rfl rfl (fun w13 e13 H11 => ?_)
        dsimp only [List.nil_append, List.cons_append, List.set_cons_zero, List.set_cons_succ, layL] at H11
        refine s_nil ?_
        refine W_ret (hQ _ _ (finC Try.results53 rfl (run_loadVarS Try.underlying70 rfl Try.sizeOf70 rfl (At.whole (H11.box 0 rfl))) ?_))
        rw [rowWeights_bad (not_false c1) (rowWeights_mid c2) (not_true c3)]
        exact ⟨H11.ext, none, 0, rfl, bytes_nil (by unfold I64ok; dsimp only; omega)⟩
      · refine W_skip ?_
        refine W_seq ?_
        have hm := rowWeights_mid c2
        have hw := ins_bd (not_false c3)
        have hr := fun i hi => rises_get hm.2 i hi
        obtain ⟨n, rfl⟩ : ∃ n : Nat, x = n := ⟨x.toNat, by omega⟩
        have hr2 : ∀ i, i < n → 0 ≤ hs.getD i 0 ∧ hs.getD i 0 ≤ 500 := fun i hi => by have := hr i (by omega); omega
        refine W_reg ?_
        refine s_val (wn rfl) rfl rfl (py_loadS Try.underlying105 rfl Try.sizeOf105 rfl rfl (At.whole (H10.box 1 rfl))) (s_val (wn rfl) rfl rfl (py_move rfl) (s_val (wn rfl) rfl rfl (py_move rfl) ?_))
        refine s_call (wn rfl) rfl rfl (pc_call Try.func109 rfl Try_nm109 rfl) (Try_impl_rowCode_between (H10.sees 0 rfl) (by omega) (by first | assumption | omega) (by assumption) (by first | assumption | omega)) (fun v5 w14 r5 => ?_)
        obtain ⟨e14, r5⟩ := r5
        obtain ⟨fp1, H12⟩ := H10.res e14 r5
        obtain ⟨a1, k1, q1⟩ := own_slice (H12.mine 2 rfl)
        cases q1
        refine s_val (wn rfl) rfl rfl (py_buildS Try_pl70 rfl rfl) ?_
        refine s_stoS (wn rfl) Try.sizeOf70 rfl rfl rfl rfl H12 0 rfl rfl (fun w15 e15 H13 => ?_)
        dsimp only [List.nil_append, List.cons_append, List.set_cons_zero, List.set_cons_succ, layL] at H13
        refine s_nil ?_
        refine W_ret (hQ _ _ (finC Try.results53 rfl (run_loadVarS Try.underlying70 rfl Try.sizeOf70 rfl (At.whole (H13.box 0 rfl))) ?_))
        rw [rowWeights_full (not_false c1) hm (not_false c3), Int.toNat_natCast]
        exact ⟨H13.ext, _, _, rfl, BytesResult.out (x := ⟨0, betw n hs p 0⟩) (H13.sub (.cons _ (.cons _ (.cons_cons _ List.Sublist.slnil)))) (by show I64ok 0; unfold I64ok; omega)⟩
theorem Try_spec_RowWeights {w : World} {x : Int} {y : Int} {hs : List Int} {hsA : Option Addr} {hsC : Nat} {p : Int} (hsS : Sees w [.slice hsA hs.length hsC] hs) : Ret Try.prog 51 #[.int .i64 x, .int .i64 y, .slice hsA hs.length hsC, .int .i64 p] w fun v w' => Ext No w w' ∧ (∃ A1 C1, v = (rowWeights x y hs p).val A1 C1 ∧ Res w w' [.int .i64 (rowWeights x y hs p).Code, .slice A1 (rowWeights x y hs p).Bytes.length C1] (rowWeights x y hs p)) := by
  have hsL := sees_len hsS
  unfold maxLen at hsL
  obtain ⟨hsF, hsO⟩ := hsS
  refine ret_Q (vs := [.int .i64 x, .int .i64 y, .slice hsA hs.length hsC, .int .i64 p]) Try.func51 rfl Try.ntmps51 rfl (fun Q hQ hN => ?_)
  have H0 := Sep.start (w := w) (F := [seen false [.slice hsA hs.length hsC] hs hsF]) (all_cons hsO (by simp))
  refine W_seq ?_
  refine W_reg ?_
  refine s_var (wn rfl) rfl Try.zeroValue70 H0 (fun b1 w1 e1 g1 H1 => ?_)
  refine s_nil ?_
  refine W_seq ?_
  refine W_seq ?_
  refine W_reg ?_
  refine s_val (wn rfl) rfl rfl (py_move rfl) (s_val (wn rfl) rfl rfl (py_move rfl) ?_)
  refine s_call (wn rfl) rfl rfl (pc_call Try.func79 rfl Try_nm79 rfl) Try_spec_l2Shape (fun v1 w2 r1 => ?_)
  obtain ⟨e2, rfl⟩ := r1
  have H2 := H1.to e2
  refine s_val (wn rfl) rfl rfl (py_not rfl) ?_
  refine s_nil ?_
  refine W_if rfl (fun c1 => ?_) (fun c1 => ?_)
  · refine W_seq ?_
    refine W_reg ?_
    refine s_val (wn rfl) rfl rfl (py_buildS Try_pl70 rfl rfl) ?_
    refine s_stoS (wn rfl) Try.sizeOf70 rfl rfl rfl rfl H2 0 rfl rfl (fun w3 e3 H3 => ?_)
    dsimp only [List.nil_append, List.cons_append, List.set_cons_zero, List.set_cons_succ, layL] at H3
    refine s_nil ?_
    refine W_ret (hQ _ _ (finC Try.results51 rfl (run_loadVarS Try.underlying70 rfl Try.sizeOf70 rfl (At.whole (H3.box 0 rfl))) ?_))
    rw [rowWeights_range (not_true c1)]
    exact ⟨H3.ext, none, 0, rfl, bytes_nil (by unfold I64ok; dsimp only; omega)⟩
  · refine W_skip ?_
    refine W_seq ?_
    refine W_seq ?_
    have bd := rOK_bd (not_false c1)
    refine W_reg ?_
    refine s_val (wn rfl) rfl rfl (py_move rfl) (s_val (wn rfl) rfl rfl (py_len Try.underlying33 rfl) (s_val (wn rfl) rfl rfl (py_move rfl) (s_val (wn rfl) rfl rfl (py_neq rfl rfl) (s_val (wn rfl) rfl rfl (py_move rfl) ?_))))
    refine s_grp 7 (j := 4) (want := false) (t := 25) rfl rfl rfl rfl (fun hg1 kk1 => s_val (wgE rfl rfl rfl hg1) rfl rfl (py_move rfl) (s_val (wgE rfl rfl rfl hg1) rfl rfl (py_move rfl) (s_val (wgE rfl rfl rfl hg1) rfl rfl (py_move rfl) (s_val (wgE rfl rfl rfl hg1) rfl rfl (py_add rfl rfl (in64 ⟨by omega, by omega⟩)) (s_val (wgE rfl rfl rfl hg1) rfl rfl (py_sub rfl rfl (in64 ⟨by omega, by omega⟩)) (s_callv (wgE rfl rfl rfl hg1) rfl rfl (pc_call Try.func103 rfl Try_nm103 rfl) (Try_spec_l2Rise (H2.sees 0 rfl) (by omega)) (fun w5 e5 => s_val (wgE rfl rfl rfl hg1) rfl rfl (py_not rfl) (kk1 _ _ (kx rfl (kx rfl (kx rfl (kx rfl (kx rfl (kx rfl (kx rfl k0))))))) rfl (Ext.refl.trans e5))))))))) (fun w4 e4 => ?_)
    have H4 := H2.to e4
    refine s_val (wn rfl) rfl rfl (py_bor rfl rfl) ?_
    refine s_nil ?_
    refine W_if rfl (fun c2 => ?_) (fun c2 => ?_)
    · refine W_seq ?_
      refine W_reg ?_
      refine s_val (wn rfl) rfl rfl (py_buildS Try_pl70 rfl rfl) ?_
      refine s_stoS (wn rfl) Try.sizeOf70 rfl rfl rfl rfl H4 0 rfl rfl (fun w6 e6 H5 => ?_)
      dsimp only [List.nil_append, List.cons_append, List.set_cons_zero, List.set_cons_succ, layL] at H5
      refine s_nil ?_
      refine W_ret (hQ _ _ (finC Try.results51 rfl (run_loadVarS Try.underlying70 rfl Try.sizeOf70 rfl (At.whole (H5.box 0 rfl))) ?_))
      rw [rowWeights_form (not_false c1) c2]
      exact ⟨H5.ext, none, 0, rfl, bytes_nil (by unfold I64ok; dsimp only; omega)⟩
    · refine W_skip ?_
      refine W_seq ?_
      refine W_seq ?_
      refine W_reg ?_
      refine s_val (wn rfl) rfl rfl (py_move rfl) (s_val (wn rfl) rfl rfl (py_move rfl) (s_val (wn rfl) rfl rfl (py_move rfl) (s_val (wn rfl) rfl rfl (py_add rfl rfl (in64 ⟨by omega, by omega⟩)) (s_val (wn rfl) rfl rfl (py_sub rfl rfl (in64 ⟨by omega, by omega⟩)) ?_))))
      refine s_call (wn rfl) rfl rfl (pc_call Try.func69 rfl Try_nm69 rfl) Try_spec_l1In (fun v2 w7 r2 => ?_)
      obtain ⟨e7, rfl⟩ := r2
      have H6 := H4.to e7
      refine s_val (wn rfl) rfl rfl (py_not rfl) ?_
      refine s_nil ?_
      refine W_if rfl (fun c3 => ?_) (fun c3 => ?_)
      · refine W_seq ?_
        refine W_reg ?_
        refine s_val (wn rfl) rfl rfl (py_buildS Try_pl70 rfl rfl) ?_
        refine s_stoS (wn rfl) Try.sizeOf70 rfl rfl rfl rfl H6 0 rfl rfl (fun w8 e8 H7 => ?_)
        dsimp only [List.nil_append, List.cons_append, List.set_cons_zero, List.set_cons_succ, layL] at H7
        refine s_nil ?_
        refine W_ret (hQ _ _ (finC Try.results51 rfl (run_loadVarS Try.underlying70 rfl Try.sizeOf70 rfl (At.whole (H7.box 0 rfl))) ?_))
        rw [rowWeights_bad (not_false c1) (rowWeights_mid c2) (not_true c3)]
        exact ⟨H7.ext, none, 0, rfl, bytes_nil (by unfold I64ok; dsimp only; omega)⟩
      · refine W_skip ?_
        refine W_seq ?_
        have hm := rowWeights_mid c2
        have hw := ins_bd (not_false c3)
        have hr := fun i hi => rises_get hm.2 i hi
        obtain ⟨n, rfl⟩ : ∃ n : Nat, x = n := ⟨x.toNat, by omega⟩
        have hr2 : ∀ i, i < n → 0 ≤ hs.getD i 0 ∧ hs.getD i 0 ≤ 500 := fun i hi => by have := hr i (by omega); omega
        refine W_reg ?_
        refine s_val (wn rfl) rfl rfl (py_move rfl) (s_val (wn rfl) rfl rfl (py_move rfl) (s_val (wn rfl) rfl rfl (py_move rfl) ?_))
        refine s_call (wn rfl) rfl rfl (pc_call Try.func104 rfl Try_nm104 rfl) (Try_spec_l2Weights (H6.sees 0 rfl) (by omega) (by first | assumption | omega) (by assumption) (by first | assumption | omega)) (fun v3 w9 r3 => ?_)
        obtain ⟨e9, r3⟩ := r3
        obtain ⟨fp1, H8⟩ := H6.res e9 r3
        obtain ⟨a1, k1, q1⟩ := own_slice (H8.mine 1 rfl)
        cases q1
        refine s_val (wn rfl) rfl rfl (py_buildS Try_pl70 rfl rfl) ?_
        refine s_stoS (wn rfl) Try.sizeOf70 rfl rfl rfl rfl H8 0 rfl rfl (fun w10 e10 H9 => ?_)
        dsimp only [List.nil_append, List.cons_append, List.set_cons_zero, List.set_cons_succ, layL] at H9
        refine s_nil ?_
        refine W_ret (hQ _ _ (finC Try.results51 rfl (run_loadVarS Try.underlying70 rfl Try.sizeOf70 rfl (At.whole (H9.box 0 rfl))) ?_))
        rw [rowWeights_full (not_false c1) hm (not_false c3), Int.toNat_natCast]
        exact ⟨H9.ext, _, _, rfl, BytesResult.out (x := ⟨0, betw n hs p 0⟩) (H9.sub (.cons _ (.cons_cons _ List.Sublist.slnil))) (by show I64ok 0; unfold I64ok; omega)⟩
theorem Try_laws_FnExactRowWeights {w : World} {x : Int} {y : Int} {hs : List Int} {hsA : Option Addr} {hsC : Nat} {p : Int} (hsS : Sees w [.slice hsA hs.length hsC] hs) : Ret Try.prog 10 #[.int .i64 x, .int .i64 y, .slice hsA hs.length hsC, .int .i64 p] w fun v w' => Ext No w w' ∧ (v = .bool true) := by
  have hsL := sees_len hsS
  unfold maxLen at hsL
  obtain ⟨hsF, hsO⟩ := hsS
  have cnt := rowWeights_len (d := x) (s := y) (hs := hs) (x := p)
  refine ret_Q (vs := [.int .i64 x, .int .i64 y, .slice hsA hs.length hsC, .int .i64 p]) Try.func10 rfl Try.ntmps10 rfl (fun Q hQ hN => ?_)
  have H0 := Sep.start (w := w) (F := [seen false [.slice hsA hs.length hsC] hs hsF]) (all_cons hsO (by simp))
  refine W_seq ?_
  refine W_reg ?_
  refine s_val (wn rfl) rfl rfl (py_assign rfl) ?_
  refine s_nil ?_
  refine W_seq ?_
  refine W_seq ?_
  refine W_reg ?_
  refine s_val (wn rfl) rfl rfl (py_move rfl) (s_val (wn rfl) rfl rfl (py_len Try.underlying33 rfl) (s_val (wn rfl) rfl rfl (py_gtr rfl rfl) ?_))
  refine s_nil ?_
  refine W_ifd rfl (fun c1 => ?_) (fun c1 => ?_)
  · refine W_seq ?_
    refine W_reg ?_
    refine s_val (wn rfl) rfl rfl (py_assign rfl) ?_
    refine s_nil ?_
    refine W_ret (hQ _ _ (fin1 Try.results10 rfl ?_))
    exact ⟨H0.ext, rfl⟩
  · refine W_skip ?_
    refine W_seq ?_
    refine W_reg ?_
    refine s_val (wn rfl) rfl rfl (py_move rfl) (s_val (wn rfl) rfl rfl (py_move rfl) (s_val (wn rfl) rfl rfl (py_move rfl) ?_))
    refine s_call (wn rfl) rfl rfl (pc_call Try.func52 rfl Try_nm52 rfl) (Try_laws_toInt64S (H0.sees 0 rfl) (by omega)) (fun v1 w1 r1 => ?_)
    obtain ⟨e1, r1⟩ := r1
    obtain ⟨fp1, H1⟩ := H0.res e1 r1
    obtain ⟨a1, k1, q1⟩ := own_slice (H1.mine 0 rfl)
    cases q1
    refine s_val (wn rfl) rfl rfl (py_move rfl) ?_
    refine s_call (wn rfl) rfl rfl (pc_call Try.func51 rfl Try_nm51 rfl) (Try_spec_RowWeights (H1.msees 0 rfl)) (fun v2 w2 r2 => ?_)
    obtain ⟨e2, sa1, sk1, rfl, r2⟩ := r2
    obtain ⟨fp2, H2⟩ := H1.res e2 r2
    have H3 := H2.share 1 rfl
    obtain ⟨sf1, sq1, sok1, so1⟩ := own_BytesResultC (H3.seen 1 rfl)
    have H5 := H3.look1 1 rfl so1 (fun b hb => by rw [sq1]; simp [hb])
    refine s_var (wn rfl) rfl Try.zeroValue70 H5 (fun b1 w3 e3 g1 H6 => ?_)
    refine s_stoS (wn rfl) Try.sizeOf70 rfl rfl rfl rfl H6 2 rfl rfl (fun w4 e4 H7 => ?_)
    dsimp only [List.nil_append, List.cons_append, List.set_cons_zero, List.set_cons_succ, layL] at H7
    refine s_nil ?_
    refine W_seq ?_
    refine W_reg ?_
    refine s_val (wn rfl) rfl rfl (py_move rfl) ?_
    refine s_call (wn rfl) rfl rfl (pc_call Try.func52 rfl Try_nm52 rfl) (Try_laws_toInt64S (H7.sees 0 rfl) (by omega)) (fun v3 w5 r3 => ?_)
    obtain ⟨e5, r3⟩ := r3
    obtain ⟨fp3, H8⟩ := H7.res e5 r3
    obtain ⟨a2, k2, q2⟩ := own_slice (H8.mine 3 rfl)
    cases q2
    refine s_val (wn rfl) rfl rfl (py_assign rfl) ?_
    refine s_nil ?_
    refine W_seq ?_
    refine W_reg ?_
    refine s_val (wn rfl) rfl rfl (py_move rfl) (s_val (wn rfl) rfl rfl (py_move rfl) (s_val (wn rfl) rfl rfl (py_move rfl) (s_val (wn rfl) rfl rfl (py_move rfl) ?_)))
    refine s_call (wn rfl) rfl rfl (pc_call Try.func53 rfl Try_nm53 rfl) (Try_impl_RowWeights (H8.msees 3 rfl)) (fun v4 w6 r4 => ?_)
    obtain ⟨e6, sa2, sk2, rfl, r4⟩ := r4
    obtain ⟨fp4, H9⟩ := H8.res e6 r4
    obtain ⟨sf2, sq2, sok2, so2⟩ := own_BytesResultC (H9.mine 4 rfl)
    have H10 := H9.part 4 rfl [mine [.slice _ (rowWeights x y hs p).Bytes.length _] (rowWeights x y hs p).Bytes sf2] (all_cons so2 (by simp)) (by simp [blocks, mine, sq2])
    try dsimp only [List.nil_append, List.cons_append, List.set_cons_zero, List.set_cons_succ] at H10
    refine s_var (wn rfl) rfl Try.zeroValue70 H10 (fun b2 w7 e7 g2 H11 => ?_)
    refine s_stoS (wn rfl) Try.sizeOf70 rfl rfl rfl rfl H11 6 rfl rfl (fun w8 e8 H12 => ?_)
    dsimp only [List.nil_append, List.cons_append, List.set_cons_zero, List.set_cons_succ, layL] at H12
    refine s_nil ?_
    refine W_seq ?_
    refine W_seq ?_
    refine W_reg ?_
    refine s_val (wn rfl) rfl rfl (py_loadS Try.underlying70 rfl Try.sizeOf70 rfl rfl (At.whole (H12.box 6 rfl))) (s_val (wn rfl) rfl rfl (py_loadS Try.underlying70 rfl Try.sizeOf70 rfl rfl (At.whole (H12.box 2 rfl))) ?_)
    refine s_call (wn rfl) rfl rfl (pc_call Try.func54 rfl Try_nm54 rfl) (Try_laws_eqBytesResult (by assumption) (H12.msees 5 rfl) (by assumption) (H12.sees 2 rfl)) (fun v5 w9 r5 => ?_)
    obtain ⟨e9, rfl⟩ := r5
    have H13 := H12.to e9
    refine s_val (wn rfl) rfl rfl (py_not rfl) ?_
    refine s_nil ?_
    refine W_if rfl (fun c2 => ?_) (fun c2 => ?_)
    · exact absurd c2 (by simp)
    · refine W_skip ?_
      refine W_seq ?_
      refine W_seq ?_
      refine W_reg ?_
      refine s_val (wn rfl) rfl rfl (py_move rfl) (s_val (wn rfl) rfl rfl (py_move rfl) ?_)
      refine s_call (wn rfl) rfl rfl (pc_call Try.func52 rfl Try_nm52 rfl) (Try_laws_toInt64S (H13.sees 0 rfl) (by omega)) (fun v6 w10 r6 => ?_)
      obtain ⟨e10, r6⟩ := r6
      obtain ⟨fp5, H14⟩ := H13.res e10 r6
      obtain ⟨a3, k3, q3⟩ := own_slice (H14.mine 7 rfl)
      cases q3
      refine s_call (wn rfl) rfl rfl (pc_call Try.func55 rfl Try_nm55 rfl) (Try_laws_eqInt64S (H14.msees 3 rfl) (H14.msees 7 rfl)) (fun v7 w11 r7 => ?_)
      obtain ⟨e11, rfl⟩ := r7
      have H15 := H14.to e11
      refine s_val (wn rfl) rfl rfl (py_not rfl) ?_
      refine s_nil ?_
      refine W_if rfl (fun c3 => ?_) (fun c3 => ?_)
      · exact absurd c3 (by simp)
      · refine W_skip ?_
        refine W_seq ?_
        refine W_reg ?_
        refine s_val (wn rfl) rfl rfl (py_assign rfl) ?_
        refine s_nil ?_
        refine W_seq ?_
        refine W_reg ?_
        refine s_val (wn rfl) rfl rfl (py_move rfl) (s_val (wn rfl) rfl rfl (py_move rfl) ?_)
        refine s_call (wn rfl) rfl rfl (pc_call Try.func56 rfl Try_nm56 rfl) (Try_laws_markInt64S (H15.mine 3 rfl) (H15.nodup1 (i := 3) rfl) (by constructor <;> omega)) (fun v8 w12 r8 => ?_)
        obtain ⟨rfl, mx1, mm1, ml1, mk1⟩ := r8
        obtain ⟨fp6, H16⟩ := H15.mut 3 rfl mm1
        try dsimp only [List.nil_append, List.cons_append, List.set_cons_zero, List.set_cons_succ] at H16
        refine s_val (wn rfl) rfl rfl (py_assign rfl) ?_
        refine s_nil ?_
        refine W_seq ?_
        refine W_seq ?_
        refine W_reg ?_
        refine s_val (wn rfl) rfl rfl (py_move rfl) (s_val (wn rfl) rfl rfl (py_lss rfl rfl) (s_val (wn rfl) rfl rfl (py_move rfl) ?_))
        refine s_grp 4 (j := 2) (want := false) (t := 50) rfl rfl rfl rfl (fun hg1 kk1 => s_val (wgE rfl rfl rfl hg1) rfl rfl (py_loadS Try.underlying70 rfl Try.sizeOf70 rfl rfl (At.whole (H16.box 6 rfl))) (s_val (wgE rfl rfl rfl hg1) rfl rfl (py_loadS Try.underlying70 rfl Try.sizeOf70 rfl rfl (At.whole (H16.box 2 rfl))) (s_callv (wgE rfl rfl rfl hg1) rfl rfl (pc_call Try.func54 rfl Try_nm54 rfl) (Try_laws_eqBytesResult (by assumption) (H16.msees 5 rfl) (by assumption) (H16.sees 2 rfl)) (fun w14 e14 => s_val (wgE rfl rfl rfl hg1) rfl rfl (py_not rfl) (kk1 _ _ (kx rfl (kx rfl (kx rfl (kx rfl k0)))) rfl (Ext.refl.trans e14)))))) (fun w13 e13 => ?_)
        have H17 := H16.to e13
        refine s_val (wn rfl) rfl rfl (py_bor rfl rfl) ?_
        refine s_nil ?_
        refine W_if rfl (fun c4 => ?_) (fun c4 => ?_)
        · exact absurd c4 (by simp; omega)
        · refine W_skip ?_
          refine W_seq ?_
          refine W_reg ?_
          refine s_val (wn rfl) rfl rfl (py_assign rfl) ?_
          refine s_nil ?_
          refine W_seq ?_
          refine W_reg ?_
          refine s_val (wn rfl) rfl rfl (py_loadS Try.underlying70 rfl Try.sizeOf70 rfl rfl (At.whole (H17.box 6 rfl))) (s_val (wn rfl) rfl rfl (py_move rfl) ?_)
          refine s_call (wn rfl) rfl rfl (pc_call Try.func57 rfl Try_nm57 rfl) (Try_laws_markBytesResult (H17.mine 5 rfl) (H17.nodup1 (i := 5) rfl) (by constructor <;> omega)) (fun v9 w15 r9 => ?_)
          obtain ⟨rfl, mx2, mm2, ml2, mk2⟩ := r9
          obtain ⟨fp7, H18⟩ := H17.mut 5 rfl mm2
          try dsimp only [List.nil_append, List.cons_append, List.set_cons_zero, List.set_cons_succ] at H18
          refine s_val (wn rfl) rfl rfl (py_assign rfl) ?_
          refine s_nil ?_
          refine W_seq ?_
          refine W_reg ?_
          refine s_val (wn rfl) rfl rfl (py_assign rfl) ?_
          refine s_nil ?_
          refine W_seq ?_
          refine W_reg ?_
          refine s_val (wn rfl) rfl rfl (py_loadS Try.underlying70 rfl Try.sizeOf70 rfl rfl (At.whole (H18.box 6 rfl))) (s_val (wn rfl) rfl rfl (py_move rfl) ?_)
          refine s_call (wn rfl) rfl rfl (pc_call Try.func58 rfl Try_nm58 rfl) (Try_laws_heldBytesResult (H18.msees 5 rfl) (by constructor <;> omega) (by assumption)) (fun v10 w16 r10 => ?_)
          obtain ⟨e16, rfl⟩ := r10
          have H19 := H18.to e16
          refine s_val (wn rfl) rfl rfl (py_assign rfl) ?_
          refine s_nil ?_
          refine W_seq ?_
          refine W_seq ?_
          refine W_reg ?_
          refine s_val (wn rfl) rfl rfl (py_move rfl) (s_val (wn rfl) rfl rfl (py_lss rfl rfl) ?_)
          refine s_nil ?_
          refine W_ifd rfl (fun c5 => ?_) (fun c5 => ?_)
          · exact absurd c5 (by omega)
          · refine W_skip ?_
            refine W_seq ?_
            refine W_seq ?_
            refine W_reg ?_
            refine s_val (wn rfl) rfl rfl (py_move rfl) (s_val (wn rfl) rfl rfl (py_move rfl) (s_val (wn rfl) rfl rfl (py_neq rfl rfl) ?_))
            refine s_nil ?_
            refine W_ifd rfl (fun c6 => ?_) (fun c6 => ?_)
            · exact absurd c6 (by omega)
            · refine W_skip ?_
              refine W_seq ?_
              refine W_reg ?_
              refine s_val (wn rfl) rfl rfl (py_move rfl) (s_val (wn rfl) rfl rfl (py_move rfl) (s_val (wn rfl) rfl rfl (py_move rfl) ?_))
              refine s_call (wn rfl) rfl rfl (pc_call Try.func52 rfl Try_nm52 rfl) (Try_laws_toInt64S (H19.sees 0 rfl) (by omega)) (fun v11 w17 r11 => ?_)
              obtain ⟨e17, r11⟩ := r11
              obtain ⟨fp8, H20⟩ := H19.res e17 r11
              obtain ⟨a4, k4, q4⟩ := own_slice (H20.mine 8 rfl)
              cases q4
              refine s_val (wn rfl) rfl rfl (py_move rfl) ?_
              refine s_call (wn rfl) rfl rfl (pc_call Try.func53 rfl Try_nm53 rfl) (Try_impl_RowWeights (H20.msees 8 rfl)) (fun v12 w18 r12 => ?_)
              obtain ⟨e18, sa3, sk3, rfl, r12⟩ := r12
              obtain ⟨fp9, H21⟩ := H20.res e18 r12
              have H22 := H21.share 9 rfl
              obtain ⟨sf3, sq3, sok3, so3⟩ := own_BytesResultC (H22.seen 3 rfl)
              have H24 := H22.look1 3 rfl so3 (fun b hb => by rw [sq3]; simp [hb])
              refine s_var (wn rfl) rfl Try.zeroValue70 H24 (fun b3 w19 e19 g3 H25 => ?_)
              refine s_stoS (wn rfl) Try.sizeOf70 rfl rfl rfl rfl H25 10 rfl rfl (fun w20 e20 H26 => ?_)
              dsimp only [List.nil_append, List.cons_append, List.set_cons_zero, List.set_cons_succ, layL] at H26
              refine s_nil ?_
              refine W_seq ?_
              refine W_seq ?_
              refine W_reg ?_
              refine s_val (wn rfl) rfl rfl (py_loadS Try.underlying70 rfl Try.sizeOf70 rfl rfl (At.whole (H26.box 10 rfl))) (s_val (wn rfl) rfl rfl (py_loadS Try.underlying70 rfl Try.sizeOf70 rfl rfl (At.whole (H26.box 2 rfl))) ?_)
              refine s_call (wn rfl) rfl rfl (pc_call Try.func54 rfl Try_nm54 rfl) (Try_laws_eqBytesResult (by assumption) (H26.sees 4 rfl) (by assumption) (H26.sees 2 rfl)) (fun v13 w21 r13 => ?_)
              obtain ⟨e21, rfl⟩ := r13
              have H27 := H26.to e21
              refine s_val (wn rfl) rfl rfl (py_not rfl) ?_
              refine s_nil ?_
              refine W_if rfl (fun c7 => ?_) (fun c7 => ?_)
              · exact absurd c7 (by simp)
              · refine W_skip ?_
                refine W_seq ?_
                refine W_reg ?_
                refine s_val (wn rfl) rfl rfl (py_assign rfl) ?_
                refine s_nil ?_
                refine W_seq ?_
                refine W_reg ?_
                refine s_val (wn rfl) rfl rfl (py_loadS Try.underlying70 rfl Try.sizeOf70 rfl rfl (At.whole (H27.box 6 rfl))) (s_val (wn rfl) rfl rfl (py_move rfl) ?_)
                refine s_call (wn rfl) rfl rfl (pc_call Try.func58 rfl Try_nm58 rfl) (Try_laws_heldBytesResult (H27.msees 5 rfl) (by constructor <;> omega) (by assumption)) (fun v14 w22 r14 => ?_)
                obtain ⟨e22, rfl⟩ := r14
                have H28 := H27.to e22
                refine s_val (wn rfl) rfl rfl (py_assign rfl) ?_
                refine s_nil ?_
                refine W_seq ?_
                refine W_seq ?_
                refine W_reg ?_
                refine s_val (wn rfl) rfl rfl (py_move rfl) (s_val (wn rfl) rfl rfl (py_lss rfl rfl) ?_)
                refine s_nil ?_
                refine W_ifd rfl (fun c8 => ?_) (fun c8 => ?_)
                · exact absurd c8 (by omega)
                · refine W_skip ?_
                  refine W_seq ?_
                  refine W_seq ?_
                  refine W_reg ?_
                  refine s_val (wn rfl) rfl rfl (py_move rfl) (s_val (wn rfl) rfl rfl (py_move rfl) (s_val (wn rfl) rfl rfl (py_neq rfl rfl) ?_))
                  refine s_nil ?_
                  refine W_ifd rfl (fun c9 => ?_) (fun c9 => ?_)
                  · exact absurd c9 (by omega)
                  · refine W_skip ?_
                    refine W_seq ?_
                    refine W_reg ?_
                    refine s_val (wn rfl) rfl rfl (py_assign rfl) ?_
                    refine s_nil ?_
                    refine W_ret (hQ _ _ (fin1 Try.results10 rfl ?_))
                    exact ⟨H28.ext, rfl⟩
end Go.Wk
