/-
  The functions walked, each once. (Printed by a program of mine.)
-/
import Derived.Test.YtlcpnnnangneeaaMix
import Derived.Test.YtlcpnnnangneeaaChunk
import Derived.Test.YtlcpnnnangneeaaMark
import Derived.Test.YtlcpnnnangneeaaWkS
namespace Go.Wk
open Go.Proofs Rp
set_option maxRecDepth 10000
theorem Try_impl_rowCode_encode {w : World} {x y : Int} {n s : Nat} {xs : List UInt8} {xsA : Option Addr} {xsC : Nat} (hx : x = n) (hy : y = s) (hn : 1 ≤ n ∧ n ≤ 3 ∧ s ≤ 2) (hl : xs.length = n * 4) (xsS : Sees w [.slice xsA xs.length xsC] xs) : Ret Try.prog 83 #[.agg #[.int .i64 x, .int .i64 y], .slice xsA xs.length xsC] w fun v w' => Ext No w w' ∧ (Res w w' [v] (encG n (n + s) xs)) := by
  subst hx; subst hy
  have xsL := sees_len xsS
  unfold maxLen at xsL
  obtain ⟨xsF, xsO⟩ := xsS
  refine ret_Q (vs := [.agg #[.int .i64 n, .int .i64 s], .slice xsA xs.length xsC]) Try.func83 rfl Try.ntmps83 rfl (fun Q hQ hN => ?_)
  have H0 := Sep.start (w := w) (F := [seen false [.slice xsA xs.length xsC] xs xsF]) (all_cons xsO (by simp))
  refine W_seq ?_
  refine W_reg ?_
  refine s_box (wn rfl) rfl rfl H0 (fun b1 w1 e1 g1 H1 => ?_)
  refine s_val (wn rfl) rfl rfl (py_assign rfl) ?_
  refine s_nil ?_
  refine W_seq ?_
  refine W_reg ?_
  refine s_val (wn rfl) rfl rfl (py_move rfl) ?_
  refine s_call (wn rfl) rfl rfl (pc_call Try.func136 rfl Try_nm136 rfl) (Try_chunk (m := 4) (by omega)) (fun chv w1 r1 => ?_)
  obtain ⟨ce1, cb1, cb2, rfl, p1, p2⟩ := r1
  have HC1 := H1.to ce1
  have xc := own_le_cap (HC1.seen 0 rfl)
  refine s_call (wn rfl) rfl rfl (pc_call Try.func135 rfl Try_nm135 rfl) (Try_collect (m := 4) (q := n) (by omega) ⟨by omega, by omega, by omega⟩ p1 p2) (fun cv w2 r2 => ?_)
  obtain ⟨e2, cf, co, cn, cfr⟩ := r2
  have HC2 := HC1.to e2
  obtain ⟨cg, og, sg⟩ := own_chunks (HC2.seen 0 rfl) (m := 4) (q := n) (by omega) hl (by omega)
  obtain ⟨ch, oh, sh⟩ := own_views co og (by rw [chunkV_len, chunks_len])
  obtain ⟨dA, dC, dq⟩ := own_slice oh
  cases dq
  have HC3 := HC2.look (r := seen false [.slice dA (chunks xs 4 n).length dC] (chunks xs 4 n) ch) oh (fun b hb hb2 => by
    rcases sh b hb with h | h
    · have := cfr b h; have := HC1.lt b hb2; omega
    · exact HC2.ap _ (List.mem_of_getElem? (i := 0) rfl) b (sg b h) hb2)
  have cl : (chunks xs 4 n).length = n := chunks_len
  have ca := chunks_all hl
  refine s_val (wn rfl) rfl rfl (py_assign rfl) ?_
  refine s_nil ?_
  refine W_seq ?_
  refine W_reg ?_
  refine s_lit0 (α := (List UInt8)) (wn rfl) rfl Try.underlying43 Try_ty34 HC3 (fun b2 w2 e2 g2 H2 => ?_)
  refine s_val (wn rfl) rfl rfl (py_assign rfl) ?_
  refine s_nil ?_
  refine W_seq ?_
  refine W_seq ?_
  refine W_reg ?_
  refine s_val (wn rfl) rfl rfl (py_loadS Try.underlying105 rfl Try.sizeOf105 rfl rfl (At.whole (H2.box 0 rfl))) ?_
  refine s_call (wn rfl) rfl rfl (pc_call Try.func107 rfl Try_nm107 rfl) (Try_impl_rowCode_blocks (by omega)) (fun v1 w3 r1 => ?_)
  obtain ⟨e3, rfl⟩ := r1
  have H3 := H2.to e3
  refine s_val (wn rfl) rfl rfl (py_move rfl) ?_
  refine s_nil ?_
  refine W_block ?_
  refine W_loop (γ := Nat × Value × List Nat) (fun (k, vo, f) => [(2, .pointer (some ⟨b1, 0, none⟩)), (5, .slice dA (chunks xs 4 n).length dC), (6, vo), (13, .int .i64 ((n : Int) + s)), (14, .int .i64 k)]) (fun (k, vo, f) w' => Sep No w [box b1 (.cells #[.int .i64 n, .int .i64 s] 105), mine [vo] (encG n k xs) f] [seen false [.slice xsA xs.length xsC] xs xsF, seen false [.slice dA (chunks xs 4 n).length dC] (chunks xs 4 n) ch] w' ∧ k ≤ n + s) (fun (k, vo, f) => n + s - k) (0, _, _) ⟨rfl, rfl, rfl, rfl, rfl, trivial⟩ ⟨H3, by omega⟩ (fun (k, vo, f) w4 H4 => ?_)
  obtain ⟨H4, hk⟩ := H4
  refine W_seq ?_
  refine W_reg ?_
  refine s_val (wn rfl) rfl rfl (py_lss rfl rfl) ?_
  refine s_nil ?_
  refine W_seq ?_
  refine W_ifd rfl (fun c1 => ?_) (fun c1 => ?_)
  · refine W_skip ?_
    refine W_seq ?_
    refine W_block ?_
    refine W_seq ?_
    refine W_reg ?_
    refine s_val (wn rfl) rfl rfl (py_move rfl) (s_val (wn rfl) rfl rfl (py_assign rfl) ?_)
    refine s_nil ?_
    have gl : (genG n k 0).length = n := genG_len
    have encE : mixTo (chunks xs 4 n) (genG n k 0) 4 (chunks xs 4 n).length = encK xs n k := rfl
    have el := encG_len (n := n) (m := k) (xs := xs)
    refine W_reg ?_
    refine s_val (wn rfl) rfl rfl (py_move rfl) (s_val (wn rfl) rfl rfl (py_move rfl) (s_val (wn rfl) rfl rfl (py_loadS Try.underlying105 rfl Try.sizeOf105 rfl rfl (At.whole (H4.box 0 rfl))) (s_val (wn rfl) rfl rfl (py_move rfl) ?_)))
    refine s_call (wn rfl) rfl rfl (pc_call Try.func138 rfl Try_nm138 rfl) (Try_impl_rowCode_weights (by omega)) (fun v2 w5 r2 => ?_)
    obtain ⟨e4, r2⟩ := r2
    obtain ⟨fp1, H5⟩ := H4.res e4 r2
    obtain ⟨a1, k1, q1⟩ := own_slice (H5.mine 2 rfl)
    cases q1
    refine s_call (wn rfl) rfl rfl (pc_call Try.func137 rfl Try_nm137 rfl) (Try_impl_mixed (H5.sees 1 rfl) (H5.msees 2 rfl) (by omega) (by omega) (by assumption) (by omega)) (fun v3 w6 r3 => ?_)
    obtain ⟨e5, r3⟩ := r3
    obtain ⟨fp2, H6⟩ := H5.res e5 r3
    obtain ⟨a2, k2, q2⟩ := own_slice (H6.mine 3 rfl)
    cases q2
    refine s_lit1 (wn rfl) rfl Try.underlying43 Try_ty34 rfl rfl rfl rfl H6 (fun b3 w7 e6 g3 H7 => ?_)
    refine s_app2 (wn rfl) rfl Try.underlying43 Try_ty34 rfl rfl rfl H7 1 4 3 rfl rfl rfl rfl (by unfold maxLen; omega) (by omega) (fun v4 w8 fp3 H8 => ?_)
    refine s_val (wn rfl) rfl rfl (py_assign rfl) ?_
    refine s_nil ?_
    refine W_reg ?_
    refine s_val (wn rfl) rfl rfl (py_add rfl rfl (in64 ⟨by omega, by omega⟩)) (s_val (wn rfl) rfl rfl (py_move rfl) ?_)
    refine s_nil ?_
    have hz := H8.ftake 2 |>.sub (.cons_cons _ (.cons_cons _ (.cons _ (.cons _ (.cons _ List.Sublist.slnil)))))
    rw [encE, encG_step] at hz
    refine ⟨(k + 1, _, _), ⟨rfl, rfl, rfl, rfl, rfl, trivial⟩, ⟨hz, by omega⟩, by dsimp only; omega⟩
  · refine W_exit ?_
    refine W_seq ?_
    refine W_reg ?_
    refine s_val (wn rfl) rfl rfl (py_move rfl) (s_val (wn rfl) rfl rfl (py_assign rfl) ?_)
    refine s_nil ?_
    refine W_ret (hQ _ _ (fin1 Try.results83 rfl ?_))
    obtain rfl : k = n + s := by omega
    exact ⟨H4.ext, H4.out 1 rfl⟩
theorem Try_spec_l2Encode {w : World} {x y : Int} {n s : Nat} {xs : List UInt8} {xsA : Option Addr} {xsC : Nat} (hx : x = n) (hy : y = s) (hn : 1 ≤ n ∧ n ≤ 3 ∧ s ≤ 2) (hl : xs.length = n * 4) (xsS : Sees w [.slice xsA xs.length xsC] xs) : Ret Try.prog 80 #[.int .i64 x, .int .i64 y, .slice xsA xs.length xsC] w fun v w' => Ext No w w' ∧ (ResS w w' [v] (encG n (n + s) xs)) := by
  subst hx; subst hy
  have xsL := sees_len xsS
  unfold maxLen at xsL
  obtain ⟨xsF, xsO⟩ := xsS
  refine ret_Q (vs := [.int .i64 n, .int .i64 s, .slice xsA xs.length xsC]) Try.func80 rfl Try.ntmps80 rfl (fun Q hQ hN => ?_)
  have H0 := Sep.start (w := w) (F := [seen false [.slice xsA xs.length xsC] xs xsF]) (all_cons xsO (by simp))
  refine W_seq ?_
  refine W_reg ?_
  refine s_val (wn rfl) rfl rfl (py_assign rfl) ?_
  refine s_nil ?_
  refine W_seq ?_
  refine W_reg ?_
  refine s_lit0 (α := (List UInt8)) (wn rfl) rfl Try.underlying43 Try_ty34 H0 (fun b1 w1 e1 g1 H1 => ?_)
  refine s_val (wn rfl) rfl rfl (py_assign rfl) ?_
  refine s_nil ?_
  refine W_seq ?_
  refine W_seq ?_
  refine W_reg ?_
  refine s_val (wn rfl) rfl rfl (py_assign rfl) ?_
  refine s_nil ?_
  refine W_block ?_
  refine W_loop (γ := Nat × Value × List Nat) (fun (k, vo, f) => [(0, .int .i64 n), (1, .int .i64 s), (2, .slice xsA xs.length xsC), (7, vo), (8, .int .i64 k)]) (fun (k, vo, f) w' => Sep No w [mine [vo] (chunks xs 4 k) f] [seen false [.slice xsA xs.length xsC] xs xsF] w' ∧ k ≤ n) (fun (k, vo, f) => n - k) (0, _, _) ⟨rfl, rfl, rfl, rfl, rfl, trivial⟩ ⟨H1, by omega⟩ (fun (k, vo, f) w2 H2 => ?_)
  obtain ⟨H2, hk⟩ := H2
  refine W_seq ?_
  refine W_seq ?_
  refine W_reg ?_
  refine s_val (wn rfl) rfl rfl (py_move rfl) (s_val (wn rfl) rfl rfl (py_move rfl) (s_val (wn rfl) rfl rfl (py_lss rfl rfl) ?_))
  refine s_nil ?_
  refine W_ifd rfl (fun c1 => ?_) (fun c1 => ?_)
  · refine W_skip ?_
    refine W_seq ?_
    refine W_block ?_
    have kl := chunks_len (xs := xs) (m := 4) (q := k)
    refine W_reg ?_
    refine s_val (wn rfl) rfl rfl (py_move rfl) ?_
    refine s_lit0 (α := UInt8) (wn rfl) rfl Try.underlying34 Try_ty5 H2 (fun b2 w3 e2 g2 H3 => ?_)
    refine s_val (wn rfl) rfl rfl (py_move rfl) (s_val (wn rfl) rfl rfl (py_move rfl) (s_val (wn rfl) rfl rfl (py_mul rfl rfl (in64 ⟨by omega, by omega⟩)) (s_val (wn rfl) rfl rfl (py_move rfl) (s_val (wn rfl) rfl rfl (py_add rfl rfl (in64 ⟨by omega, by omega⟩)) (s_val (wn rfl) rfl rfl (py_mul rfl rfl (in64 ⟨by omega, by omega⟩)) ?_)))))
    have sc1 := own_le_cap (H3.seen 0 rfl)
    obtain ⟨sf1, so1, ss1⟩ := own_cutL (H3.seen 0 rfl) (k * 4) (k * 4 + 4) _ (by omega) (by omega) (by omega) (Nat.le_refl _)
    have H4 := H3.look1 0 rfl so1 ss1
    have sl1 := cut_len (xs := xs) (l := k * 4) (h := k * 4 + 4) (by omega)
    refine s_val (wn rfl) rfl rfl (py_slcN Try.underlying34 Try.sizeOf5 rfl rfl rfl (k * 4) (k * 4 + 4) (by omega) (by omega) (by omega) (by omega) sl1) (?_)
    refine s_appF (wn rfl) rfl Try.underlying34 Try_ty5 rfl rfl rfl H4 1 rfl (H4.seen 1 rfl) (by (try simp only [List.length_nil]); unfold maxLen; omega) (by (try simp only [List.length_nil]); omega) (fun v1 w4 fp1 H5 => ?_)
    obtain ⟨a1, k1, q1⟩ := own_slice (H5.mine 1 rfl)
    cases q1
    refine s_lit1 (wn rfl) rfl Try.underlying43 Try_ty34 rfl rfl rfl rfl H5 (fun b3 w5 e3 g3 H6 => ?_)
    refine s_app2 (wn rfl) rfl Try.underlying43 Try_ty34 rfl rfl rfl H6 0 2 1 rfl rfl rfl rfl (by unfold maxLen; omega) (by omega) (fun v2 w6 fp2 H7 => ?_)
    refine s_val (wn rfl) rfl rfl (py_assign rfl) ?_
    refine s_nil ?_
    refine W_reg ?_
    refine s_val (wn rfl) rfl rfl (py_move rfl) (s_val (wn rfl) rfl rfl (py_add rfl rfl (in64 ⟨by omega, by omega⟩)) (s_val (wn rfl) rfl rfl (py_assign rfl) ?_))
    refine s_nil ?_
    have hz := H7.ftake 1 |>.sub (.cons_cons _ (.cons _ (.cons _ List.Sublist.slnil)))
    rw [List.nil_append, chunks_step] at hz
    refine ⟨(k + 1, _, _), ⟨rfl, rfl, rfl, rfl, rfl, trivial⟩, ⟨hz, by omega⟩, by dsimp only; omega⟩
  · refine W_exit ?_
    refine W_seq ?_
    obtain rfl : n = k := by omega
    refine W_reg ?_
    refine s_lit0 (α := View) (wn rfl) rfl Try.underlying43 Try_ty34 H2 (fun b4 w7 e4 g4 H8 => ?_)
    refine s_val (wn rfl) rfl rfl (py_move rfl) ?_
    obtain ⟨pA, pC, pq⟩ := own_slice (H8.mine 0 rfl)
    cases pq
    have HP := H8.share 0 rfl
    try dsimp only [List.nil_append, List.cons_append, List.set_cons_zero, List.set_cons_succ] at HP
    have pfr := H8.freshD 0 rfl
    have cl : (chunks xs 4 n).length = n := chunks_len
    refine s_appV (wn rfl) rfl Try.underlying43 Try_ty34 rfl rfl rfl HP 1 1 rfl rfl (by rw [cl]; omega) (by rw [cl]; unfold maxLen; simp; omega) (by rw [cl]; simp; omega) (fun vo w9 ofp us ug ul us2 HQ => ?_)
    try dsimp only [List.nil_append, List.cons_append, List.set_cons_zero, List.set_cons_succ] at HQ
    have ugf : ∀ b ∈ ug, w.heap.size ≤ b := fun b hb => pfr b (us2 b hb)
    have HR := HQ.sub (.cons _ (.cons_cons _ List.Sublist.slnil))
    have HZ := HR
    refine s_val (wn rfl) rfl rfl (py_assign rfl) ?_
    refine s_nil ?_
    refine W_seq ?_
    refine W_seq ?_
    refine W_reg ?_
    refine s_val (wn rfl) rfl rfl (py_assign rfl) ?_
    refine s_nil ?_
    refine W_block ?_
    refine W_loop (γ := Nat × Value × List Nat × List View × List Nat) (fun (j, vo, f2, us, ug) => [(0, .int .i64 n), (1, .int .i64 s), (7, .slice pA (chunks xs 4 n).length pC), (9, vo), (10, .int .i64 j)]) (fun (j, vo, f2, us, ug) w' => Sep No w [mine [vo] us f2] [seen false [.slice xsA xs.length xsC] xs xsF, seen true [.slice pA (chunks xs 4 n).length pC] (chunks xs 4 n) f, rows us (encS n j xs) ug] w' ∧ j ≤ s ∧ us.length = (encS n j xs).length ∧ ∀ b ∈ ug, w.heap.size ≤ b) (fun (j, vo, f2, us, ug) => s - j) (0, _, _, _, _) ⟨rfl, rfl, rfl, rfl, rfl, trivial⟩ ⟨by rw [encS_zero]; exact HR, by omega, by rw [encS_zero]; exact ul, ugf⟩ (fun (j, vo, f2, us, ug) w8 H9 => ?_)
    obtain ⟨H9, hj, ul, ugf⟩ := H9
    refine W_seq ?_
    refine W_seq ?_
    refine W_reg ?_
    refine s_val (wn rfl) rfl rfl (py_move rfl) (s_val (wn rfl) rfl rfl (py_move rfl) (s_val (wn rfl) rfl rfl (py_lss rfl rfl) ?_))
    refine s_nil ?_
    refine W_ifd rfl (fun c2 => ?_) (fun c2 => ?_)
    · refine W_skip ?_
      refine W_seq ?_
      refine W_block ?_
      have gl : (genG n ((n : Int) + j) 0).length = n := genG_len
      have ca := chunks_all hl
      have encE : mixTo (chunks xs 4 n) (genG n ((n : Int) + j) 0) 4 (chunks xs 4 n).length = encK xs n ((n : Int) + j) := rfl
      have el := encS_len (n := n) (m := j) (xs := xs)
      refine W_reg ?_
      refine s_val (wn rfl) rfl rfl (py_move rfl) (s_val (wn rfl) rfl rfl (py_move rfl) (s_val (wn rfl) rfl rfl (py_move rfl) (s_val (wn rfl) rfl rfl (py_move rfl) (s_val (wn rfl) rfl rfl (py_move rfl) (s_val (wn rfl) rfl rfl (py_add rfl rfl (in64 ⟨by omega, by omega⟩)) ?_)))))
      refine s_call (wn rfl) rfl rfl (pc_call Try.func134 rfl Try_nm134 rfl) (Try_spec_l2Gen (by omega)) (fun v3 w9 r1 => ?_)
      obtain ⟨e5, r1⟩ := r1
      obtain ⟨fp3, H10⟩ := H9.res e5 r1
      obtain ⟨a2, k2, q2⟩ := own_slice (H10.mine 1 rfl)
      cases q2
      refine s_call (wn rfl) rfl rfl (pc_call Try.func133 rfl Try_nm133 rfl) (Try_spec_l1Mix (H10.sees 1 rfl) (H10.msees 1 rfl) (by omega) (by omega) (by assumption) (by omega)) (fun v4 w10 r2 => ?_)
      obtain ⟨e6, r2⟩ := r2
      obtain ⟨fp4, H11⟩ := H10.res e6 r2
      obtain ⟨a3, k3, q3⟩ := own_slice (H11.mine 2 rfl)
      cases q3
      refine s_lit1 (wn rfl) rfl Try.underlying43 Try_ty34 rfl rfl rfl rfl H11 (fun b5 w11 e7 g5 H12 => ?_)
      refine s_app1 (α := View) (u := ⟨_, _, _⟩) (wn rfl) rfl Try.underlying43 Try_ty34 rfl rfl rfl H12 0 3 rfl rfl ⟨rfl, rfl⟩ (by unfold maxLen; omega) (by omega) (fun vo2 w9 ofp2 HA => ?_)
      try dsimp only [List.nil_append, List.cons_append, List.set_cons_zero, List.set_cons_succ] at HA
      refine s_val (wn rfl) rfl rfl (py_assign rfl) ?_
      refine s_nil ?_
      refine W_reg ?_
      refine s_val (wn rfl) rfl rfl (py_move rfl) (s_val (wn rfl) rfl rfl (py_add rfl rfl (in64 ⟨by omega, by omega⟩)) (s_val (wn rfl) rfl rfl (py_assign rfl) ?_))
      refine s_nil ?_
      have xfr := HA.freshD 2 rfl
      have HB := HA.share 2 rfl
      try dsimp only [List.nil_append, List.cons_append, List.set_cons_zero, List.set_cons_succ] at HB
      have hro := rows_snoc (HB.fs (rows us (encS n j xs) ug) (List.mem_of_getElem? (i := 2) rfl)) ul (HB.seen 3 rfl)
      have HD := HB.fto (F' := [seen false [.slice xsA xs.length xsC] xs xsF, seen true [.slice pA (chunks xs 4 n).length pC] (chunks xs 4 n) f, rows _ _ _]) (all_cons ⟨HB.fs _ (List.mem_of_getElem? (i := 0) rfl), HB.ap _ (List.mem_of_getElem? (i := 0) rfl)⟩ (all_cons ⟨HB.fs _ (List.mem_of_getElem? (i := 1) rfl), HB.ap _ (List.mem_of_getElem? (i := 1) rfl)⟩ (all_cons ⟨hro, fun b hb => (List.mem_append.1 hb).elim (HB.ap _ (List.mem_of_getElem? (i := 2) rfl) b) (HB.ap _ (List.mem_of_getElem? (i := 3) rfl) b)⟩ (by simp))))
      have HE := HD.sub (.cons_cons _ (.cons _ (.cons _ (.cons _ List.Sublist.slnil))))
      refine ⟨(j + 1, _, _, _, _), ⟨rfl, rfl, rfl, rfl, rfl, trivial⟩, ⟨by rw [encE, encS_step] at HE; exact HE, by omega, by rw [encS_len]; simp [ul, encS_len]; omega, fun b hb => (List.mem_append.1 hb).elim (ugf b) (xfr b)⟩, by dsimp only; omega⟩
    · refine W_exit ?_
      refine W_seq ?_
      refine W_reg ?_
      refine s_val (wn rfl) rfl rfl (py_move rfl) (s_val (wn rfl) rfl rfl (py_assign rfl) ?_)
      refine s_nil ?_
      refine W_ret (hQ _ _ (fin1 Try.results80 rfl ?_))
      obtain rfl : j = s := by omega
      rw [encS_eq hl] at ul
      have hro := H9.fs (rows us (encS n j xs) ug) (List.mem_of_getElem? (i := 2) rfl)
      rw [encS_eq hl] at hro
      obtain ⟨fp, o, sf⟩ := own_views (H9.mine 0 rfl) hro ul
      exact ⟨H9.ext, fp, o, fun b hb => (sf b hb).elim (H9.freshD 0 rfl b) (ugf b)⟩
theorem Try_impl_EncodeRow {w : World} {x : Int} {y : Int} {xs : List UInt8} {xsA : Option Addr} {xsC : Nat} (xsS : Sees w [.slice xsA xs.length xsC] xs) : Ret Try.prog 27 #[.int .i64 x, .int .i64 y, .slice xsA xs.length xsC] w fun v w' => Ext No w w' ∧ (∃ A1 C1, v = (encodeRow x y xs).val A1 C1 ∧ Res w w' [.int .i64 (encodeRow x y xs).Code, .slice A1 (encodeRow x y xs).Blocks.length C1] (encodeRow x y xs)) := by
  have xsL := sees_len xsS
  unfold maxLen at xsL
  obtain ⟨xsF, xsO⟩ := xsS
  refine ret_Q (vs := [.int .i64 x, .int .i64 y, .slice xsA xs.length xsC]) Try.func27 rfl Try.ntmps27 rfl (fun Q hQ hN => ?_)
  have H0 := Sep.start (w := w) (F := [seen false [.slice xsA xs.length xsC] xs xsF]) (all_cons xsO (by simp))
  refine W_seq ?_
  refine W_reg ?_
  refine s_var (wn rfl) rfl Try.zeroValue45 H0 (fun b1 w1 e1 g1 H1 => ?_)
  refine s_nil ?_
  refine W_seq ?_
  refine W_reg ?_
  refine s_val (wn rfl) rfl rfl (py_move rfl) (s_val (wn rfl) rfl rfl (py_move rfl) (s_val (wn rfl) rfl rfl (py_buildS Try_pl105 rfl rfl) ?_))
  refine s_var (wn rfl) rfl Try.zeroValue105 H1 (fun b2 w2 e2 g2 H2 => ?_)
  refine s_stoS (wn rfl) Try.sizeOf105 rfl rfl rfl rfl H2 1 rfl rfl (fun w3 e3 H3 => ?_)
  dsimp only [List.nil_append, List.cons_append, List.set_cons_zero, List.set_cons_succ, layL] at H3
  refine s_nil ?_
  refine W_seq ?_
  refine W_block ?_
  refine W_seq ?_
  refine W_reg ?_
  refine s_val (wn rfl) rfl rfl (py_loadS Try.underlying105 rfl Try.sizeOf105 rfl rfl (At.whole (H3.box 1 rfl))) ?_
  refine s_call (wn rfl) rfl rfl (pc_call Try.func81 rfl Try_nm81 rfl) Try_impl_rowCode_ok (fun v1 w4 r1 => ?_)
  obtain ⟨e4, rfl⟩ := r1
  have H4 := H3.to e4
  refine s_val (wn rfl) rfl rfl (py_not rfl) (s_val (wn rfl) rfl rfl (py_assign rfl) ?_)
  refine s_nil ?_
  refine W_if rfl (fun c1 => ?_) (fun c1 => ?_)
  · refine W_seq ?_
    refine W_reg ?_
    refine s_val (wn rfl) rfl rfl (py_buildS Try_pl45 rfl rfl) ?_
    refine s_stoS (wn rfl) Try.sizeOf45 rfl rfl rfl rfl H4 0 rfl rfl (fun w5 e5 H5 => ?_)
    dsimp only [List.nil_append, List.cons_append, List.set_cons_zero, List.set_cons_succ, layL] at H5
    refine s_nil ?_
    refine W_ret (hQ _ _ (finC Try.results27 rfl (run_loadVarS Try.underlying45 rfl Try.sizeOf45 rfl (At.whole (H5.box 0 rfl))) ?_))
    rw [encodeRow_range (not_true c1)]
    exact ⟨H5.ext, none, 0, rfl, blocks_nil (by unfold I64ok; dsimp only; omega)⟩
  · refine W_seq ?_
    have bd0 := rOK_bd (not_false c1)
    refine W_reg ?_
    refine s_val (wn rfl) rfl rfl (py_move rfl) (s_val (wn rfl) rfl rfl (py_len Try.underlying34 rfl) (s_val (wn rfl) rfl rfl (py_loadS Try.underlying105 rfl Try.sizeOf105 rfl rfl (At.whole (H4.box 1 rfl))) ?_))
    refine s_call (wn rfl) rfl rfl (pc_call Try.func82 rfl Try_nm82 rfl) (Try_impl_rowCode_length (by omega)) (fun v2 w6 r2 => ?_)
    obtain ⟨e6, rfl⟩ := r2
    have H6 := H4.to e6
    refine s_val (wn rfl) rfl rfl (py_neq rfl rfl) (s_val (wn rfl) rfl rfl (py_assign rfl) ?_)
    refine s_nil ?_
    refine W_ifd rfl (fun c2 => ?_) (fun c2 => ?_)
    · refine W_seq ?_
      refine W_reg ?_
      refine s_val (wn rfl) rfl rfl (py_buildS Try_pl45 rfl rfl) ?_
      refine s_stoS (wn rfl) Try.sizeOf45 rfl rfl rfl rfl H6 0 rfl rfl (fun w7 e7 H7 => ?_)
      dsimp only [List.nil_append, List.cons_append, List.set_cons_zero, List.set_cons_succ, layL] at H7
      refine s_nil ?_
      refine W_ret (hQ _ _ (finC Try.results27 rfl (run_loadVarS Try.underlying45 rfl Try.sizeOf45 rfl (At.whole (H7.box 0 rfl))) ?_))
      rw [encodeRow_form (not_false c1) (by omega)]
      exact ⟨H7.ext, none, 0, rfl, blocks_nil (by unfold I64ok; dsimp only; omega)⟩
    · refine W_skip ?_
      refine W_seq ?_
      have bd := rOK_bd (not_false c1)
      refine W_reg ?_
      refine s_val (wn rfl) rfl rfl (py_loadS Try.underlying105 rfl Try.sizeOf105 rfl rfl (At.whole (H6.box 1 rfl))) (s_val (wn rfl) rfl rfl (py_move rfl) ?_)
      refine s_call (wn rfl) rfl rfl (pc_call Try.func83 rfl Try_nm83 rfl) (Try_impl_rowCode_encode (n := x.toNat) (s := y.toNat) (by omega) (by omega) (by omega) (by omega) (H6.sees 0 rfl)) (fun v3 w8 r3 => ?_)
      obtain ⟨e8, r3⟩ := r3
      obtain ⟨fp1, H8⟩ := H6.res e8 r3
      obtain ⟨a1, k1, q1⟩ := own_slice (H8.mine 2 rfl)
      cases q1
      refine s_val (wn rfl) rfl rfl (py_buildS Try_pl45 rfl rfl) ?_
      refine s_stoS (wn rfl) Try.sizeOf45 rfl rfl rfl rfl H8 0 rfl rfl (fun w9 e9 H9 => ?_)
      dsimp only [List.nil_append, List.cons_append, List.set_cons_zero, List.set_cons_succ, layL] at H9
      refine s_nil ?_
      refine W_ret (hQ _ _ (finC Try.results27 rfl (run_loadVarS Try.underlying45 rfl Try.sizeOf45 rfl (At.whole (H9.box 0 rfl))) ?_))
      rw [encodeRow_full (not_false c1) (by omega)]
      exact ⟨H9.ext, _, _, rfl, BlocksResult.out (x := ⟨0, encG x.toNat (x.toNat + y.toNat) xs⟩) (H9.sub (.cons _ (.cons _ (.cons_cons _ List.Sublist.slnil)))) (by show I64ok 0; unfold I64ok; omega)⟩
theorem Try_spec_EncodeRow {w : World} {x : Int} {y : Int} {xs : List UInt8} {xsA : Option Addr} {xsC : Nat} (xsS : Sees w [.slice xsA xs.length xsC] xs) : Ret Try.prog 25 #[.int .i64 x, .int .i64 y, .slice xsA xs.length xsC] w fun v w' => Ext No w w' ∧ (∃ A1 C1, v = (encodeRow x y xs).val A1 C1 ∧ ResS w w' [.int .i64 (encodeRow x y xs).Code, .slice A1 (encodeRow x y xs).Blocks.length C1] (encodeRow x y xs)) := by
  have xsL := sees_len xsS
  unfold maxLen at xsL
  obtain ⟨xsF, xsO⟩ := xsS
  refine ret_Q (vs := [.int .i64 x, .int .i64 y, .slice xsA xs.length xsC]) Try.func25 rfl Try.ntmps25 rfl (fun Q hQ hN => ?_)
  have H0 := Sep.start (w := w) (F := [seen false [.slice xsA xs.length xsC] xs xsF]) (all_cons xsO (by simp))
  refine W_seq ?_
  refine W_reg ?_
  refine s_var (wn rfl) rfl Try.zeroValue45 H0 (fun b1 w1 e1 g1 H1 => ?_)
  refine s_nil ?_
  refine W_seq ?_
  refine W_seq ?_
  refine W_reg ?_
  refine s_val (wn rfl) rfl rfl (py_move rfl) (s_val (wn rfl) rfl rfl (py_move rfl) ?_)
  refine s_call (wn rfl) rfl rfl (pc_call Try.func79 rfl Try_nm79 rfl) Try_spec_l2Shape (fun v1 w2 r1 => ?_)
  obtain ⟨e2, rfl⟩ := r1
  have H2 := H1.to e2
  refine s_val (wn rfl) rfl rfl (py_not rfl) ?_
  refine s_nil ?_
  refine W_if rfl (fun c1 => ?_) (fun c1 => ?_)
  · refine W_seq ?_
    refine W_reg ?_
    refine s_val (wn rfl) rfl rfl (py_buildS Try_pl45 rfl rfl) ?_
    refine s_stoS (wn rfl) Try.sizeOf45 rfl rfl rfl rfl H2 0 rfl rfl (fun w3 e3 H3 => ?_)
    dsimp only [List.nil_append, List.cons_append, List.set_cons_zero, List.set_cons_succ, layL] at H3
    refine s_nil ?_
    refine W_ret (hQ _ _ (finC Try.results25 rfl (run_loadVarS Try.underlying45 rfl Try.sizeOf45 rfl (At.whole (H3.box 0 rfl))) ?_))
    rw [encodeRow_range (not_true c1)]
    exact ⟨H3.ext, none, 0, rfl, Res.weak <| blocks_nil (by unfold I64ok; dsimp only; omega)⟩
  · refine W_skip ?_
    refine W_seq ?_
    refine W_seq ?_
    have bd0 := rOK_bd (not_false c1)
    refine W_reg ?_
    refine s_val (wn rfl) rfl rfl (py_move rfl) (s_val (wn rfl) rfl rfl (py_len Try.underlying34 rfl) (s_val (wn rfl) rfl rfl (py_move rfl) (s_val (wn rfl) rfl rfl (py_mul rfl rfl (in64 ⟨by omega, by omega⟩)) (s_val (wn rfl) rfl rfl (py_neq rfl rfl) ?_))))
    refine s_nil ?_
    refine W_ifd rfl (fun c2 => ?_) (fun c2 => ?_)
    · refine W_seq ?_
      refine W_reg ?_
      refine s_val (wn rfl) rfl rfl (py_buildS Try_pl45 rfl rfl) ?_
      refine s_stoS (wn rfl) Try.sizeOf45 rfl rfl rfl rfl H2 0 rfl rfl (fun w4 e4 H4 => ?_)
      dsimp only [List.nil_append, List.cons_append, List.set_cons_zero, List.set_cons_succ, layL] at H4
      refine s_nil ?_
      refine W_ret (hQ _ _ (finC Try.results25 rfl (run_loadVarS Try.underlying45 rfl Try.sizeOf45 rfl (At.whole (H4.box 0 rfl))) ?_))
      rw [encodeRow_form (not_false c1) (by omega)]
      exact ⟨H4.ext, none, 0, rfl, Res.weak <| blocks_nil (by unfold I64ok; dsimp only; omega)⟩
    · refine W_skip ?_
      refine W_seq ?_
      have bd := rOK_bd (not_false c1)
      refine W_reg ?_
      refine s_val (wn rfl) rfl rfl (py_move rfl) (s_val (wn rfl) rfl rfl (py_move rfl) (s_val (wn rfl) rfl rfl (py_move rfl) ?_))
      refine s_call (wn rfl) rfl rfl (pc_call Try.func80 rfl Try_nm80 rfl) (Try_spec_l2Encode (n := x.toNat) (s := y.toNat) (by omega) (by omega) (by omega) (by omega) (H2.sees 0 rfl)) (fun v2 w5 r2 => ?_)
      obtain ⟨e5, r2⟩ := r2
      obtain ⟨fp1, H5, fr1⟩ := H2.resS e5 r2
      obtain ⟨a1, k1, q1⟩ := own_slice (H5.seen 1 rfl)
      cases q1
      refine s_val (wn rfl) rfl rfl (py_buildS Try_pl45 rfl rfl) ?_
      refine s_stoS (wn rfl) Try.sizeOf45 rfl rfl rfl rfl H5 0 rfl rfl (fun w6 e6 H6 => ?_)
      dsimp only [List.nil_append, List.cons_append, List.set_cons_zero, List.set_cons_succ, layL] at H6
      refine s_nil ?_
      refine W_ret (hQ _ _ (finC Try.results25 rfl (run_loadVarS Try.underlying45 rfl Try.sizeOf45 rfl (At.whole (H6.box 0 rfl))) ?_))
      rw [encodeRow_full (not_false c1) (by omega)]
      exact ⟨H6.ext, _, _, rfl, _, BlocksResult.own_mk (x := ⟨0, encG x.toNat (x.toNat + y.toNat) xs⟩) (by show I64ok 0; unfold I64ok; omega) (H6.seen 1 rfl), fun b hb => Nat.le_trans H2.ext.size (fr1 b hb)⟩
theorem Try_laws_eqBlocksResult {w : World} {a : BlocksResult} {aA1 : Option Addr} {aC1 : Nat} {b : BlocksResult} {bA1 : Option Addr} {bC1 : Nat} (aK : a.Ok) (aS1 : Sees w [.slice aA1 a.Blocks.length aC1] a.Blocks) (bK : b.Ok) (bS1 : Sees w [.slice bA1 b.Blocks.length bC1] b.Blocks) : Ret Try.prog 28 #[a.val aA1 aC1, b.val bA1 bC1] w fun v w' => Ext No w w' ∧ (v = .bool (decide (a = b))) := by
  have aK2 := aK
  unfold BlocksResult.Ok I64ok at aK2
  try unfold maxLen at aK2
  have aL1 := sees_len aS1
  unfold maxLen at aL1
  obtain ⟨aF1, aO1⟩ := aS1
  have bK2 := bK
  unfold BlocksResult.Ok I64ok at bK2
  try unfold maxLen at bK2
  have bL1 := sees_len bS1
  unfold maxLen at bL1
  obtain ⟨bF1, bO1⟩ := bS1
  refine ret_Q (vs := [a.val aA1 aC1, b.val bA1 bC1]) Try.func28 rfl Try.ntmps28 rfl (fun Q hQ hN => ?_)
  have H0 := Sep.start (w := w) (F := [seen false [.slice aA1 a.Blocks.length aC1] a.Blocks aF1, seen false [.slice bA1 b.Blocks.length bC1] b.Blocks bF1]) (all_cons aO1 (all_cons bO1 (by simp)))
  refine W_seq ?_
  refine W_reg ?_
  refine s_box (wn rfl) rfl rfl H0 (fun b1 w1 e1 g1 H1 => ?_)
  refine s_box (wn rfl) rfl rfl H1 (fun b2 w2 e2 g2 H2 => ?_)
  refine s_val (wn rfl) rfl rfl (py_assign rfl) ?_
  refine s_nil ?_
  refine W_seq ?_
  refine W_seq ?_
  refine W_reg ?_
  refine s_val (wn rfl) rfl rfl (py_field Try.underlying45 rfl Try.sizeOf2 rfl rfl) (s_val (wn rfl) rfl rfl (py_load Try.underlying2 rfl rfl (cell_atL (H2.box 0 rfl) rfl)) (s_val (wn rfl) rfl rfl (py_field Try.underlying45 rfl Try.sizeOf2 rfl rfl) (s_val (wn rfl) rfl rfl (py_load Try.underlying2 rfl rfl (cell_atL (H2.box 1 rfl) rfl)) (s_val (wn rfl) rfl rfl (py_neq rfl rfl) ?_))))
  refine s_nil ?_
  refine W_ifd rfl (fun c1 => ?_) (fun c1 => ?_)
  · refine W_seq ?_
    refine W_reg ?_
    refine s_val (wn rfl) rfl rfl (py_assign rfl) ?_
    refine s_nil ?_
    refine W_ret (hQ _ _ (fin1 Try.results28 rfl ?_))
    refine ⟨H2.ext, ?_⟩
    rw [decide_eq_false (fun e => by subst e; first | exact c1 rfl | simp at c1)]
  · refine W_skip ?_
    refine W_seq ?_
    refine W_seq ?_
    refine W_reg ?_
    refine s_val (wn rfl) rfl rfl (py_field Try.underlying45 rfl Try.sizeOf43 rfl rfl) (s_val (wn rfl) rfl rfl (py_load Try.underlying43 rfl rfl (cell_atL (H2.box 0 rfl) rfl)) (s_val (wn rfl) rfl rfl (py_field Try.underlying45 rfl Try.sizeOf43 rfl rfl) (s_val (wn rfl) rfl rfl (py_load Try.underlying43 rfl rfl (cell_atL (H2.box 1 rfl) rfl)) ?_)))
    refine s_call (wn rfl) rfl rfl (pc_call Try.func48 rfl Try_nm48 rfl) (Try_laws_eqByteSS (H2.sees 0 rfl) (H2.sees 1 rfl)) (fun v1 w3 r1 => ?_)
    obtain ⟨e3, rfl⟩ := r1
    have H3 := H2.to e3
    refine s_val (wn rfl) rfl rfl (py_not rfl) ?_
    refine s_nil ?_
    refine W_if rfl (fun c2 => ?_) (fun c2 => ?_)
    · refine W_seq ?_
      refine W_reg ?_
      refine s_val (wn rfl) rfl rfl (py_assign rfl) ?_
      refine s_nil ?_
      refine W_ret (hQ _ _ (fin1 Try.results28 rfl ?_))
      refine ⟨H3.ext, ?_⟩
      rw [decide_eq_false (fun e => by subst e; first | exact c2 rfl | simp at c2)]
    · refine W_skip ?_
      refine W_seq ?_
      refine W_reg ?_
      refine s_val (wn rfl) rfl rfl (py_assign rfl) ?_
      refine s_nil ?_
      refine W_ret (hQ _ _ (fin1 Try.results28 rfl ?_))
      refine ⟨H3.ext, ?_⟩
      rw [decide_eq_true]
      cases a; cases b; simp_all
theorem Try_laws_markBlocksResult {w : World} {xs : List (List UInt8)} {xsA : Option Addr} {xsC : Nat} {c k : Int} {fp : List Nat} (o : own true w [.slice xsA xs.length xsC] xs fp) (nd : fp.Nodup) (hk : 0 ≤ k ∧ k + cntB xs ≤ 4611686018427387904) : Ret Try.prog 31 #[.agg #[.int .i64 c, .slice xsA xs.length xsC], .int .i64 k] w fun v w' => (v = .int .i64 (k + cntB xs) ∧ ∃ xs', Mut w w' fp [.slice xsA xs.length xsC] xs' ∧ xs'.length = xs.length ∧ (∀ j, (xs'.getD j []).length = (xs.getD j []).length) ∧ MarkBB xs' k) := by
  refine ret_Q (vs := [.agg #[.int .i64 c, .slice xsA xs.length xsC], .int .i64 k]) Try.func31 rfl Try.ntmps31 rfl (fun Q hQ hN => ?_)
  have H0 := Sep.begin o nd
  refine W_seq ?_
  refine W_reg ?_
  refine s_box (wn rfl) rfl rfl H0 (fun b1 w1 e1 g1 H1 => ?_)
  refine s_val (wn rfl) rfl rfl (py_assign rfl) ?_
  refine s_nil ?_
  refine W_seq ?_
  refine W_reg ?_
  refine s_val (wn rfl) rfl rfl (py_field Try.underlying45 rfl Try.sizeOf43 rfl rfl) (s_val (wn rfl) rfl rfl (py_load Try.underlying43 rfl rfl (cell_atL (H1.box 1 rfl) rfl)) (s_val (wn rfl) rfl rfl (py_move rfl) ?_))
  refine s_call (wn rfl) rfl rfl (pc_call Try.func50 rfl Try_nm50 rfl) (Try_laws_markByteSS (H1.mine 0 rfl) (H1.nodup1 (i := 0) rfl) (by constructor <;> omega)) (fun v1 w2 r1 => ?_)
  obtain ⟨rfl, mx1, mm1, ml1, mk1⟩ := r1
  obtain ⟨fp1, H2⟩ := H1.mut 0 rfl mm1
  try dsimp only [List.nil_append, List.cons_append, List.set_cons_zero, List.set_cons_succ] at H2
  refine s_val (wn rfl) rfl rfl (py_assign rfl) ?_
  refine s_nil ?_
  refine W_seq ?_
  refine W_reg ?_
  refine s_val (wn rfl) rfl rfl (py_move rfl) (s_val (wn rfl) rfl rfl (py_assign rfl) ?_)
  refine s_nil ?_
  refine W_ret (hQ _ _ (fin1 Try.results31 rfl ?_))
  have hz := H2.dtake 1
  exact ⟨rfl, _, hz.done, ml1, mk1⟩
theorem Try_laws_heldBlocksResult {w : World} {xs : List (List UInt8)} {xsA : Option Addr} {n xsC : Nat} {c k : Int} (xsS : Sees w [.slice xsA n xsC] xs) (hk : 0 ≤ k ∧ k + cntB xs ≤ 4611686018427387904) (hm : MarkBB xs k) : Ret Try.prog 32 #[.agg #[.int .i64 c, .slice xsA n xsC], .int .i64 k] w fun v w' => Ext No w w' ∧ (v = .int .i64 (k + cntB xs)) := by
  obtain ⟨xsF, xsO⟩ := xsS
  obtain rfl := own_n xsO
  refine ret_Q (vs := [.agg #[.int .i64 c, .slice xsA xs.length xsC], .int .i64 k]) Try.func32 rfl Try.ntmps32 rfl (fun Q hQ hN => ?_)
  have H0 := Sep.start (w := w) (F := [seen false [.slice xsA xs.length xsC] xs xsF]) (all_cons xsO (by simp))
  refine W_seq ?_
  refine W_reg ?_
  refine s_box (wn rfl) rfl rfl H0 (fun b1 w1 e1 g1 H1 => ?_)
  refine s_val (wn rfl) rfl rfl (py_assign rfl) ?_
  refine s_nil ?_
  refine W_seq ?_
  refine W_reg ?_
  refine s_val (wn rfl) rfl rfl (py_field Try.underlying45 rfl Try.sizeOf43 rfl rfl) (s_val (wn rfl) rfl rfl (py_load Try.underlying43 rfl rfl (cell_atL (H1.box 0 rfl) rfl)) (s_val (wn rfl) rfl rfl (py_move rfl) ?_))
  refine s_call (wn rfl) rfl rfl (pc_call Try.func84 rfl Try_nm84 rfl) (Try_laws_heldByteSS (H1.sees 0 rfl) (by constructor <;> omega) (by assumption)) (fun v1 w2 r1 => ?_)
  obtain ⟨e2, rfl⟩ := r1
  have H2 := H1.to e2
  refine s_val (wn rfl) rfl rfl (py_assign rfl) ?_
  refine s_nil ?_
  refine W_seq ?_
  refine W_seq ?_
  refine W_reg ?_
  refine s_val (wn rfl) rfl rfl (py_move rfl) (s_val (wn rfl) rfl rfl (py_lss rfl rfl) ?_)
  refine s_nil ?_
  refine W_ifd rfl (fun c1 => ?_) (fun c1 => ?_)
  · refine W_seq ?_
    refine W_reg ?_
    refine s_val (wn rfl) rfl rfl (py_assign rfl) ?_
    refine s_nil ?_
    refine W_ret (hQ _ _ (fin1 Try.results32 rfl ?_))
    exact absurd c1 (by omega)
  · refine W_skip ?_
    refine W_seq ?_
    refine W_reg ?_
    refine s_val (wn rfl) rfl rfl (py_move rfl) (s_val (wn rfl) rfl rfl (py_assign rfl) ?_)
    refine s_nil ?_
    refine W_ret (hQ _ _ (fin1 Try.results32 rfl ?_))
    exact ⟨H2.ext, rfl⟩
theorem Try_laws_FnExactEncodeRow {w : World} {x : Int} {y : Int} {xs : List UInt8} {xsA : Option Addr} {xsC : Nat} (xsS : Sees w [.slice xsA xs.length xsC] xs) : Ret Try.prog 5 #[.int .i64 x, .int .i64 y, .slice xsA xs.length xsC] w fun v w' => Ext No w w' ∧ (v = .bool true) := by
  have xsL := sees_len xsS
  unfold maxLen at xsL
  obtain ⟨xsF, xsO⟩ := xsS
  have cnt := encodeRow_cnt (d := x) (s := y) (xs := xs)
  refine ret_Q (vs := [.int .i64 x, .int .i64 y, .slice xsA xs.length xsC]) Try.func5 rfl Try.ntmps5 rfl (fun Q hQ hN => ?_)
  have H0 := Sep.start (w := w) (F := [seen false [.slice xsA xs.length xsC] xs xsF]) (all_cons xsO (by simp))
  refine W_seq ?_
  refine W_reg ?_
  refine s_val (wn rfl) rfl rfl (py_assign rfl) ?_
  refine s_nil ?_
  refine W_seq ?_
  refine W_seq ?_
  refine W_reg ?_
  refine s_val (wn rfl) rfl rfl (py_move rfl) (s_val (wn rfl) rfl rfl (py_len Try.underlying34 rfl) (s_val (wn rfl) rfl rfl (py_gtr rfl rfl) ?_))
  refine s_nil ?_
  refine W_ifd rfl (fun c1 => ?_) (fun c1 => ?_)
  · refine W_seq ?_
    refine W_reg ?_
    refine s_val (wn rfl) rfl rfl (py_assign rfl) ?_
    refine s_nil ?_
    refine W_ret (hQ _ _ (fin1 Try.results5 rfl ?_))
    exact ⟨H0.ext, rfl⟩
  · refine W_skip ?_
    refine W_seq ?_
    refine W_reg ?_
    refine s_val (wn rfl) rfl rfl (py_move rfl) (s_val (wn rfl) rfl rfl (py_move rfl) (s_val (wn rfl) rfl rfl (py_move rfl) ?_))
    refine s_call (wn rfl) rfl rfl (pc_call Try.func26 rfl Try_nm26 rfl) (Try_laws_toByteS (H0.sees 0 rfl) (by omega)) (fun v1 w1 r1 => ?_)
    obtain ⟨e1, r1⟩ := r1
    obtain ⟨fp1, H1⟩ := H0.res e1 r1
    obtain ⟨a1, k1, q1⟩ := own_slice (H1.mine 0 rfl)
    cases q1
    refine s_call (wn rfl) rfl rfl (pc_call Try.func25 rfl Try_nm25 rfl) (Try_spec_EncodeRow (H1.msees 0 rfl)) (fun v2 w2 r2 => ?_)
    obtain ⟨e2, sa1, sk1, rfl, r2⟩ := r2
    obtain ⟨fp2, H2, fr1⟩ := H1.resS e2 r2
    obtain ⟨sf1, sq1, sok1, so1⟩ := own_BlocksResultC (H2.seen 1 rfl)
    have H4 := H2.look1 1 rfl so1 (fun b hb => by rw [sq1]; simp [hb])
    refine s_var (wn rfl) rfl Try.zeroValue45 H4 (fun b1 w3 e3 g1 H5 => ?_)
    refine s_stoS (wn rfl) Try.sizeOf45 rfl rfl rfl rfl H5 1 rfl rfl (fun w4 e4 H6 => ?_)
    dsimp only [List.nil_append, List.cons_append, List.set_cons_zero, List.set_cons_succ, layL] at H6
    refine s_nil ?_
    refine W_seq ?_
    refine W_reg ?_
    refine s_val (wn rfl) rfl rfl (py_move rfl) ?_
    refine s_call (wn rfl) rfl rfl (pc_call Try.func26 rfl Try_nm26 rfl) (Try_laws_toByteS (H6.sees 0 rfl) (by omega)) (fun v3 w5 r3 => ?_)
    obtain ⟨e5, r3⟩ := r3
    obtain ⟨fp3, H7⟩ := H6.res e5 r3
    obtain ⟨a2, k2, q2⟩ := own_slice (H7.mine 2 rfl)
    cases q2
    refine s_val (wn rfl) rfl rfl (py_assign rfl) ?_
    refine s_nil ?_
    refine W_seq ?_
    refine W_reg ?_
    refine s_val (wn rfl) rfl rfl (py_move rfl) (s_val (wn rfl) rfl rfl (py_move rfl) (s_val (wn rfl) rfl rfl (py_move rfl) ?_))
    refine s_call (wn rfl) rfl rfl (pc_call Try.func27 rfl Try_nm27 rfl) (Try_impl_EncodeRow (H7.msees 2 rfl)) (fun v4 w6 r4 => ?_)
    obtain ⟨e6, sa2, sk2, rfl, r4⟩ := r4
    obtain ⟨fp4, H8⟩ := H7.res e6 r4
    obtain ⟨sf2, sq2, sok2, so2⟩ := own_BlocksResultC (H8.mine 3 rfl)
    have H9 := H8.part 3 rfl [mine [.slice _ (encodeRow x y xs).Blocks.length _] (encodeRow x y xs).Blocks sf2] (all_cons so2 (by simp)) (by simp [blocks, mine, sq2])
    try dsimp only [List.nil_append, List.cons_append, List.set_cons_zero, List.set_cons_succ] at H9
    refine s_var (wn rfl) rfl Try.zeroValue45 H9 (fun b2 w7 e7 g2 H10 => ?_)
    refine s_stoS (wn rfl) Try.sizeOf45 rfl rfl rfl rfl H10 5 rfl rfl (fun w8 e8 H11 => ?_)
    dsimp only [List.nil_append, List.cons_append, List.set_cons_zero, List.set_cons_succ, layL] at H11
    refine s_nil ?_
    refine W_seq ?_
    refine W_seq ?_
    refine W_reg ?_
    refine s_val (wn rfl) rfl rfl (py_loadS Try.underlying45 rfl Try.sizeOf45 rfl rfl (At.whole (H11.box 5 rfl))) (s_val (wn rfl) rfl rfl (py_loadS Try.underlying45 rfl Try.sizeOf45 rfl rfl (At.whole (H11.box 1 rfl))) ?_)
    refine s_call (wn rfl) rfl rfl (pc_call Try.func28 rfl Try_nm28 rfl) (Try_laws_eqBlocksResult (by assumption) (H11.msees 4 rfl) (by assumption) (H11.sees 2 rfl)) (fun v5 w9 r5 => ?_)
    obtain ⟨e9, rfl⟩ := r5
    have H12 := H11.to e9
    refine s_val (wn rfl) rfl rfl (py_not rfl) ?_
    refine s_nil ?_
    refine W_if rfl (fun c2 => ?_) (fun c2 => ?_)
    · exact absurd c2 (by simp)
    · refine W_skip ?_
      refine W_seq ?_
      refine W_seq ?_
      refine W_reg ?_
      refine s_val (wn rfl) rfl rfl (py_move rfl) (s_val (wn rfl) rfl rfl (py_move rfl) ?_)
      refine s_call (wn rfl) rfl rfl (pc_call Try.func26 rfl Try_nm26 rfl) (Try_laws_toByteS (H12.sees 0 rfl) (by omega)) (fun v6 w10 r6 => ?_)
      obtain ⟨e10, r6⟩ := r6
      obtain ⟨fp5, H13⟩ := H12.res e10 r6
      obtain ⟨a3, k3, q3⟩ := own_slice (H13.mine 6 rfl)
      cases q3
      refine s_call (wn rfl) rfl rfl (pc_call Try.func29 rfl Try_nm29 rfl) (Try_laws_eqByteS (H13.msees 2 rfl) (H13.msees 6 rfl)) (fun v7 w11 r7 => ?_)
      obtain ⟨e11, rfl⟩ := r7
      have H14 := H13.to e11
      refine s_val (wn rfl) rfl rfl (py_not rfl) ?_
      refine s_nil ?_
      refine W_if rfl (fun c3 => ?_) (fun c3 => ?_)
      · exact absurd c3 (by simp)
      · refine W_skip ?_
        refine W_seq ?_
        refine W_reg ?_
        refine s_val (wn rfl) rfl rfl (py_assign rfl) ?_
        refine s_nil ?_
        refine W_seq ?_
        refine W_reg ?_
        refine s_val (wn rfl) rfl rfl (py_move rfl) (s_val (wn rfl) rfl rfl (py_move rfl) ?_)
        refine s_call (wn rfl) rfl rfl (pc_call Try.func30 rfl Try_nm30 rfl) (Try_laws_markByteS (H14.mine 2 rfl) (H14.nodup1 (i := 2) rfl) (by constructor <;> omega)) (fun v8 w12 r8 => ?_)
        obtain ⟨rfl, mx1, mm1, ml1, mk1⟩ := r8
        obtain ⟨fp6, H15⟩ := H14.mut 2 rfl mm1
        try dsimp only [List.nil_append, List.cons_append, List.set_cons_zero, List.set_cons_succ] at H15
        refine s_val (wn rfl) rfl rfl (py_assign rfl) ?_
        refine s_nil ?_
        refine W_seq ?_
        refine W_seq ?_
        refine W_reg ?_
        refine s_val (wn rfl) rfl rfl (py_move rfl) (s_val (wn rfl) rfl rfl (py_lss rfl rfl) (s_val (wn rfl) rfl rfl (py_move rfl) ?_))
        refine s_grp 4 (j := 2) (want := false) (t := 46) rfl rfl rfl rfl (fun hg1 kk1 => s_val (wgE rfl rfl rfl hg1) rfl rfl (py_loadS Try.underlying45 rfl Try.sizeOf45 rfl rfl (At.whole (H15.box 5 rfl))) (s_val (wgE rfl rfl rfl hg1) rfl rfl (py_loadS Try.underlying45 rfl Try.sizeOf45 rfl rfl (At.whole (H15.box 1 rfl))) (s_callv (wgE rfl rfl rfl hg1) rfl rfl (pc_call Try.func28 rfl Try_nm28 rfl) (Try_laws_eqBlocksResult (by assumption) (H15.msees 4 rfl) (by assumption) (H15.sees 2 rfl)) (fun w14 e14 => s_val (wgE rfl rfl rfl hg1) rfl rfl (py_not rfl) (kk1 _ _ (kx rfl (kx rfl (kx rfl (kx rfl k0)))) rfl (Ext.refl.trans e14)))))) (fun w13 e13 => ?_)
        have H16 := H15.to e13
        refine s_val (wn rfl) rfl rfl (py_bor rfl rfl) ?_
        refine s_nil ?_
        refine W_if rfl (fun c4 => ?_) (fun c4 => ?_)
        · exact absurd c4 (by simp; omega)
        · refine W_skip ?_
          refine W_seq ?_
          refine W_reg ?_
          refine s_val (wn rfl) rfl rfl (py_assign rfl) ?_
          refine s_nil ?_
          refine W_seq ?_
          refine W_reg ?_
          refine s_val (wn rfl) rfl rfl (py_loadS Try.underlying45 rfl Try.sizeOf45 rfl rfl (At.whole (H16.box 5 rfl))) (s_val (wn rfl) rfl rfl (py_move rfl) ?_)
          refine s_call (wn rfl) rfl rfl (pc_call Try.func31 rfl Try_nm31 rfl) (Try_laws_markBlocksResult (H16.mine 4 rfl) (H16.nodup1 (i := 4) rfl) (by constructor <;> omega)) (fun v9 w15 r9 => ?_)
          obtain ⟨rfl, mx2, mm2, ml2, mk2⟩ := r9
          obtain ⟨fp7, H17⟩ := H16.mut 4 rfl mm2
          try dsimp only [List.nil_append, List.cons_append, List.set_cons_zero, List.set_cons_succ] at H17
          refine s_val (wn rfl) rfl rfl (py_assign rfl) ?_
          refine s_nil ?_
          refine W_seq ?_
          refine W_reg ?_
          refine s_val (wn rfl) rfl rfl (py_assign rfl) ?_
          refine s_nil ?_
          refine W_seq ?_
          obtain ⟨ms, mb⟩ := mk2
          have cs := cntB_same ms ml2
          refine W_reg ?_
          refine s_val (wn rfl) rfl rfl (py_loadS Try.underlying45 rfl Try.sizeOf45 rfl rfl (At.whole (H17.box 5 rfl))) (s_val (wn rfl) rfl rfl (py_move rfl) ?_)
          refine s_call (wn rfl) rfl rfl (pc_call Try.func32 rfl Try_nm32 rfl) (Try_laws_heldBlocksResult (H17.msees 4 rfl) (by constructor <;> omega) (by assumption)) (fun v10 w16 r10 => ?_)
          obtain ⟨e16, rfl⟩ := r10
          have H18 := H17.to e16
          refine s_val (wn rfl) rfl rfl (py_assign rfl) ?_
          refine s_nil ?_
          refine W_seq ?_
          refine W_seq ?_
          refine W_reg ?_
          refine s_val (wn rfl) rfl rfl (py_move rfl) (s_val (wn rfl) rfl rfl (py_lss rfl rfl) ?_)
          refine s_nil ?_
          refine W_ifd rfl (fun c5 => ?_) (fun c5 => ?_)
          · exact absurd c5 (by omega)
          · refine W_skip ?_
            refine W_seq ?_
            refine W_seq ?_
            refine W_reg ?_
            refine s_val (wn rfl) rfl rfl (py_move rfl) (s_val (wn rfl) rfl rfl (py_move rfl) (s_val (wn rfl) rfl rfl (py_neq rfl rfl) ?_))
            refine s_nil ?_
            refine W_ifd rfl (fun c6 => ?_) (fun c6 => ?_)
            · exact absurd c6 (by omega)
            · refine W_skip ?_
              refine W_seq ?_
              refine W_reg ?_
              refine s_val (wn rfl) rfl rfl (py_move rfl) (s_val (wn rfl) rfl rfl (py_move rfl) (s_val (wn rfl) rfl rfl (py_move rfl) ?_))
              refine s_call (wn rfl) rfl rfl (pc_call Try.func26 rfl Try_nm26 rfl) (Try_laws_toByteS (H18.sees 0 rfl) (by omega)) (fun v11 w17 r11 => ?_)
              obtain ⟨e17, r11⟩ := r11
              obtain ⟨fp8, H19⟩ := H18.res e17 r11
              obtain ⟨a4, k4, q4⟩ := own_slice (H19.mine 7 rfl)
              cases q4
              refine s_call (wn rfl) rfl rfl (pc_call Try.func27 rfl Try_nm27 rfl) (Try_impl_EncodeRow (H19.msees 7 rfl)) (fun v12 w18 r12 => ?_)
              obtain ⟨e18, sa3, sk3, rfl, r12⟩ := r12
              obtain ⟨fp9, H20⟩ := H19.res e18 r12
              have H21 := H20.share 8 rfl
              obtain ⟨sf3, sq3, sok3, so3⟩ := own_BlocksResultC (H21.seen 3 rfl)
              have H23 := H21.look1 3 rfl so3 (fun b hb => by rw [sq3]; simp [hb])
              refine s_var (wn rfl) rfl Try.zeroValue45 H23 (fun b3 w19 e19 g3 H24 => ?_)
              refine s_stoS (wn rfl) Try.sizeOf45 rfl rfl rfl rfl H24 9 rfl rfl (fun w20 e20 H25 => ?_)
              dsimp only [List.nil_append, List.cons_append, List.set_cons_zero, List.set_cons_succ, layL] at H25
              refine s_nil ?_
              refine W_seq ?_
              refine W_seq ?_
              refine W_reg ?_
              refine s_val (wn rfl) rfl rfl (py_loadS Try.underlying45 rfl Try.sizeOf45 rfl rfl (At.whole (H25.box 9 rfl))) (s_val (wn rfl) rfl rfl (py_loadS Try.underlying45 rfl Try.sizeOf45 rfl rfl (At.whole (H25.box 1 rfl))) ?_)
              refine s_call (wn rfl) rfl rfl (pc_call Try.func28 rfl Try_nm28 rfl) (Try_laws_eqBlocksResult (by assumption) (H25.sees 4 rfl) (by assumption) (H25.sees 2 rfl)) (fun v13 w21 r13 => ?_)
              obtain ⟨e21, rfl⟩ := r13
              have H26 := H25.to e21
              refine s_val (wn rfl) rfl rfl (py_not rfl) ?_
              refine s_nil ?_
              refine W_if rfl (fun c7 => ?_) (fun c7 => ?_)
              · exact absurd c7 (by simp)
              · refine W_skip ?_
                refine W_seq ?_
                refine W_reg ?_
                refine s_val (wn rfl) rfl rfl (py_assign rfl) ?_
                refine s_nil ?_
                refine W_seq ?_
                refine W_reg ?_
                refine s_val (wn rfl) rfl rfl (py_loadS Try.underlying45 rfl Try.sizeOf45 rfl rfl (At.whole (H26.box 5 rfl))) (s_val (wn rfl) rfl rfl (py_move rfl) ?_)
                refine s_call (wn rfl) rfl rfl (pc_call Try.func32 rfl Try_nm32 rfl) (Try_laws_heldBlocksResult (H26.msees 4 rfl) (by constructor <;> omega) (by assumption)) (fun v14 w22 r14 => ?_)
                obtain ⟨e22, rfl⟩ := r14
                have H27 := H26.to e22
                refine s_val (wn rfl) rfl rfl (py_assign rfl) ?_
                refine s_nil ?_
                refine W_seq ?_
                refine W_seq ?_
                refine W_reg ?_
                refine s_val (wn rfl) rfl rfl (py_move rfl) (s_val (wn rfl) rfl rfl (py_lss rfl rfl) ?_)
                refine s_nil ?_
                refine W_ifd rfl (fun c8 => ?_) (fun c8 => ?_)
                · exact absurd c8 (by omega)
                · refine W_skip ?_
                  refine W_seq ?_
                  refine W_seq ?_
                  refine W_reg ?_
                  refine s_val (wn rfl) rfl rfl (py_move rfl) (s_val (wn rfl) rfl rfl (py_move rfl) (s_val (wn rfl) rfl rfl (py_neq rfl rfl) ?_))
                  refine s_nil ?_
                  refine W_ifd rfl (fun c9 => ?_) (fun c9 => ?_)
                  · exact absurd c9 (by omega)
                  · refine W_skip ?_
                    refine W_seq ?_
                    refine W_reg ?_
                    refine s_val (wn rfl) rfl rfl (py_assign rfl) ?_
                    refine s_nil ?_
                    refine W_ret (hQ _ _ (fin1 Try.results5 rfl ?_))
                    exact ⟨H27.ext, rfl⟩
end Go.Wk
