/-
  The functions walked, each once. (Printed by a program of mine.)
-/
import Derived.Test.YtlcpnnnangneeaaShift
namespace Go.Wk
open Go.Proofs Rp
set_option maxRecDepth 10000
theorem Try_spec_l1Next {w : World} {code : List UInt8} {cA : Option Addr} {cC b : Nat} {cF : List Nat} {ct : Int} {n : Int} (hb : w.heap[b]? = some (.cells [.slice cA code.length cC, .int .i64 ct].toArray 159)) (cO : own false w [.slice cA code.length cC] code cF) (hd : ∀ x ∈ cF, x ≠ b) (hct : 0 ≤ ct ∧ ct ≤ 1000000) (hcl : code.length ≤ 1048576) (hn : 1 ≤ n ∧ n ≤ 1000) : Ret Try.prog 146 #[.pointer (some ⟨b, 0, none⟩), .int .i64 n] w fun v w' => (BoxTo w w' b (.cells [.slice cA code.length cC, .int .i64 (ct + 1)].toArray 159) ∧ ∃ x : Int, v = .int .i64 x ∧ 0 ≤ x ∧ x < n) := by
  refine ret_Q (vs := [.pointer (some ⟨b, 0, none⟩), .int .i64 n]) Try.func146 rfl Try.ntmps146 rfl (fun Q hQ hN => ?_)
  have H0 := (Sep.beginBox hb).look (r := seen false [.slice cA code.length cC] code cF) cO (fun x hx hm => hd x hx (by simpa [blocks, Wk.box] using hm))
  refine W_seq ?_
  refine W_reg ?_
  refine s_val (wn rfl) rfl rfl (py_assign rfl) ?_
  refine s_nil ?_
  refine W_seq ?_
  refine W_reg ?_
  refine s_val (wn rfl) rfl rfl (py_move rfl) (s_val (wn rfl) rfl rfl (py_move rfl) (s_val (wn rfl) rfl rfl (py_nil rfl) (s_val (wn rfl) rfl rfl (py_field Try.underlying159 rfl Try.sizeOf2 rfl rfl) (s_val (wn rfl) rfl rfl (py_load Try.underlying2 rfl rfl (cell_atL (H0.box 0 rfl) rfl)) (s_val (wn rfl) rfl rfl (py_add rfl rfl (in64 ⟨by omega, by omega⟩)) (s_val (wn rfl) rfl rfl (py_nil rfl) (s_val (wn rfl) rfl rfl (py_field Try.underlying159 rfl Try.sizeOf2 rfl rfl) ?_)))))))
  refine s_sto (wn rfl) Try.sizeOf2 rfl rfl rfl H0 0 rfl rfl (fun w1 e1 H1 => ?_)
  dsimp only [List.nil_append, List.cons_append, List.set_cons_zero, List.set_cons_succ, layL] at H1
  refine s_nil ?_
  refine W_seq ?_
  refine W_seq ?_
  refine W_reg ?_
  refine s_val (wn rfl) rfl rfl (py_move rfl) (s_val (wn rfl) rfl rfl (py_lss rfl rfl) ?_)
  refine s_nil ?_
  refine W_ifd rfl (fun c1 => ?_) (fun c1 => ?_)
  · refine W_seq ?_
    refine W_reg ?_
    refine s_val (wn rfl) rfl rfl (py_assign rfl) ?_
    refine s_nil ?_
    refine W_ret (hQ _ _ (fin1 Try.results146 rfl ?_))
    exact absurd c1 (by omega)
  · refine W_skip ?_
    refine W_seq ?_
    refine W_reg ?_
    refine s_val (wn rfl) rfl rfl (py_move rfl) (s_val (wn rfl) rfl rfl (py_nil rfl) (s_val (wn rfl) rfl rfl (py_field Try.underlying159 rfl Try.sizeOf2 rfl rfl) (s_val (wn rfl) rfl rfl (py_load Try.underlying2 rfl rfl (cell_atL (H1.box 0 rfl) rfl)) (s_val (wn rfl) rfl rfl (py_sub rfl rfl (in64 ⟨by omega, by omega⟩)) (s_val (wn rfl) rfl rfl (py_assign rfl) ?_)))))
    refine s_nil ?_
    refine W_seq ?_
    refine W_reg ?_
    refine s_val (wn rfl) rfl rfl (py_move rfl) (s_val (wn rfl) rfl rfl (py_nil rfl) (s_val (wn rfl) rfl rfl (py_field Try.underlying159 rfl Try.sizeOf34 rfl rfl) (s_val (wn rfl) rfl rfl (py_load Try.underlying34 rfl rfl (cell_atL (H1.box 0 rfl) rfl)) (s_val (wn rfl) rfl rfl (py_len Try.underlying34 rfl) (s_val (wn rfl) rfl rfl (py_assign rfl) ?_)))))
    refine s_nil ?_
    refine W_seq ?_
    refine W_seq ?_
    refine W_reg ?_
    refine s_val (wn rfl) rfl rfl (py_move rfl) (s_val (wn rfl) rfl rfl (py_eql rfl rfl) ?_)
    refine s_nil ?_
    refine W_ifd rfl (fun c2 => ?_) (fun c2 => ?_)
    · refine W_seq ?_
      refine W_reg ?_
      refine s_val (wn rfl) rfl rfl (py_move rfl) (s_val (wn rfl) rfl rfl (py_mul rfl rfl (in64 ⟨by omega, by omega⟩)) (s_val (wn rfl) rfl rfl (py_move rfl) (s_val (wn rfl) rfl rfl (py_rem rfl rfl (by omega)) (s_val (wn rfl) rfl rfl (py_assign rfl) ?_))))
      refine s_nil ?_
      refine W_ret (hQ _ _ (fin1 Try.results146 rfl ?_))
      exact ⟨⟨H1.ext, H1.box 0 rfl⟩, _, rfl, tmod_bd (by omega) (by omega)⟩
    · refine W_skip ?_
      refine W_seq ?_
      have m1 := tmod_bd (a := ct + 1 - 1) (b := (code.length : Int)) (by omega) (by omega)
      have q1 := tdiv_bd (a := ct + 1 - 1) (b := (code.length : Int)) (by omega) (by omega)
      have u1 := (code.getD ((ct + 1 - 1).tmod code.length).toNat 0).toNat_lt
      obtain ⟨eb1, eo1, ee1, ec1⟩ := elem_u8 (H1.seen 0 rfl) ((ct + 1 - 1).tmod code.length).toNat (by omega)
      refine W_drw (S := Ext No _) [(0, true), (1, true), (2, true), (3, true), (4, true), (5, true), (6, true), (7, true), (8, true), (9, true), (10, true), (11, true), (12, true), (13, true), (14, true), (15, false)] (by kernel_rfl) (by kernel_rfl) (by kernel_rfl) rfl (fun _ => Ext.refl.drawn _) (fun q1 => ?_)
      have H2 := H1.drawn q1
      refine d_val rfl (wn rfl) rfl rfl (fun zw hx => py_move rfl) (d_val rfl (wn rfl) rfl rfl (fun zw hx => py_nil rfl) (d_val rfl (wn rfl) rfl rfl (fun zw hx => py_field Try.underlying159 rfl Try.sizeOf34 rfl rfl) (d_val rfl (wn rfl) rfl rfl (fun zw hx => py_load Try.underlying34 rfl rfl (cell_atL (hx.heap (H2.box 0 rfl)) rfl)) (d_val rfl (wn rfl) rfl rfl (fun zw hx => py_move rfl) (d_val rfl (wn rfl) rfl rfl (fun zw hx => py_move rfl) (d_val rfl (wn rfl) rfl rfl (fun zw hx => py_rem rfl rfl (by omega)) (d_val rfl (wn rfl) rfl rfl (fun zw hx => py_elz Try.underlying34 Try.sizeOf5 rfl rfl ee1 ((ct + 1 - 1).tmod code.length).toNat (by omega) (by omega)) (d_val rfl (wn rfl) rfl rfl (fun zw hx => py_load Try.underlying5 rfl rfl (hx.cell ec1)) (d_val rfl (wn rfl) rfl rfl (fun zw hx => py_conv Try.underlying5 Try.underlying2 rfl (in64 ⟨by omega, by omega⟩)) (d_val rfl (wn rfl) rfl rfl (fun zw hx => py_move rfl) (d_val rfl (wn rfl) rfl rfl (fun zw hx => py_move rfl) (d_val rfl (wn rfl) rfl rfl (fun zw hx => py_quo rfl rfl (by omega) (in64 ⟨by omega, by omega⟩)) (d_val rfl (wn rfl) rfl rfl (fun zw hx => py_mul rfl rfl (in64 ⟨by omega, by omega⟩)) (d_val rfl (wn rfl) rfl rfl (fun zw hx => py_add rfl rfl (in64 ⟨by omega, by omega⟩)) (d_end rfl (wn rfl) rfl rfl (py_assign rfl) ?_)))))))))))))))
      refine d_nil ?_
      refine W_seq ?_
      refine W_seq ?_
      refine W_reg ?_
      refine s_val (wn rfl) rfl rfl (py_move rfl) (s_val (wn rfl) rfl rfl (py_gtr rfl rfl) ?_)
      refine s_nil ?_
      refine W_ifd rfl (fun c3 => ?_) (fun c3 => ?_)
      · have m2 := tmod_bd (a := ct + 1 - 1 + 1) (b := (code.length : Int)) (by omega) (by omega)
        have u2 := (code.getD ((ct + 1 - 1 + 1).tmod code.length).toNat 0).toNat_lt
        obtain ⟨eb2, eo2, ee2, ec2⟩ := elem_u8 (H2.seen 0 rfl) ((ct + 1 - 1 + 1).tmod code.length).toNat (by omega)
        refine W_drw (S := Ext No _) [(0, true), (1, true), (2, true), (3, true), (4, true), (5, true), (6, true), (7, true), (8, true), (9, true), (10, true), (11, true), (12, true), (13, true), (14, true), (15, true), (16, true), (17, false)] (by kernel_rfl) (by kernel_rfl) (by kernel_rfl) rfl (fun _ => Ext.refl.drawn _) (fun q2 => ?_)
        have H3 := H2.drawn q2
        refine d_val rfl (wn rfl) rfl rfl (fun zw hx => py_move rfl) (d_val rfl (wn rfl) rfl rfl (fun zw hx => py_mul rfl rfl (in64 ⟨by omega, by omega⟩)) (d_val rfl (wn rfl) rfl rfl (fun zw hx => py_move rfl) (d_val rfl (wn rfl) rfl rfl (fun zw hx => py_nil rfl) (d_val rfl (wn rfl) rfl rfl (fun zw hx => py_field Try.underlying159 rfl Try.sizeOf34 rfl rfl) (d_val rfl (wn rfl) rfl rfl (fun zw hx => py_load Try.underlying34 rfl rfl (cell_atL (hx.heap (H3.box 0 rfl)) rfl)) (d_val rfl (wn rfl) rfl rfl (fun zw hx => py_move rfl) (d_val rfl (wn rfl) rfl rfl (fun zw hx => py_add rfl rfl (in64 ⟨by omega, by omega⟩)) (d_val rfl (wn rfl) rfl rfl (fun zw hx => py_move rfl) (d_val rfl (wn rfl) rfl rfl (fun zw hx => py_rem rfl rfl (by omega)) (d_val rfl (wn rfl) rfl rfl (fun zw hx => py_elz Try.underlying34 Try.sizeOf5 rfl rfl ee2 ((ct + 1 - 1 + 1).tmod code.length).toNat (by omega) (by omega)) (d_val rfl (wn rfl) rfl rfl (fun zw hx => py_load Try.underlying5 rfl rfl (hx.cell ec2)) (d_val rfl (wn rfl) rfl rfl (fun zw hx => py_conv Try.underlying5 Try.underlying2 rfl (in64 ⟨by omega, by omega⟩)) (d_val rfl (wn rfl) rfl rfl (fun zw hx => py_mul rfl rfl (in64 ⟨by omega, by omega⟩)) (d_val rfl (wn rfl) rfl rfl (fun zw hx => py_add rfl rfl (in64 ⟨by omega, by omega⟩)) (d_val rfl (wn rfl) rfl rfl (fun zw hx => py_move rfl) (d_val rfl (wn rfl) rfl rfl (fun zw hx => py_add rfl rfl (in64 ⟨by omega, by omega⟩)) (d_end rfl (wn rfl) rfl rfl (py_assign rfl) ?_)))))))))))))))))
        refine d_nil ?_
        refine W_seq ?_
        refine W_reg ?_
        refine s_val (wn rfl) rfl rfl (py_move rfl) (s_val (wn rfl) rfl rfl (py_move rfl) (s_val (wn rfl) rfl rfl (py_rem rfl rfl (by omega)) (s_val (wn rfl) rfl rfl (py_assign rfl) ?_)))
        refine s_nil ?_
        refine W_ret (hQ _ _ (fin1 Try.results146 rfl ?_))
        exact ⟨⟨H3.ext, H3.box 0 rfl⟩, _, rfl, tmod_bd (by omega) (by omega)⟩
      · refine W_skip ?_
        refine W_seq ?_
        refine W_reg ?_
        refine s_val (wn rfl) rfl rfl (py_move rfl) (s_val (wn rfl) rfl rfl (py_move rfl) (s_val (wn rfl) rfl rfl (py_rem rfl rfl (by omega)) (s_val (wn rfl) rfl rfl (py_assign rfl) ?_)))
        refine s_nil ?_
        refine W_ret (hQ _ _ (fin1 Try.results146 rfl ?_))
        exact ⟨⟨H2.ext, H2.box 0 rfl⟩, _, rfl, tmod_bd (by omega) (by omega)⟩
theorem Try_spec_l1Chance {w : World} {code : List UInt8} {cA : Option Addr} {cC b : Nat} {cF : List Nat} {ct : Int} {n : Int} (hb : w.heap[b]? = some (.cells [.slice cA code.length cC, .int .i64 ct].toArray 159)) (cO : own false w [.slice cA code.length cC] code cF) (hd : ∀ x ∈ cF, x ≠ b) (hct : 0 ≤ ct ∧ ct ≤ 1000000) (hcl : code.length ≤ 1048576) (hn : 1 ≤ n ∧ n ≤ 1000) : Ret Try.prog 145 #[.pointer (some ⟨b, 0, none⟩), .int .i64 n] w fun v w' => (BoxTo w w' b (.cells [.slice cA code.length cC, .int .i64 (ct + 1)].toArray 159) ∧ ∃ x : Int, v = .bool (decide (x = 0)) ∧ 0 ≤ x ∧ x < n) := by
  refine ret_Q (vs := [.pointer (some ⟨b, 0, none⟩), .int .i64 n]) Try.func145 rfl Try.ntmps145 rfl (fun Q hQ hN => ?_)
  have H0 := (Sep.beginBox hb).look (r := seen false [.slice cA code.length cC] code cF) cO (fun x hx hm => hd x hx (by simpa [blocks, Wk.box] using hm))
  refine W_seq ?_
  refine W_reg ?_
  refine s_val (wn rfl) rfl rfl (py_assign rfl) ?_
  refine s_nil ?_
  refine W_seq ?_
  refine W_reg ?_
  refine s_val (wn rfl) rfl rfl (py_move rfl) (s_val (wn rfl) rfl rfl (py_move rfl) ?_)
  refine s_call (wn rfl) rfl rfl (pc_call Try.func146 rfl Try_nm146 rfl) (Try_spec_l1Next (H0.box 0 rfl) (own_weak (H0.seen 0 rfl)) (H0.offb 0 rfl 0 rfl) (by omega) (by omega) (by omega)) (fun v1 w1 r1 => ?_)
  obtain ⟨⟨e1, hb1⟩, nx1, rfl, ny1⟩ := r1
  have H1 := H0.putBox 0 rfl e1 hb1
  try dsimp only [List.nil_append, List.cons_append, List.set_cons_zero, List.set_cons_succ] at H1
  try simp only [List.mem_cons, List.not_mem_nil, or_false] at ny1
  refine s_val (wn rfl) rfl rfl (py_eql rfl rfl) (s_val (wn rfl) rfl rfl (py_assign rfl) ?_)
  refine s_nil ?_
  refine W_ret (hQ _ _ (fin1 Try.results145 rfl ?_))
  exact ⟨⟨H1.ext, H1.box 0 rfl⟩, _, rfl, by omega, by omega⟩
theorem Try_spec_l1Pick {w : World} {code : List UInt8} {cA : Option Addr} {cC b : Nat} {cF : List Nat} {ct : Int} {xs : List Int} {xsA : Option Addr} {xsC : Nat} {xF : List Nat} (hb : w.heap[b]? = some (.cells [.slice cA code.length cC, .int .i64 ct].toArray 159)) (cO : own false w [.slice cA code.length cC] code cF) (hd : ∀ x ∈ cF, x ≠ b) (hct : 0 ≤ ct ∧ ct ≤ 1000000) (hcl : code.length ≤ 1048576) (xsO : own false w [.slice xsA xs.length xsC] xs xF) (hdx : ∀ x ∈ xF, x ≠ b) (hx : 1 ≤ xs.length ∧ xs.length ≤ 1000) : Ret Try.prog 92 #[.pointer (some ⟨b, 0, none⟩), .slice xsA xs.length xsC] w fun v w' => (BoxTo w w' b (.cells [.slice cA code.length cC, .int .i64 (ct + 1)].toArray 159) ∧ ∃ x : Int, v = .int .i64 x ∧ x ∈ xs) := by
  refine ret_Q (vs := [.pointer (some ⟨b, 0, none⟩), .slice xsA xs.length xsC]) Try.func92 rfl Try.ntmps92 rfl (fun Q hQ hN => ?_)
  have H0 := (Sep.beginBox hb).look (r := seen false [.slice cA code.length cC] code cF) cO (fun x hx hm => hd x hx (by simpa [blocks, Wk.box] using hm))
  have H0 := H0.look (r := seen false [.slice xsA xs.length xsC] xs xF) xsO (fun x hx hm => hdx x hx (by simpa [blocks, Wk.box] using hm))
  refine W_seq ?_
  refine W_reg ?_
  refine s_val (wn rfl) rfl rfl (py_assign rfl) ?_
  refine s_nil ?_
  refine W_seq ?_
  refine W_reg ?_
  refine s_val (wn rfl) rfl rfl (py_move rfl) (s_val (wn rfl) rfl rfl (py_move rfl) (s_val (wn rfl) rfl rfl (py_move rfl) (s_val (wn rfl) rfl rfl (py_len Try.underlying33 rfl) ?_)))
  refine s_call (wn rfl) rfl rfl (pc_call Try.func146 rfl Try_nm146 rfl) (Try_spec_l1Next (H0.box 0 rfl) (own_weak (H0.seen 0 rfl)) (H0.offb 0 rfl 0 rfl) (by omega) (by omega) (by omega)) (fun v1 w1 r1 => ?_)
  obtain ⟨⟨e1, hb1⟩, nx1, rfl, ny1⟩ := r1
  have H1 := H0.putBox 0 rfl e1 hb1
  try dsimp only [List.nil_append, List.cons_append, List.set_cons_zero, List.set_cons_succ] at H1
  try simp only [List.mem_cons, List.not_mem_nil, or_false] at ny1
  obtain ⟨eb, eo, ee, ec⟩ := elem_int (H1.seen 1 rfl) nx1.toNat (by omega)
  refine s_val (wn rfl) rfl rfl (py_elz Try.underlying33 Try.sizeOf2 rfl rfl ee nx1.toNat (by omega) (by omega)) ((s_val (wn rfl) rfl rfl (py_load Try.underlying2 rfl rfl ec) (s_val (wn rfl) rfl rfl (py_assign rfl) ?_)))
  refine s_nil ?_
  refine W_ret (hQ _ _ (fin1 Try.results92 rfl ?_))
  exact ⟨⟨H1.ext, H1.box 0 rfl⟩, _, rfl, mem_getD (d := 0) (k := nx1.toNat) (by omega) rfl⟩
theorem Try_spec_l1Byte {w : World} {code : List UInt8} {cA : Option Addr} {cC b : Nat} {cF : List Nat} {ct : Int} (hb : w.heap[b]? = some (.cells [.slice cA code.length cC, .int .i64 ct].toArray 159)) (cO : own false w [.slice cA code.length cC] code cF) (hd : ∀ x ∈ cF, x ≠ b) (hct : 0 ≤ ct ∧ ct ≤ 900000) (hcl : code.length ≤ 1048576) : Ret Try.prog 149 #[.pointer (some ⟨b, 0, none⟩)] w fun v w' => (∃ ct' : Int, (ct ≤ ct' ∧ ct' ≤ ct + 3) ∧ BoxTo w w' b (.cells [.slice cA code.length cC, .int .i64 ct'].toArray 159) ∧ ∃ x : UInt8, v = .int .u8 x.toNat ∧ True) := by
  refine ret_Q (vs := [.pointer (some ⟨b, 0, none⟩)]) Try.func149 rfl Try.ntmps149 rfl (fun Q hQ hN => ?_)
  have H0 := (Sep.beginBox hb).look (r := seen false [.slice cA code.length cC] code cF) cO (fun x hx hm => hd x hx (by simpa [blocks, Wk.box] using hm))
  refine W_seq ?_
  refine W_reg ?_
  refine s_val (wn rfl) rfl rfl (py_assign rfl) ?_
  refine s_nil ?_
  refine W_seq ?_
  refine W_reg ?_
  refine s_val (wn rfl) rfl rfl (py_move rfl) (s_val (wn rfl) rfl rfl (py_move rfl) ?_)
  refine s_call (wn rfl) rfl rfl (pc_call Try.func146 rfl Try_nm146 rfl) (Try_spec_l1Next (H0.box 0 rfl) (own_weak (H0.seen 0 rfl)) (H0.offb 0 rfl 0 rfl) (by omega) (by omega) (by omega)) (fun v1 w1 r1 => ?_)
  obtain ⟨⟨e1, hb1⟩, nx1, rfl, ny1⟩ := r1
  have H1 := H0.putBox 0 rfl e1 hb1
  try dsimp only [List.nil_append, List.cons_append, List.set_cons_zero, List.set_cons_succ] at H1
  try simp only [List.mem_cons, List.not_mem_nil, or_false] at ny1
  refine s_val (wn rfl) rfl rfl (py_move rfl) ?_
  refine s_call (wn rfl) rfl rfl (pc_call Try.func146 rfl Try_nm146 rfl) (Try_spec_l1Next (H1.box 0 rfl) (own_weak (H1.seen 0 rfl)) (H1.offb 0 rfl 0 rfl) (by omega) (by omega) (by omega)) (fun v2 w2 r2 => ?_)
  obtain ⟨⟨e2, hb2⟩, nx2, rfl, ny2⟩ := r2
  have H2 := H1.putBox 0 rfl e2 hb2
  try dsimp only [List.nil_append, List.cons_append, List.set_cons_zero, List.set_cons_succ] at H2
  try simp only [List.mem_cons, List.not_mem_nil, or_false] at ny2
  refine s_litI ([nx1, nx2, 0, 1, 2, 255]) (wn rfl) rfl Try.underlying33 Try_ty2 rfl rfl (by intro x hx; unfold I64ok; simp only [List.mem_cons, List.not_mem_nil, or_false] at hx; omega) (by simp) (by simp) H2 (fun b1 w3 e3 g1 H3 => ?_)
  refine s_call (wn rfl) rfl rfl (pc_call Try.func92 rfl Try_nm92 rfl) (Try_spec_l1Pick (H3.box 0 rfl) (own_weak (H3.seen 0 rfl)) (H3.offb 0 rfl 0 rfl) (by omega) (by omega) (own_weak (H3.mine 1 rfl)) (fun x hx e => H3.apart (i := 0) (j := 1) rfl rfl rfl x hx (by simp [Wk.box, e])) (by simp)) (fun v3 w4 r3 => ?_)
  obtain ⟨⟨e4, hb3⟩, nx3, rfl, ny3⟩ := r3
  have H4 := H3.putBox 0 rfl e4 hb3
  try dsimp only [List.nil_append, List.cons_append, List.set_cons_zero, List.set_cons_succ] at H4
  try simp only [List.mem_cons, List.not_mem_nil, or_false] at ny3
  refine s_val (wn rfl) rfl rfl (py_conv8 Try.underlying2 Try.underlying5 rfl) (s_val (wn rfl) rfl rfl (py_assign rfl) ?_)
  refine s_nil ?_
  refine W_ret (hQ _ _ (fin1 Try.results149 rfl ?_))
  exact ⟨_, by omega, ⟨H4.ext, H4.box 0 rfl⟩, _, rfl, trivial⟩
theorem Try_spec_l2Sides {w : World} {code : List UInt8} {cA : Option Addr} {cC b : Nat} {cF : List Nat} {ct : Int} (hb : w.heap[b]? = some (.cells [.slice cA code.length cC, .int .i64 ct].toArray 159)) (cO : own false w [.slice cA code.length cC] code cF) (hd : ∀ x ∈ cF, x ≠ b) (hct : 0 ≤ ct ∧ ct ≤ 900000) (hcl : code.length ≤ 1048576) : Ret Try.prog 89 #[.pointer (some ⟨b, 0, none⟩)] w fun v w' => (∃ ct' : Int, (ct ≤ ct' ∧ ct' ≤ ct + 3) ∧ BoxTo w w' b (.cells [.slice cA code.length cC, .int .i64 ct'].toArray 159) ∧ ∃ x y : Int, v = .tuple #[.int .i64 x, .int .i64 y] ∧ -1 ≤ x ∧ x ≤ 4 ∧ -1 ≤ y ∧ y ≤ 3) := by
  refine ret_Q (vs := [.pointer (some ⟨b, 0, none⟩)]) Try.func89 rfl Try.ntmps89 rfl (fun Q hQ hN => ?_)
  have H0 := (Sep.beginBox hb).look (r := seen false [.slice cA code.length cC] code cF) cO (fun x hx hm => hd x hx (by simpa [blocks, Wk.box] using hm))
  refine W_seq ?_
  refine W_reg ?_
  refine s_val (wn rfl) rfl rfl (py_assign rfl) (s_val (wn rfl) rfl rfl (py_assign rfl) ?_)
  refine s_nil ?_
  refine W_seq ?_
  refine W_seq ?_
  refine W_reg ?_
  refine s_val (wn rfl) rfl rfl (py_move rfl) ?_
  refine s_call (wn rfl) rfl rfl (pc_call Try.func145 rfl Try_nm145 rfl) (Try_spec_l1Chance (H0.box 0 rfl) (own_weak (H0.seen 0 rfl)) (H0.offb 0 rfl 0 rfl) (by omega) (by omega) (by omega)) (fun v1 w1 r1 => ?_)
  obtain ⟨⟨e1, hb1⟩, nx1, rfl, ny1⟩ := r1
  have H1 := H0.putBox 0 rfl e1 hb1
  try dsimp only [List.nil_append, List.cons_append, List.set_cons_zero, List.set_cons_succ] at H1
  try simp only [List.mem_cons, List.not_mem_nil, or_false] at ny1
  refine s_nil ?_
  refine W_ifd rfl (fun c1 => ?_) (fun c1 => ?_)
  · refine W_seq ?_
    refine W_reg ?_
    refine s_val (wn rfl) rfl rfl (py_move rfl) ?_
    refine s_litI ([0, 4, 3, -1]) (wn rfl) rfl Try.underlying33 Try_ty2 rfl rfl (by intro x hx; unfold I64ok; simp only [List.mem_cons, List.not_mem_nil, or_false] at hx; omega) (by simp) (by simp) H1 (fun b1 w2 e2 g1 H2 => ?_)
    refine s_call (wn rfl) rfl rfl (pc_call Try.func92 rfl Try_nm92 rfl) (Try_spec_l1Pick (H2.box 0 rfl) (own_weak (H2.seen 0 rfl)) (H2.offb 0 rfl 0 rfl) (by omega) (by omega) (own_weak (H2.mine 1 rfl)) (fun x hx e => H2.apart (i := 0) (j := 1) rfl rfl rfl x hx (by simp [Wk.box, e])) (by simp)) (fun v2 w3 r2 => ?_)
    obtain ⟨⟨e3, hb2⟩, nx2, rfl, ny2⟩ := r2
    have H3 := H2.putBox 0 rfl e3 hb2
    try dsimp only [List.nil_append, List.cons_append, List.set_cons_zero, List.set_cons_succ] at H3
    try simp only [List.mem_cons, List.not_mem_nil, or_false] at ny2
    refine s_val (wn rfl) rfl rfl (py_move rfl) ?_
    refine s_litI ([0, 3, 2, -1]) (wn rfl) rfl Try.underlying33 Try_ty2 rfl rfl (by intro x hx; unfold I64ok; simp only [List.mem_cons, List.not_mem_nil, or_false] at hx; omega) (by simp) (by simp) H3 (fun b2 w4 e4 g2 H4 => ?_)
    refine s_call (wn rfl) rfl rfl (pc_call Try.func92 rfl Try_nm92 rfl) (Try_spec_l1Pick (H4.box 0 rfl) (own_weak (H4.seen 0 rfl)) (H4.offb 0 rfl 0 rfl) (by omega) (by omega) (own_weak (H4.mine 2 rfl)) (fun x hx e => H4.apart (i := 0) (j := 2) rfl rfl rfl x hx (by simp [Wk.box, e])) (by simp)) (fun v3 w5 r3 => ?_)
    obtain ⟨⟨e5, hb3⟩, nx3, rfl, ny3⟩ := r3
    have H5 := H4.putBox 0 rfl e5 hb3
    try dsimp only [List.nil_append, List.cons_append, List.set_cons_zero, List.set_cons_succ] at H5
    try simp only [List.mem_cons, List.not_mem_nil, or_false] at ny3
    refine s_val (wn rfl) rfl rfl (py_assign rfl) (s_val (wn rfl) rfl rfl (py_assign rfl) ?_)
    refine s_nil ?_
    refine W_ret (hQ _ _ (fin2 Try.results89 rfl rfl ?_))
    exact ⟨_, by omega, ⟨H5.ext, H5.box 0 rfl⟩, _, _, rfl, by omega⟩
  · refine W_skip ?_
    refine W_seq ?_
    refine W_reg ?_
    refine s_val (wn rfl) rfl rfl (py_move rfl) ?_
    refine s_call (wn rfl) rfl rfl (pc_call Try.func146 rfl Try_nm146 rfl) (Try_spec_l1Next (H1.box 0 rfl) (own_weak (H1.seen 0 rfl)) (H1.offb 0 rfl 0 rfl) (by omega) (by omega) (by omega)) (fun v4 w6 r4 => ?_)
    obtain ⟨⟨e6, hb4⟩, nx4, rfl, ny4⟩ := r4
    have H6 := H1.putBox 0 rfl e6 hb4
    try dsimp only [List.nil_append, List.cons_append, List.set_cons_zero, List.set_cons_succ] at H6
    try simp only [List.mem_cons, List.not_mem_nil, or_false] at ny4
    refine s_val (wn rfl) rfl rfl (py_add rfl rfl (in64 ⟨by omega, by omega⟩)) (s_val (wn rfl) rfl rfl (py_move rfl) ?_)
    refine s_call (wn rfl) rfl rfl (pc_call Try.func146 rfl Try_nm146 rfl) (Try_spec_l1Next (H6.box 0 rfl) (own_weak (H6.seen 0 rfl)) (H6.offb 0 rfl 0 rfl) (by omega) (by omega) (by omega)) (fun v5 w7 r5 => ?_)
    obtain ⟨⟨e7, hb5⟩, nx5, rfl, ny5⟩ := r5
    have H7 := H6.putBox 0 rfl e7 hb5
    try dsimp only [List.nil_append, List.cons_append, List.set_cons_zero, List.set_cons_succ] at H7
    try simp only [List.mem_cons, List.not_mem_nil, or_false] at ny5
    refine s_val (wn rfl) rfl rfl (py_assign rfl) (s_val (wn rfl) rfl rfl (py_assign rfl) ?_)
    refine s_nil ?_
    refine W_ret (hQ _ _ (fin2 Try.results89 rfl rfl ?_))
    exact ⟨_, by omega, ⟨H7.ext, H7.box 0 rfl⟩, _, _, rfl, by omega⟩
theorem Try_spec_l1Min {w : World} {x : Int} {y : Int}  : Ret Try.prog 148 #[.int .i64 x, .int .i64 y] w fun v w' => Ext No w w' ∧ (v = .int .i64 (if x < y then x else y)) := by
  refine ret_Q (vs := [.int .i64 x, .int .i64 y]) Try.func148 rfl Try.ntmps148 rfl (fun Q hQ hN => ?_)
  have H0 := Sep.start (w := w) (F := []) (by simp)
  refine W_seq ?_
  refine W_reg ?_
  refine s_val (wn rfl) rfl rfl (py_assign rfl) ?_
  refine s_nil ?_
  refine W_seq ?_
  refine W_seq ?_
  refine W_reg ?_
  refine s_val (wn rfl) rfl rfl (py_move rfl) (s_val (wn rfl) rfl rfl (py_move rfl) (s_val (wn rfl) rfl rfl (py_lss rfl rfl) ?_))
  refine s_nil ?_
  refine W_ifd rfl (fun c1 => ?_) (fun c1 => ?_)
  · refine W_seq ?_
    refine W_reg ?_
    refine s_val (wn rfl) rfl rfl (py_move rfl) (s_val (wn rfl) rfl rfl (py_assign rfl) ?_)
    refine s_nil ?_
    refine W_ret (hQ _ _ (fin1 Try.results148 rfl ?_))
    exact ⟨H0.ext, congrArg (Value.int .i64) (if_pos c1).symm⟩
  · refine W_skip ?_
    refine W_seq ?_
    refine W_reg ?_
    refine s_val (wn rfl) rfl rfl (py_move rfl) (s_val (wn rfl) rfl rfl (py_assign rfl) ?_)
    refine s_nil ?_
    refine W_ret (hQ _ _ (fin1 Try.results148 rfl ?_))
    exact ⟨H0.ext, congrArg (Value.int .i64) (if_neg c1).symm⟩
theorem Try_spec_l1Max {w : World} {x : Int} {y : Int}  : Ret Try.prog 147 #[.int .i64 x, .int .i64 y] w fun v w' => Ext No w w' ∧ (v = .int .i64 (if y < x then x else y)) := by
  refine ret_Q (vs := [.int .i64 x, .int .i64 y]) Try.func147 rfl Try.ntmps147 rfl (fun Q hQ hN => ?_)
  have H0 := Sep.start (w := w) (F := []) (by simp)
  refine W_seq ?_
  refine W_reg ?_
  refine s_val (wn rfl) rfl rfl (py_assign rfl) ?_
  refine s_nil ?_
  refine W_seq ?_
  refine W_seq ?_
  refine W_reg ?_
  refine s_val (wn rfl) rfl rfl (py_move rfl) (s_val (wn rfl) rfl rfl (py_move rfl) (s_val (wn rfl) rfl rfl (py_gtr rfl rfl) ?_))
  refine s_nil ?_
  refine W_ifd rfl (fun c1 => ?_) (fun c1 => ?_)
  · refine W_seq ?_
    refine W_reg ?_
    refine s_val (wn rfl) rfl rfl (py_move rfl) (s_val (wn rfl) rfl rfl (py_assign rfl) ?_)
    refine s_nil ?_
    refine W_ret (hQ _ _ (fin1 Try.results147 rfl ?_))
    exact ⟨H0.ext, congrArg (Value.int .i64) (if_pos c1).symm⟩
  · refine W_skip ?_
    refine W_seq ?_
    refine W_reg ?_
    refine s_val (wn rfl) rfl rfl (py_move rfl) (s_val (wn rfl) rfl rfl (py_assign rfl) ?_)
    refine s_nil ?_
    refine W_ret (hQ _ _ (fin1 Try.results147 rfl ?_))
    exact ⟨H0.ext, congrArg (Value.int .i64) (if_neg c1).symm⟩
theorem Try_spec_l2Good {w : World} {x : Int} {y : Int}  : Ret Try.prog 90 #[.int .i64 x, .int .i64 y] w fun v w' => Ext No w w' ∧ (∃ p q : Int, v = .tuple #[.int .i64 p, .int .i64 q] ∧ 1 ≤ p ∧ p ≤ 3 ∧ 0 ≤ q ∧ q ≤ 2) := by
  refine ret_Q (vs := [.int .i64 x, .int .i64 y]) Try.func90 rfl Try.ntmps90 rfl (fun Q hQ hN => ?_)
  have H0 := Sep.start (w := w) (F := []) (by simp)
  refine W_seq ?_
  refine W_reg ?_
  refine s_val (wn rfl) rfl rfl (py_assign rfl) (s_val (wn rfl) rfl rfl (py_assign rfl) ?_)
  refine s_nil ?_
  refine W_seq ?_
  refine W_reg ?_
  refine s_val (wn rfl) rfl rfl (py_move rfl) ?_
  refine s_call (wn rfl) rfl rfl (pc_call Try.func148 rfl Try_nm148 rfl) Try_spec_l1Min (fun v1 w1 r1 => ?_)
  obtain ⟨e1, rfl⟩ := r1
  have H1 := H0.to e1
  refine s_call (wn rfl) rfl rfl (pc_call Try.func147 rfl Try_nm147 rfl) Try_spec_l1Max (fun v2 w2 r2 => ?_)
  obtain ⟨e2, rfl⟩ := r2
  have H2 := H1.to e2
  refine s_val (wn rfl) rfl rfl (py_move rfl) ?_
  refine s_call (wn rfl) rfl rfl (pc_call Try.func148 rfl Try_nm148 rfl) Try_spec_l1Min (fun v3 w3 r3 => ?_)
  obtain ⟨e3, rfl⟩ := r3
  have H3 := H2.to e3
  refine s_call (wn rfl) rfl rfl (pc_call Try.func147 rfl Try_nm147 rfl) Try_spec_l1Max (fun v4 w4 r4 => ?_)
  obtain ⟨e4, rfl⟩ := r4
  have H4 := H3.to e4
  refine s_val (wn rfl) rfl rfl (py_assign rfl) (s_val (wn rfl) rfl rfl (py_assign rfl) ?_)
  refine s_nil ?_
  refine W_ret (hQ _ _ (fin2 Try.results90 rfl rfl ?_))
  exact ⟨H4.ext, _, _, rfl, by split <;> split <;> omega, by split <;> split <;> omega, by split <;> split <;> omega, by split <;> split <;> omega⟩
theorem Try_spec_l1Some {w : World} {code : List UInt8} {cA : Option Addr} {cC b : Nat} {cF : List Nat} {ct : Int} {n : Int} {m : Nat} (hb : w.heap[b]? = some (.cells [.slice cA code.length cC, .int .i64 ct].toArray 159)) (cO : own false w [.slice cA code.length cC] code cF) (hd : ∀ x ∈ cF, x ≠ b) (hct : 0 ≤ ct ∧ ct ≤ 800000) (hcl : code.length ≤ 1048576) (hn : n = m ∧ m ≤ 1000) : Ret Try.prog 91 #[.pointer (some ⟨b, 0, none⟩), .int .i64 n] w fun v w' => (∃ ct' : Int, (ct ≤ ct' ∧ ct' ≤ ct + 3 * (m : Int)) ∧ BoxTo w w' b (.cells [.slice cA code.length cC, .int .i64 ct'].toArray 159) ∧ ∃ (xs : List UInt8) (A : Option Addr) (C : Nat), v = .slice A xs.length C ∧ xs.length = m ∧ Res w w' [.slice A xs.length C] xs) := by
  refine ret_Q (vs := [.pointer (some ⟨b, 0, none⟩), .int .i64 n]) Try.func91 rfl Try.ntmps91 rfl (fun Q hQ hN => ?_)
  have H0 := (Sep.beginBox hb).look (r := seen false [.slice cA code.length cC] code cF) cO (fun x hx hm => hd x hx (by simpa [blocks, Wk.box] using hm))
  refine W_seq ?_
  refine W_reg ?_
  refine s_val (wn rfl) rfl rfl (py_assign rfl) ?_
  refine s_nil ?_
  refine W_seq ?_
  refine W_reg ?_
  refine s_lit0 (α := UInt8) (wn rfl) rfl Try.underlying34 Try_ty5 H0 (fun b1 w1 e1 g1 H1 => ?_)
  refine s_val (wn rfl) rfl rfl (py_assign rfl) ?_
  refine s_nil ?_
  refine W_seq ?_
  refine W_block ?_
  refine W_loop (γ := Nat × Value × List Nat × List UInt8 × Int) (fun (k, vo, f, ys, cc) => [(0, .pointer (some ⟨b, 0, none⟩)), (1, .int .i64 (n - k)), (5, vo)]) (fun (k, vo, f, ys, cc) w' => Sep (· = b) w [box b (.cells [.slice cA code.length cC, .int .i64 cc].toArray 159), mine [vo] ys f] [seen false [.slice cA code.length cC] code cF] w' ∧ k ≤ m ∧ ys.length = k ∧ ct ≤ cc ∧ cc ≤ ct + 3 * k) (fun (k, vo, f, ys, cc) => m - k) (0, _, _, [], ct) ⟨rfl, eqI (by omega), rfl, trivial⟩ ⟨H1, by omega, rfl, by omega, by omega⟩ (fun (k, vo, f, ys, cc) w2 H2 => ?_)
  obtain ⟨H2, hk, yl, c1a, c1b⟩ := H2
  refine W_seq ?_
  refine W_seq ?_
  refine W_reg ?_
  refine s_val (wn rfl) rfl rfl (py_move rfl) (s_val (wn rfl) rfl rfl (py_gtr rfl rfl) ?_)
  refine s_nil ?_
  refine W_ifd rfl (fun c1 => ?_) (fun c1 => ?_)
  · refine W_skip ?_
    refine W_seq ?_
    refine W_block ?_
    refine W_reg ?_
    refine s_val (wn rfl) rfl rfl (py_move rfl) (s_val (wn rfl) rfl rfl (py_move rfl) ?_)
    refine s_call (wn rfl) rfl rfl (pc_call Try.func149 rfl Try_nm149 rfl) (Try_spec_l1Byte (H2.box 0 rfl) (own_weak (H2.seen 0 rfl)) (H2.offb 0 rfl 0 rfl) (by omega) (by omega)) (fun v1 w3 r1 => ?_)
    obtain ⟨ct1, cb1, ⟨e2, hb1⟩, nx1, rfl, ny1⟩ := r1
    have H3 := H2.putBox 0 rfl e2 hb1
    try dsimp only [List.nil_append, List.cons_append, List.set_cons_zero, List.set_cons_succ] at H3
    try simp only [List.mem_cons, List.not_mem_nil, or_false] at ny1
    refine s_lit1 (wn rfl) rfl Try.underlying34 Try_ty5 rfl rfl rfl rfl H3 (fun b2 w4 e3 g2 H4 => ?_)
    refine s_app1 (wn rfl) rfl Try.underlying34 Try_ty5 rfl rfl rfl H4 1 2 rfl rfl own_b8 (by unfold maxLen; omega) (by omega) (fun v2 w5 fp1 H5 => ?_)
    refine s_val (wn rfl) rfl rfl (py_assign rfl) ?_
    refine s_nil ?_
    refine W_reg ?_
    refine s_val (wn rfl) rfl rfl (py_move rfl) (s_val (wn rfl) rfl rfl (py_sub rfl rfl (in64 ⟨by omega, by omega⟩)) (s_val (wn rfl) rfl rfl (py_assign rfl) ?_))
    refine s_nil ?_
    have hz := H5.sub (.cons_cons _ (.cons_cons _ (.cons _ List.Sublist.slnil)))
    refine ⟨(k + 1, _, _, _, _), ⟨rfl, eqI (by omega), rfl, trivial⟩, ⟨hz, by omega, by rw [List.length_append]; simp [yl], by omega, by omega⟩, by dsimp only; omega⟩
  · refine W_exit ?_
    refine W_seq ?_
    refine W_reg ?_
    refine s_val (wn rfl) rfl rfl (py_move rfl) (s_val (wn rfl) rfl rfl (py_assign rfl) ?_)
    refine s_nil ?_
    refine W_ret (hQ _ _ (fin1 Try.results91 rfl ?_))
    obtain ⟨qa, qc, qq⟩ := own_slice (H2.mine 1 rfl)
    cases qq
    exact ⟨_, by omega, ⟨H2.ext, H2.box 0 rfl⟩, _, _, _, rfl, by omega, H2.outB 0 rfl 1 rfl rfl⟩
theorem Try_spec_l1Source {w : World} {code : List UInt8} {codeA : Option Addr} {codeC : Nat} (codeS : Sees w [.slice codeA code.length codeC] code) : Ret Try.prog 88 #[.slice codeA code.length codeC] w fun v w' => Ext No w w' ∧ (∃ b, v = .pointer (some ⟨b, 0, none⟩) ∧ w'.heap[b]? = some (.cells [.slice codeA code.length codeC, .int .i64 0].toArray 159) ∧ w.heap.size ≤ b) := by
  have codeL := sees_len codeS
  unfold maxLen at codeL
  obtain ⟨codeF, codeO⟩ := codeS
  refine ret_Q (vs := [.slice codeA code.length codeC]) Try.func88 rfl Try.ntmps88 rfl (fun Q hQ hN => ?_)
  have H0 := Sep.start (w := w) (F := [seen false [.slice codeA code.length codeC] code codeF]) (all_cons codeO (by simp))
  refine W_seq ?_
  refine W_reg ?_
  refine s_val (wn rfl) rfl rfl (py_assign rfl) ?_
  refine s_nil ?_
  refine W_seq ?_
  refine W_reg ?_
  refine s_val (wn rfl) rfl rfl (py_move rfl) (s_val (wn rfl) rfl rfl (py_buildS Try_pl159 rfl rfl) ?_)
  refine s_box (wn rfl) rfl rfl H0 (fun b1 w1 e1 g1 H1 => ?_)
  refine s_val (wn rfl) rfl rfl (py_assign rfl) ?_
  refine s_nil ?_
  refine W_ret (hQ _ _ (fin1 Try.results88 rfl ?_))
  exact ⟨H1.ext, _, rfl, H1.box 0 rfl, H1.freshD 0 rfl _ (by simp [Wk.box])⟩
theorem Try_spec_DrawEncodeRow {w : World} {code : List UInt8} {codeA : Option Addr} {codeC : Nat} (codeS : Sees w [.slice codeA code.length codeC] code) (hcl : code.length ≤ 1048576) : Ret Try.prog 39 #[.slice codeA code.length codeC] w fun v w' => Ext No w w' ∧ (∃ (x y : Int) (xs : List UInt8) (A : Option Addr) (C : Nat), v = .tuple #[.int .i64 x, .int .i64 y, .slice A xs.length C] ∧ (-1 ≤ x ∧ x ≤ 4 ∧ -1 ≤ y ∧ y ≤ 3 ∧ xs.length ≤ 100) ∧ Res w w' [.slice A xs.length C] xs) := by
  have codeL := sees_len codeS
  unfold maxLen at codeL
  obtain ⟨codeF, codeO⟩ := codeS
  refine ret_Q (vs := [.slice codeA code.length codeC]) Try.func39 rfl Try.ntmps39 rfl (fun Q hQ hN => ?_)
  have H0 := Sep.start (w := w) (F := [seen false [.slice codeA code.length codeC] code codeF]) (all_cons codeO (by simp))
  refine W_seq ?_
  refine W_reg ?_
  refine s_val (wn rfl) rfl rfl (py_assign rfl) (s_val (wn rfl) rfl rfl (py_assign rfl) (s_val (wn rfl) rfl rfl (py_assign rfl) ?_))
  refine s_nil ?_
  refine W_seq ?_
  refine W_reg ?_
  refine s_val (wn rfl) rfl rfl (py_move rfl) ?_
  refine s_call (wn rfl) rfl rfl (pc_call Try.func88 rfl Try_nm88 rfl) (Try_spec_l1Source (H0.sees 0 rfl)) (fun v1 w1 r1 => ?_)
  obtain ⟨e1, sb0, rfl, hb0, sf0⟩ := r1
  have H1 := H0.newBox e1 hb0 sf0
  try dsimp only [List.nil_append, List.cons_append, List.set_cons_zero, List.set_cons_succ] at H1
  refine s_val (wn rfl) rfl rfl (py_assign rfl) ?_
  refine s_nil ?_
  refine W_seq ?_
  refine W_reg ?_
  refine s_val (wn rfl) rfl rfl (py_move rfl) ?_
  refine s_call (wn rfl) rfl rfl (pc_call Try.func89 rfl Try_nm89 rfl) (Try_spec_l2Sides (H1.box 0 rfl) (own_weak (H1.seen 0 rfl)) (H1.offb 0 rfl 0 rfl) (by omega) (by omega)) (fun v2 w2 r2 => ?_)
  obtain ⟨ct1, cb1, ⟨e2, hb1⟩, sx, sy, rfl, sb⟩ := r2
  have H2 := H1.putBox 0 rfl e2 hb1
  try dsimp only [List.nil_append, List.cons_append, List.set_cons_zero, List.set_cons_succ] at H2
  refine s_val (wn rfl) rfl rfl (py_move rfl) (s_val (wn rfl) rfl rfl (py_extr rfl rfl) (s_val (wn rfl) rfl rfl (py_extr rfl rfl) (s_val (wn rfl) rfl rfl (py_assign rfl) (s_val (wn rfl) rfl rfl (py_assign rfl) ?_))))
  refine s_nil ?_
  refine W_seq ?_
  refine W_reg ?_
  refine s_val (wn rfl) rfl rfl (py_move rfl) (s_val (wn rfl) rfl rfl (py_move rfl) ?_)
  refine s_call (wn rfl) rfl rfl (pc_call Try.func90 rfl Try_nm90 rfl) Try_spec_l2Good (fun v3 w3 r3 => ?_)
  obtain ⟨e3, gx, gy, rfl, gb⟩ := r3
  have H3 := H2.to e3
  refine s_val (wn rfl) rfl rfl (py_move rfl) (s_val (wn rfl) rfl rfl (py_extr rfl rfl) (s_val (wn rfl) rfl rfl (py_extr rfl rfl) (s_val (wn rfl) rfl rfl (py_assign rfl) (s_val (wn rfl) rfl rfl (py_assign rfl) ?_))))
  refine s_nil ?_
  refine W_seq ?_
  refine W_reg ?_
  refine s_val (wn rfl) rfl rfl (py_move rfl) (s_val (wn rfl) rfl rfl (py_move rfl) (s_val (wn rfl) rfl rfl (py_move rfl) (s_val (wn rfl) rfl rfl (py_move rfl) (s_val (wn rfl) rfl rfl (py_mul rfl rfl (in64 ⟨by omega, by omega⟩)) (s_val (wn rfl) rfl rfl (py_move rfl) ?_)))))
  refine s_litI ([0, 0, 0, 0, 0, 0, 0, 1]) (wn rfl) rfl Try.underlying33 Try_ty2 rfl rfl (by intro x hx; unfold I64ok; simp only [List.mem_cons, List.not_mem_nil, or_false] at hx; omega) (by simp) (by simp) H3 (fun b1 w4 e4 g1 H4 => ?_)
  refine s_call (wn rfl) rfl rfl (pc_call Try.func92 rfl Try_nm92 rfl) (Try_spec_l1Pick (H4.box 0 rfl) (own_weak (H4.seen 0 rfl)) (H4.offb 0 rfl 0 rfl) (by omega) (by omega) (own_weak (H4.mine 1 rfl)) (fun x hx e => H4.apart (i := 0) (j := 1) rfl rfl rfl x hx (by simp [Wk.box, e])) (by simp)) (fun v4 w5 r4 => ?_)
  obtain ⟨⟨e5, hb1⟩, nx1, rfl, ny1⟩ := r4
  have H5 := H4.putBox 0 rfl e5 hb1
  try dsimp only [List.nil_append, List.cons_append, List.set_cons_zero, List.set_cons_succ] at H5
  try simp only [List.mem_cons, List.not_mem_nil, or_false] at ny1
  refine s_val (wn rfl) rfl rfl (py_add rfl rfl (in64 ⟨by omega, by omega⟩)) ?_
  refine s_call (wn rfl) rfl rfl (pc_call Try.func91 rfl Try_nm91 rfl) (Try_spec_l1Some (H5.box 0 rfl) (own_weak (H5.seen 0 rfl)) (H5.offb 0 rfl 0 rfl) (by omega) (by omega) ⟨(Int.toNat_of_nonneg (by omega)).symm, by omega⟩) (fun v5 w6 r5 => ?_)
  obtain ⟨ct2, cb2, ⟨e6, hb2⟩, bys, bA, bC, rfl, bl, br⟩ := r5
  obtain ⟨bfp, H7⟩ := H5.resBox 0 rfl e6 hb2 br
  try dsimp only [List.nil_append, List.cons_append, List.set_cons_zero, List.set_cons_succ] at H7
  refine s_val (wn rfl) rfl rfl (py_assign rfl) (s_val (wn rfl) rfl rfl (py_assign rfl) (s_val (wn rfl) rfl rfl (py_assign rfl) ?_))
  refine s_nil ?_
  refine W_ret (hQ _ _ (fin3 Try.results39 rfl rfl rfl ?_))
  exact ⟨H7.ext, _, _, _, _, _, rfl, by omega, H7.out 2 rfl⟩
theorem Try_laws_lwBig {w : World} {code : List UInt8} {codeA : Option Addr} {codeC : Nat} (codeS : Sees w [.slice codeA code.length codeC] code) : Ret Try.prog 38 #[.slice codeA code.length codeC] w fun v w' => Ext No w w' ∧ (v = .bool (decide (1048576 < (code.length : Int)))) := by
  have codeL := sees_len codeS
  unfold maxLen at codeL
  obtain ⟨codeF, codeO⟩ := codeS
  refine ret_Q (vs := [.slice codeA code.length codeC]) Try.func38 rfl Try.ntmps38 rfl (fun Q hQ hN => ?_)
  have H0 := Sep.start (w := w) (F := [seen false [.slice codeA code.length codeC] code codeF]) (all_cons codeO (by simp))
  refine W_seq ?_
  refine W_reg ?_
  refine s_val (wn rfl) rfl rfl (py_assign rfl) ?_
  refine s_nil ?_
  refine W_seq ?_
  refine W_reg ?_
  refine s_val (wn rfl) rfl rfl (py_move rfl) (s_val (wn rfl) rfl rfl (py_len Try.underlying34 rfl) (s_val (wn rfl) rfl rfl (py_gtr rfl rfl) (s_val (wn rfl) rfl rfl (py_assign rfl) ?_)))
  refine s_nil ?_
  refine W_ret (hQ _ _ (fin1 Try.results38 rfl ?_))
  exact ⟨H0.ext, rfl⟩
theorem Try_laws_lwAt {w : World} {code : List UInt8} {codeA : Option Addr} {codeC : Nat} {i : Int} {n : Int} (codeS : Sees w [.slice codeA code.length codeC] code) (hi : 0 ≤ i ∧ i ≤ 1000000) (hn : n ≤ 1000) : Ret Try.prog 40 #[.slice codeA code.length codeC, .int .i64 i, .int .i64 n] w fun v w' => Ext No w w' ∧ (∃ x : Int, v = .int .i64 x ∧ 0 ≤ x ∧ (x < n ∨ x = 0)) := by
  have codeL := sees_len codeS
  unfold maxLen at codeL
  obtain ⟨codeF, codeO⟩ := codeS
  refine ret_Q (vs := [.slice codeA code.length codeC, .int .i64 i, .int .i64 n]) Try.func40 rfl Try.ntmps40 rfl (fun Q hQ hN => ?_)
  have H0 := Sep.start (w := w) (F := [seen false [.slice codeA code.length codeC] code codeF]) (all_cons codeO (by simp))
  refine W_seq ?_
  refine W_reg ?_
  refine s_val (wn rfl) rfl rfl (py_assign rfl) ?_
  refine s_nil ?_
  refine W_seq ?_
  refine W_reg ?_
  refine s_val (wn rfl) rfl rfl (py_move rfl) (s_val (wn rfl) rfl rfl (py_len Try.underlying34 rfl) (s_val (wn rfl) rfl rfl (py_assign rfl) ?_))
  refine s_nil ?_
  refine W_seq ?_
  refine W_seq ?_
  refine W_reg ?_
  refine s_val (wn rfl) rfl rfl (py_move rfl) (s_val (wn rfl) rfl rfl (py_leq rfl rfl) ?_)
  refine s_nil ?_
  refine W_ifd rfl (fun c1 => ?_) (fun c1 => ?_)
  · refine W_seq ?_
    refine W_reg ?_
    refine s_val (wn rfl) rfl rfl (py_assign rfl) ?_
    refine s_nil ?_
    refine W_ret (hQ _ _ (fin1 Try.results40 rfl ?_))
    exact ⟨H0.ext, 0, rfl, by omega, .inr rfl⟩
  · refine W_skip ?_
    refine W_seq ?_
    refine W_seq ?_
    refine W_reg ?_
    refine s_val (wn rfl) rfl rfl (py_move rfl) (s_val (wn rfl) rfl rfl (py_eql rfl rfl) ?_)
    refine s_nil ?_
    refine W_ifd rfl (fun c2 => ?_) (fun c2 => ?_)
    · refine W_seq ?_
      refine W_reg ?_
      refine s_val (wn rfl) rfl rfl (py_move rfl) (s_val (wn rfl) rfl rfl (py_mul rfl rfl (in64 ⟨by omega, by omega⟩)) (s_val (wn rfl) rfl rfl (py_move rfl) (s_val (wn rfl) rfl rfl (py_rem rfl rfl (by omega)) (s_val (wn rfl) rfl rfl (py_assign rfl) ?_))))
      refine s_nil ?_
      refine W_ret (hQ _ _ (fin1 Try.results40 rfl ?_))
      have m9 := tmod_bd (a := i * 7) (b := n) (by omega) (by omega)
      exact ⟨H0.ext, _, rfl, by omega, .inl (by omega)⟩
    · refine W_skip ?_
      refine W_seq ?_
      have m1 := tmod_bd (a := i) (b := (code.length : Int)) (by omega) (by omega)
      have q1 := tdiv_bd (a := i) (b := (code.length : Int)) (by omega) (by omega)
      have u1 := (code.getD (i.tmod code.length).toNat 0).toNat_lt
      obtain ⟨eb1, eo1, ee1, ec1⟩ := elem_u8 (H0.seen 0 rfl) (i.tmod code.length).toNat (by omega)
      refine W_drw (S := Ext No _) [(0, true), (1, true), (2, true), (3, true), (4, true), (5, true), (6, true), (7, true), (8, true), (9, true), (10, true), (11, true), (12, false)] (by kernel_rfl) (by kernel_rfl) (by kernel_rfl) rfl (fun _ => Ext.refl.drawn _) (fun q1 => ?_)
      have H1 := H0.drawn q1
      refine d_val rfl (wn rfl) rfl rfl (fun zw hx => py_move rfl) (d_val rfl (wn rfl) rfl rfl (fun zw hx => py_move rfl) (d_val rfl (wn rfl) rfl rfl (fun zw hx => py_move rfl) (d_val rfl (wn rfl) rfl rfl (fun zw hx => py_rem rfl rfl (by omega)) (d_val rfl (wn rfl) rfl rfl (fun zw hx => py_elz Try.underlying34 Try.sizeOf5 rfl rfl ee1 (i.tmod code.length).toNat (by omega) (by omega)) (d_val rfl (wn rfl) rfl rfl (fun zw hx => py_load Try.underlying5 rfl rfl (hx.cell ec1)) (d_val rfl (wn rfl) rfl rfl (fun zw hx => py_conv Try.underlying5 Try.underlying2 rfl (in64 ⟨by omega, by omega⟩)) (d_val rfl (wn rfl) rfl rfl (fun zw hx => py_move rfl) (d_val rfl (wn rfl) rfl rfl (fun zw hx => py_move rfl) (d_val rfl (wn rfl) rfl rfl (fun zw hx => py_quo rfl rfl (by omega) (in64 ⟨by omega, by omega⟩)) (d_val rfl (wn rfl) rfl rfl (fun zw hx => py_mul rfl rfl (in64 ⟨by omega, by omega⟩)) (d_val rfl (wn rfl) rfl rfl (fun zw hx => py_add rfl rfl (in64 ⟨by omega, by omega⟩)) (d_end rfl (wn rfl) rfl rfl (py_assign rfl) ?_))))))))))))
      refine d_nil ?_
      refine W_seq ?_
      refine W_seq ?_
      refine W_reg ?_
      refine s_val (wn rfl) rfl rfl (py_move rfl) (s_val (wn rfl) rfl rfl (py_gtr rfl rfl) ?_)
      refine s_nil ?_
      refine W_ifd rfl (fun c3 => ?_) (fun c3 => ?_)
      · have m2 := tmod_bd (a := i + 1) (b := (code.length : Int)) (by omega) (by omega)
        have u2 := (code.getD ((i + 1).tmod code.length).toNat 0).toNat_lt
        obtain ⟨eb2, eo2, ee2, ec2⟩ := elem_u8 (H1.seen 0 rfl) ((i + 1).tmod code.length).toNat (by omega)
        refine W_reg ?_
        refine s_val (wn rfl) rfl rfl (py_move rfl) (s_val (wn rfl) rfl rfl (py_mul rfl rfl (in64 ⟨by omega, by omega⟩)) (s_val (wn rfl) rfl rfl (py_move rfl) (s_val (wn rfl) rfl rfl (py_move rfl) (s_val (wn rfl) rfl rfl (py_add rfl rfl (in64 ⟨by omega, by omega⟩)) (s_val (wn rfl) rfl rfl (py_move rfl) (s_val (wn rfl) rfl rfl (py_rem rfl rfl (by omega)) (s_val (wn rfl) rfl rfl (py_elz Try.underlying34 Try.sizeOf5 rfl rfl ee2 ((i + 1).tmod code.length).toNat (by omega) (by omega)) (s_val (wn rfl) rfl rfl (py_load Try.underlying5 rfl rfl ec2) (s_val (wn rfl) rfl rfl (py_conv Try.underlying5 Try.underlying2 rfl (in64 ⟨by omega, by omega⟩)) (s_val (wn rfl) rfl rfl (py_add rfl rfl (in64 ⟨by omega, by omega⟩)) (s_val (wn rfl) rfl rfl (py_assign rfl) ?_)))))))))))
        refine s_nil ?_
        refine W_seq ?_
        refine W_reg ?_
        refine s_val (wn rfl) rfl rfl (py_move rfl) (s_val (wn rfl) rfl rfl (py_move rfl) (s_val (wn rfl) rfl rfl (py_rem rfl rfl (by omega)) (s_val (wn rfl) rfl rfl (py_assign rfl) ?_)))
        refine s_nil ?_
        refine W_ret (hQ _ _ (fin1 Try.results40 rfl ?_))
        exact ⟨H1.ext, _, rfl, (tmod_bd (by omega) (by omega)).1, .inl (tmod_bd (by omega) (by omega)).2⟩
      · refine W_skip ?_
        refine W_seq ?_
        refine W_reg ?_
        refine s_val (wn rfl) rfl rfl (py_move rfl) (s_val (wn rfl) rfl rfl (py_move rfl) (s_val (wn rfl) rfl rfl (py_rem rfl rfl (by omega)) (s_val (wn rfl) rfl rfl (py_assign rfl) ?_)))
        refine s_nil ?_
        refine W_ret (hQ _ _ (fin1 Try.results40 rfl ?_))
        exact ⟨H1.ext, _, rfl, (tmod_bd (by omega) (by omega)).1, .inl (tmod_bd (by omega) (by omega)).2⟩
theorem Try_laws_lwBytes {w : World} {xs : List UInt8} {xsA : Option Addr} {xsC : Nat} {ys : List UInt8} {ysA : Option Addr} {ysC : Nat} (xsS : Sees w [.slice xsA xs.length xsC] xs) (ysS : Sees w [.slice ysA ys.length ysC] ys) : Ret Try.prog 43 #[.slice xsA xs.length xsC, .slice ysA ys.length ysC] w fun v w' => Ext No w w' ∧ (v = .bool (decide (xs = ys))) := by
  have xsL := sees_len xsS
  unfold maxLen at xsL
  obtain ⟨xsF, xsO⟩ := xsS
  have ysL := sees_len ysS
  unfold maxLen at ysL
  obtain ⟨ysF, ysO⟩ := ysS
  refine ret_Q (vs := [.slice xsA xs.length xsC, .slice ysA ys.length ysC]) Try.func43 rfl Try.ntmps43 rfl (fun Q hQ hN => ?_)
  have H0 := Sep.start (w := w) (F := [seen false [.slice xsA xs.length xsC] xs xsF, seen false [.slice ysA ys.length ysC] ys ysF]) (all_cons xsO (all_cons ysO (by simp)))
  refine W_seq ?_
  refine W_reg ?_
  refine s_val (wn rfl) rfl rfl (py_assign rfl) ?_
  refine s_nil ?_
  refine W_seq ?_
  refine W_seq ?_
  refine W_reg ?_
  refine s_val (wn rfl) rfl rfl (py_move rfl) (s_val (wn rfl) rfl rfl (py_len Try.underlying34 rfl) (s_val (wn rfl) rfl rfl (py_move rfl) (s_val (wn rfl) rfl rfl (py_len Try.underlying34 rfl) (s_val (wn rfl) rfl rfl (py_neq rfl rfl) ?_))))
  refine s_nil ?_
  refine W_ifd rfl (fun c1 => ?_) (fun c1 => ?_)
  · refine W_seq ?_
    refine W_reg ?_
    refine s_val (wn rfl) rfl rfl (py_assign rfl) ?_
    refine s_nil ?_
    refine W_ret (hQ _ _ (fin1 Try.results43 rfl ?_))
    refine ⟨H0.ext, ?_⟩
    rw [decide_eq_false (fun e => by subst e; exact c1 rfl)]
  · refine W_skip ?_
    refine W_seq ?_
    refine W_seq ?_
    refine W_reg ?_
    refine s_val (wn rfl) rfl rfl (py_assign rfl) ?_
    refine s_nil ?_
    refine W_block ?_
    refine W_loop (γ := Nat) (fun k => [(0, .slice xsA xs.length xsC), (1, .slice ysA ys.length ysC), (5, .int .i64 k)]) (fun k w' => Sep No w [] [seen false [.slice xsA xs.length xsC] xs xsF, seen false [.slice ysA ys.length ysC] ys ysF] w' ∧ k ≤ xs.length ∧ (∀ i, i < k → xs.getD i 0 = ys.getD i 0)) (fun k => xs.length - k) 0 ⟨rfl, rfl, rfl, trivial⟩ ⟨H0, by omega, fun i hi => by omega⟩ (fun k w1 H1 => ?_)
    obtain ⟨H1, hk, he⟩ := H1
    refine W_seq ?_
    refine W_seq ?_
    refine W_reg ?_
    refine s_val (wn rfl) rfl rfl (py_move rfl) (s_val (wn rfl) rfl rfl (py_move rfl) (s_val (wn rfl) rfl rfl (py_len Try.underlying34 rfl) (s_val (wn rfl) rfl rfl (py_lss rfl rfl) ?_)))
    refine s_nil ?_
    refine W_ifd rfl (fun c2 => ?_) (fun c2 => ?_)
    · refine W_skip ?_
      refine W_seq ?_
      refine W_block ?_
      refine W_seq ?_
      obtain ⟨eb1, eo1, ee1, ec1⟩ := elem_u8 (H1.seen 0 rfl) k (by omega)
      obtain ⟨eb2, eo2, ee2, ec2⟩ := elem_u8 (H1.seen 1 rfl) k (by omega)
      refine W_drw (S := Ext No _) [(0, true), (1, true), (2, true), (3, true), (4, true), (5, true), (6, true), (7, true), (8, false)] (by kernel_rfl) (by kernel_rfl) (by kernel_rfl) rfl (fun _ => Ext.refl.drawn _) (fun q1 => ?_)
      have H2 := H1.drawn q1
      refine d_val rfl (wn rfl) rfl rfl (fun zw hx => py_move rfl) (d_val rfl (wn rfl) rfl rfl (fun zw hx => py_move rfl) (d_val rfl (wn rfl) rfl rfl (fun zw hx => py_elz Try.underlying34 Try.sizeOf5 rfl rfl ee1 k (by omega) (by omega)) (d_val rfl (wn rfl) rfl rfl (fun zw hx => py_load Try.underlying5 rfl rfl (hx.cell ec1)) (d_val rfl (wn rfl) rfl rfl (fun zw hx => py_move rfl) (d_val rfl (wn rfl) rfl rfl (fun zw hx => py_move rfl) (d_val rfl (wn rfl) rfl rfl (fun zw hx => py_elz Try.underlying34 Try.sizeOf5 rfl rfl ee2 k (by omega) (by omega)) (d_val rfl (wn rfl) rfl rfl (fun zw hx => py_load Try.underlying5 rfl rfl (hx.cell ec2)) (d_end rfl (wn rfl) rfl rfl (py_neq rfl rfl) ?_))))))))
      refine d_nil ?_
      refine W_ifd rfl (fun c3 => ?_) (fun c3 => ?_)
      · refine W_seq ?_
        refine W_reg ?_
        refine s_val (wn rfl) rfl rfl (py_assign rfl) ?_
        refine s_nil ?_
        refine W_ret (hQ _ _ (fin1 Try.results43 rfl ?_))
        refine ⟨H2.ext, ?_⟩
        rw [decide_eq_false (fun e => by subst e; exact c3 rfl)]
      · refine W_skip ?_
        refine W_reg ?_
        refine s_val (wn rfl) rfl rfl (py_move rfl) (s_val (wn rfl) rfl rfl (py_add rfl rfl (in64 ⟨by omega, by omega⟩)) (s_val (wn rfl) rfl rfl (py_assign rfl) ?_))
        refine s_nil ?_
        have c4 : xs.getD k 0 = ys.getD k 0 := by apply u8_inj.1; omega
        refine ⟨k + 1, ⟨rfl, rfl, rfl, trivial⟩, ⟨H2, by omega, fun i hi => ?_⟩, by dsimp only; omega⟩
        by_cases e : i = k
        · subst e; exact c4
        · exact he i (by omega)
    · refine W_exit ?_
      refine W_seq ?_
      refine W_reg ?_
      refine s_val (wn rfl) rfl rfl (py_assign rfl) ?_
      refine s_nil ?_
      refine W_ret (hQ _ _ (fin1 Try.results43 rfl ?_))
      refine ⟨H1.ext, ?_⟩
      rw [decide_eq_true (getD_ext (d := 0) (by omega) fun i hi => he i (by omega))]
theorem Try_slices_Clone_byte_byte {w : World} {xs : List UInt8} {xsA : Option Addr} {xsC : Nat} (xsS : Sees w [.slice xsA xs.length xsC] xs) (hl : xs.length ≤ 100000000) : Ret Try.prog 154 #[.slice xsA xs.length xsC] w fun v w' => Ext No w w' ∧ (Res w w' [v] xs) := by
  have xsL := sees_len xsS
  unfold maxLen at xsL
  obtain ⟨xsF, xsO⟩ := xsS
  refine ret_Q (vs := [.slice xsA xs.length xsC]) Try.func154 rfl Try.ntmps154 rfl (fun Q hQ hN => ?_)
  have H0 := Sep.start (w := w) (F := [seen false [.slice xsA xs.length xsC] xs xsF]) (all_cons xsO (by simp))
  refine W_seq ?_
  refine W_reg ?_
  refine s_val (wn rfl) rfl rfl (py_assign rfl) ?_
  refine s_nil ?_
  refine W_seq ?_
  refine W_seq ?_
  refine W_reg ?_
  refine s_val (wn rfl) rfl rfl (py_move rfl) (s_val (wn rfl) rfl rfl (py_slnil Try.underlying34 rfl rfl) ?_)
  refine s_nil ?_
  refine W_if rfl (fun c1 => ?_) (fun c1 => ?_)
  · refine W_seq ?_
    refine W_reg ?_
    refine s_val (wn rfl) rfl rfl (py_assign rfl) ?_
    refine s_nil ?_
    refine W_ret (hQ _ _ (fin1 Try.results154 rfl ?_))
    have e : xs = [] := own_none xsO c1
    exact ⟨H0.ext, e ▸ ⟨[], .inr (.inl ⟨rfl, rfl, rfl⟩), .nil, by simp⟩⟩
  · refine W_skip ?_
    refine W_seq ?_
    refine W_reg ?_
    refine s_lit0 (α := UInt8) (wn rfl) rfl Try.underlying34 Try_ty5 H0 (fun b1 w1 e1 g1 H1 => ?_)
    refine s_val (wn rfl) rfl rfl (py_move rfl) ?_
    refine s_appF (wn rfl) rfl Try.underlying34 Try_ty5 rfl rfl rfl H1 0 rfl (H1.seen 0 rfl) (by (try simp only [List.length_nil]); unfold maxLen; omega) (by (try simp only [List.length_nil]); omega) (fun v1 w2 fp1 H2 => ?_)
    refine s_val (wn rfl) rfl rfl (py_assign rfl) ?_
    refine s_nil ?_
    refine W_ret (hQ _ _ (fin1 Try.results154 rfl ?_))
    exact ⟨H2.ext, by
      have h := H2.out 0 rfl
      rwa [List.nil_append] at h⟩
theorem Try_impl_sum {w : World} {xs : List UInt8} {xsA : Option Addr} {xsC : Nat} {ys : List UInt8} {ysA : Option Addr} {ysC : Nat} {c : UInt8} (xsS : Sees w [.slice xsA xs.length xsC] xs) (ysS : Sees w [.slice ysA ys.length ysC] ys) (hl : xs.length = ys.length ∧ xs.length ≤ 100000) : Ret Try.prog 95 #[.slice xsA xs.length xsC, .slice ysA ys.length ysC, .int .u8 c.toNat] w fun v w' => Ext No w w' ∧ (Res w w' [v] (addG xs (scaleG ys c))) := by
  have xsL := sees_len xsS
  unfold maxLen at xsL
  obtain ⟨xsF, xsO⟩ := xsS
  have ysL := sees_len ysS
  unfold maxLen at ysL
  obtain ⟨ysF, ysO⟩ := ysS
  refine ret_Q (vs := [.slice xsA xs.length xsC, .slice ysA ys.length ysC, .int .u8 c.toNat]) Try.func95 rfl Try.ntmps95 rfl (fun Q hQ hN => ?_)
  have H0 := Sep.start (w := w) (F := [seen false [.slice xsA xs.length xsC] xs xsF, seen false [.slice ysA ys.length ysC] ys ysF]) (all_cons xsO (all_cons ysO (by simp)))
  refine W_seq ?_
  refine W_reg ?_
  refine s_val (wn rfl) rfl rfl (py_assign rfl) ?_
  refine s_nil ?_
  refine W_seq ?_
  refine W_reg ?_
  refine s_val (wn rfl) rfl rfl (py_move rfl) ?_
  refine s_call (wn rfl) rfl rfl (pc_call Try.func154 rfl Try_nm154 rfl) (Try_slices_Clone_byte_byte (H0.sees 0 rfl) (by omega)) (fun v1 w1 r1 => ?_)
  obtain ⟨e1, r1⟩ := r1
  obtain ⟨fp1, H1⟩ := H0.res e1 r1
  obtain ⟨a1, k1, q1⟩ := own_slice (H1.mine 0 rfl)
  cases q1
  refine s_val (wn rfl) rfl rfl (py_assign rfl) ?_
  refine s_nil ?_
  refine W_seq ?_
  refine W_reg ?_
  refine s_val (wn rfl) rfl rfl (py_move rfl) (s_val (wn rfl) rfl rfl (py_move rfl) (s_val (wn rfl) rfl rfl (py_move rfl) ?_))
  refine s_call (wn rfl) rfl rfl (pc_call Try.func94 rfl Try_nm94 rfl) (Try_impl_put (H1.mine 0 rfl) (H1.nodup1 (i := 0) rfl) (own_weak (H1.seen 1 rfl)) (fun b hb => H1.off 1 rfl 0 rfl hb) (by first | assumption | omega)) (fun v2 w2 r2 => ?_)
  obtain ⟨fp2, H2⟩ := H1.mut 0 rfl r2
  refine s_nil ?_
  refine W_seq ?_
  refine W_reg ?_
  refine s_val (wn rfl) rfl rfl (py_move rfl) (s_val (wn rfl) rfl rfl (py_assign rfl) ?_)
  refine s_nil ?_
  refine W_ret (hQ _ _ (fin1 Try.results95 rfl ?_))
  exact ⟨H2.ext, H2.out 0 rfl⟩
theorem Try_impl_AddBytes {w : World} {xs : List UInt8} {xsA : Option Addr} {xsC : Nat} {ys : List UInt8} {ysA : Option Addr} {ysC : Nat} (xsS : Sees w [.slice xsA xs.length xsC] xs) (ysS : Sees w [.slice ysA ys.length ysC] ys) (hl : xs.length = ys.length ∧ xs.length ≤ 4000) : Ret Try.prog 42 #[.slice xsA xs.length xsC, .slice ysA ys.length ysC] w fun v w' => Ext No w w' ∧ (∃ A1 C1, v = (⟨0, addG xs (scaleG ys 1)⟩ : BytesResult).val A1 C1 ∧ Res w w' [.int .i64 (⟨0, addG xs (scaleG ys 1)⟩ : BytesResult).Code, .slice A1 (⟨0, addG xs (scaleG ys 1)⟩ : BytesResult).Bytes.length C1] (⟨0, addG xs (scaleG ys 1)⟩ : BytesResult)) := by
  have xsL := sees_len xsS
  unfold maxLen at xsL
  obtain ⟨xsF, xsO⟩ := xsS
  have ysL := sees_len ysS
  unfold maxLen at ysL
  obtain ⟨ysF, ysO⟩ := ysS
  refine ret_Q (vs := [.slice xsA xs.length xsC, .slice ysA ys.length ysC]) Try.func42 rfl Try.ntmps42 rfl (fun Q hQ hN => ?_)
  have H0 := Sep.start (w := w) (F := [seen false [.slice xsA xs.length xsC] xs xsF, seen false [.slice ysA ys.length ysC] ys ysF]) (all_cons xsO (all_cons ysO (by simp)))
  refine W_seq ?_
  refine W_reg ?_
  refine s_var (wn rfl) rfl Try.zeroValue70 H0 (fun b1 w1 e1 g1 H1 => ?_)
  refine s_nil ?_
  refine W_seq ?_
  refine W_block ?_
  refine W_seq ?_
  refine W_reg ?_
  refine s_val (wn rfl) rfl rfl (py_move rfl) (s_val (wn rfl) rfl rfl (py_len Try.underlying34 rfl) (s_val (wn rfl) rfl rfl (py_move rfl) (s_val (wn rfl) rfl rfl (py_len Try.underlying34 rfl) (s_val (wn rfl) rfl rfl (py_neq rfl rfl) (s_val (wn rfl) rfl rfl (py_assign rfl) ?_)))))
  refine s_nil ?_
  refine W_ifd rfl (fun c1 => ?_) (fun c1 => ?_)
  · exact absurd c1 (by omega)
  · refine W_seq ?_
    refine W_reg ?_
    refine s_val (wn rfl) rfl rfl (py_move rfl) (s_val (wn rfl) rfl rfl (py_len Try.underlying34 rfl) (s_val (wn rfl) rfl rfl (py_gtr rfl rfl) (s_val (wn rfl) rfl rfl (py_assign rfl) ?_)))
    refine s_nil ?_
    refine W_ifd rfl (fun c2 => ?_) (fun c2 => ?_)
    · exact absurd c2 (by omega)
    · refine W_skip ?_
      refine W_seq ?_
      refine W_reg ?_
      refine s_val (wn rfl) rfl rfl (py_move rfl) (s_val (wn rfl) rfl rfl (py_move rfl) ?_)
      refine s_call (wn rfl) rfl rfl (pc_call Try.func95 rfl Try_nm95 rfl) (Try_impl_sum (H1.sees 0 rfl) (H1.sees 1 rfl) (by first | assumption | omega) (c := 1)) (fun v1 w2 r1 => ?_)
      obtain ⟨e2, r1⟩ := r1
      obtain ⟨fp1, H2⟩ := H1.res e2 r1
      obtain ⟨a1, k1, q1⟩ := own_slice (H2.mine 1 rfl)
      cases q1
      refine s_val (wn rfl) rfl rfl (py_buildS Try_pl70 rfl rfl) ?_
      refine s_stoS (wn rfl) Try.sizeOf70 rfl rfl rfl rfl H2 0 rfl rfl (fun w3 e3 H3 => ?_)
      dsimp only [List.nil_append, List.cons_append, List.set_cons_zero, List.set_cons_succ, layL] at H3
      refine s_nil ?_
      refine W_ret (hQ _ _ (finC Try.results42 rfl (run_loadVarS Try.underlying70 rfl Try.sizeOf70 rfl (At.whole (H3.box 0 rfl))) ?_))
      have hz := H3.sub (.cons _ (.cons_cons _ List.Sublist.slnil))
      obtain ⟨hn, hr⟩ := bytes_out (k := 0) hz (by unfold I64ok; omega)
      exact ⟨H3.ext, _, _, (by simp only [BytesResult.val, ← hn]; rfl), hr⟩
theorem Try_laws_FnRowSums {w : World} {code : List UInt8} {codeA : Option Addr} {codeC : Nat} (codeS : Sees w [.slice codeA code.length codeC] code) : Ret Try.prog 7 #[.slice codeA code.length codeC] w fun v w' => Ext No w w' ∧ (v = .bool true) := by
  have codeL := sees_len codeS
  unfold maxLen at codeL
  obtain ⟨codeF, codeO⟩ := codeS
  refine ret_Q (vs := [.slice codeA code.length codeC]) Try.func7 rfl Try.ntmps7 rfl (fun Q hQ hN => ?_)
  have H0 := Sep.start (w := w) (F := [seen false [.slice codeA code.length codeC] code codeF]) (all_cons codeO (by simp))
  refine W_seq ?_
  refine W_reg ?_
  refine s_val (wn rfl) rfl rfl (py_assign rfl) ?_
  refine s_nil ?_
  refine W_seq ?_
  refine W_seq ?_
  refine W_reg ?_
  refine s_val (wn rfl) rfl rfl (py_move rfl) ?_
  refine s_call (wn rfl) rfl rfl (pc_call Try.func38 rfl Try_nm38 rfl) (Try_laws_lwBig (H0.sees 0 rfl)) (fun v1 w1 r1 => ?_)
  obtain ⟨e1, rfl⟩ := r1
  have H1 := H0.to e1
  refine s_nil ?_
  refine W_ifd rfl (fun c1 => ?_) (fun c1 => ?_)
  · refine W_seq ?_
    refine W_reg ?_
    refine s_val (wn rfl) rfl rfl (py_assign rfl) ?_
    refine s_nil ?_
    refine W_ret (hQ _ _ (fin1 Try.results7 rfl ?_))
    exact ⟨H1.ext, rfl⟩
  · refine W_skip ?_
    refine W_seq ?_
    refine W_reg ?_
    refine s_val (wn rfl) rfl rfl (py_move rfl) ?_
    refine s_call (wn rfl) rfl rfl (pc_call Try.func39 rfl Try_nm39 rfl) (Try_spec_DrawEncodeRow (H1.sees 0 rfl) (by omega)) (fun v2 w2 r2 => ?_)
    obtain ⟨e2, dx, dy, dbs, dA, dC, rfl, db, dr⟩ := r2
    obtain ⟨dfp, H2⟩ := H1.res e2 dr
    refine s_val (wn rfl) rfl rfl (py_move rfl) (s_val (wn rfl) rfl rfl (py_extr rfl rfl) (s_val (wn rfl) rfl rfl (py_extr rfl rfl) (s_val (wn rfl) rfl rfl (py_extr rfl rfl) (s_val (wn rfl) rfl rfl (py_assign rfl) (s_val (wn rfl) rfl rfl (py_assign rfl) (s_val (wn rfl) rfl rfl (py_assign rfl) ?_))))))
    refine s_nil ?_
    refine W_seq ?_
    refine W_reg ?_
    refine s_val (wn rfl) rfl rfl (py_move rfl) (s_val (wn rfl) rfl rfl (py_move rfl) (s_val (wn rfl) rfl rfl (py_move rfl) ?_))
    refine s_call (wn rfl) rfl rfl (pc_call Try.func27 rfl Try_nm27 rfl) (Try_impl_EncodeRow (H2.msees 0 rfl)) (fun v3 w3 r3 => ?_)
    obtain ⟨e3, sa1, sk1, rfl, r3⟩ := r3
    obtain ⟨fp1, H3⟩ := H2.res e3 r3
    have H4 := H3.share 1 rfl
    obtain ⟨sf1, sq1, sok1, so1⟩ := own_BlocksResultC (H4.seen 1 rfl)
    have H6 := H4.look1 1 rfl so1 (fun b hb => by rw [sq1]; simp [hb])
    refine s_var (wn rfl) rfl Try.zeroValue45 H6 (fun b1 w4 e4 g1 H7 => ?_)
    refine s_stoS (wn rfl) Try.sizeOf45 rfl rfl rfl rfl H7 2 rfl rfl (fun w5 e5 H8 => ?_)
    dsimp only [List.nil_append, List.cons_append, List.set_cons_zero, List.set_cons_succ, layL] at H8
    refine s_nil ?_
    refine W_seq ?_
    refine W_seq ?_
    refine W_reg ?_
    refine s_val (wn rfl) rfl rfl (py_field Try.underlying45 rfl Try.sizeOf2 rfl rfl) (s_val (wn rfl) rfl rfl (py_load Try.underlying2 rfl rfl (cell_atL (H8.box 2 rfl) rfl)) (s_val (wn rfl) rfl rfl (py_neq rfl rfl) ?_))
    refine s_nil ?_
    refine W_ifd rfl (fun c2 => ?_) (fun c2 => ?_)
    · refine W_seq ?_
      refine W_drw (S := Ext No _) [(0, true), (1, true), (2, true), (5, true), (6, true), (3, false), (4, true), (7, true), (8, false)] (by kernel_rfl) (by kernel_rfl) (by kernel_rfl) rfl (fun _ => Ext.refl.drawn _) (fun q1 => ?_)
      have H9 := H8.drawn q1
      refine d_val rfl (wn rfl) rfl rfl (fun zw hx => py_move rfl) (d_val rfl (wn rfl) rfl rfl (fun zw hx => py_move rfl) (d_val rfl (wn rfl) rfl rfl (fun zw hx => py_move rfl) (d_val rfl (wn rfl) rfl rfl (fun zw hx => py_field Try.underlying45 rfl Try.sizeOf2 rfl rfl) (d_val rfl (wn rfl) rfl rfl (fun zw hx => py_load Try.underlying2 rfl rfl (cell_atL (hx.heap (H9.box 2 rfl)) rfl)) ?_))))
      refine d_call rfl (wn rfl) rfl rfl (pc_call Try.func25 rfl Try_nm25 rfl) (Try_spec_EncodeRow (H9.msees 0 rfl)) (fun hS _ _ r _ => hS.trans r.1.no) (fun v4 w6 r4 => ?_)
      obtain ⟨e6, sa2, sk2, rfl, r4⟩ := r4
      obtain ⟨fp2, H10, fr1⟩ := H9.resS e6 r4
      obtain ⟨sf2, sq2, sok2, so2⟩ := own_BlocksResultC (H10.seen 3 rfl)
      have H12 := H10.look1 3 rfl so2 (fun b hb => by rw [sq2]; simp [hb])
      refine d_val rfl (wn rfl) rfl rfl (fun zw hx => py_fld Try.underlying45 rfl Try.underlying2 rfl rfl rfl) (d_val rfl (wn rfl) rfl rfl (fun zw hx => py_eql rfl rfl) (d_end rfl (wn rfl) rfl rfl (py_assign rfl) ?_))
      refine d_nil ?_
      refine W_ret (hQ _ _ (fin1 Try.results7 rfl ?_))
      exact ⟨H12.ext, by simp⟩
    · refine W_skip ?_
      refine W_seq ?_
      refine W_reg ?_
      refine s_lit0 (α := UInt8) (wn rfl) rfl Try.underlying34 Try_ty5 H8 (fun b2 w7 e7 g2 H13 => ?_)
      refine s_val (wn rfl) rfl rfl (py_assign rfl) ?_
      refine s_nil ?_
      refine W_seq ?_
      refine W_seq ?_
      refine W_reg ?_
      refine s_val (wn rfl) rfl rfl (py_assign rfl) ?_
      refine s_nil ?_
      refine W_block ?_
      refine W_loop (γ := Nat × Value × List Nat × List UInt8) (fun (k, vo, f, ys) => [(0, .slice codeA code.length codeC), (3, .int .i64 dx), (4, .int .i64 dy), (5, .slice dA dbs.length dC), (6, .pointer (some ⟨b1, 0, none⟩)), (7, vo), (8, .int .i64 k)]) (fun (k, vo, f, ys) w' => Sep No w [mine [.slice dA dbs.length dC] dbs dfp, box b1 (.cells [.int .i64 (encodeRow dx dy dbs).Code, .slice sa1 (encodeRow dx dy dbs).Blocks.length sk1].toArray 45), mine [vo] ys f] _ w' ∧ k ≤ dbs.length ∧ ys.length = k) (fun (k, vo, f, ys) => dbs.length - k) (0, _, _, []) ⟨rfl, rfl, rfl, rfl, rfl, rfl, rfl, trivial⟩ ⟨H13.sub (.cons_cons _ (.cons _ (.cons_cons _ (.cons_cons _ List.Sublist.slnil)))), by omega, rfl⟩ (fun (k, vo, f, ys) w8 H14 => ?_)
      obtain ⟨H14, hk, yl⟩ := H14
      refine W_seq ?_
      refine W_seq ?_
      refine W_reg ?_
      refine s_val (wn rfl) rfl rfl (py_move rfl) (s_val (wn rfl) rfl rfl (py_move rfl) (s_val (wn rfl) rfl rfl (py_len Try.underlying34 rfl) (s_val (wn rfl) rfl rfl (py_lss rfl rfl) ?_)))
      refine s_nil ?_
      refine W_ifd rfl (fun c3 => ?_) (fun c3 => ?_)
      · refine W_skip ?_
        refine W_seq ?_
        refine W_block ?_
        refine W_reg ?_
        refine s_val (wn rfl) rfl rfl (py_move rfl) (s_val (wn rfl) rfl rfl (py_move rfl) (s_val (wn rfl) rfl rfl (py_move rfl) (s_val (wn rfl) rfl rfl (py_add rfl rfl (in64 ⟨by omega, by omega⟩)) ?_)))
        refine s_call (wn rfl) rfl rfl (pc_call Try.func40 rfl Try_nm40 rfl) (Try_laws_lwAt (H14.sees 0 rfl) (by omega) (by omega)) (fun v5 w9 r5 => ?_)
        obtain ⟨e8, ax1, rfl, ay1⟩ := r5
        have H15 := H14.to e8
        refine s_val (wn rfl) rfl rfl (py_conv8 Try.underlying2 Try.underlying5 rfl) ?_
        refine s_lit1 (wn rfl) rfl Try.underlying34 Try_ty5 rfl rfl rfl rfl H15 (fun b3 w10 e9 g3 H16 => ?_)
        refine s_app1 (wn rfl) rfl Try.underlying34 Try_ty5 rfl rfl rfl H16 2 3 rfl rfl own_b8 (by unfold maxLen; omega) (by omega) (fun v6 w11 fp3 H17 => ?_)
        refine s_val (wn rfl) rfl rfl (py_assign rfl) ?_
        refine s_nil ?_
        refine W_reg ?_
        refine s_val (wn rfl) rfl rfl (py_move rfl) (s_val (wn rfl) rfl rfl (py_add rfl rfl (in64 ⟨by omega, by omega⟩)) (s_val (wn rfl) rfl rfl (py_assign rfl) ?_))
        refine s_nil ?_
        have hz := H17.sub (.cons_cons _ (.cons_cons _ (.cons_cons _ (.cons _ List.Sublist.slnil))))
        refine ⟨(k + 1, _, _, _), ⟨rfl, rfl, rfl, rfl, rfl, rfl, rfl, trivial⟩, ⟨hz, by omega, by rw [List.length_append]; simp [yl]⟩, by dsimp only; omega⟩
      · refine W_exit ?_
        refine W_seq ?_
        obtain rfl : k = dbs.length := by omega
        have c0 : (encodeRow dx dy dbs).Code = 0 := by omega
        obtain ⟨hr, hl4⟩ := encodeRow_ok c0
        have hsh := shiftRow_enc (ys := scaleG ys 1) hr hl4 (by rw [scaleG_len]; omega)
        rw [show shiftRow dx dy (encodeRow dx dy dbs).Blocks (scaleG ys 1) = (shiftRow dx dy (encodeRow dx dy dbs).Blocks ys) by rw [scaleG_one]] at hsh
        have hbl := congrArg (fun r => r.Blocks.length) hsh
        have hbe : ∀ j, (shiftRow dx dy (encodeRow dx dy dbs).Blocks ys).Blocks.getD j [] = (encodeRow dx dy (addG dbs (scaleG ys 1))).Blocks.getD j [] := fun j => by rw [hsh]
        have h3 : (encodeRow dx dy (addG dbs (scaleG ys 1))) = ⟨0, encG dx.toNat (dx.toNat + dy.toNat) (addG dbs (scaleG ys 1))⟩ := encodeRow_full hr (by rw [addG_len (by rw [scaleG_len]; omega)]; exact hl4)
        have hc1 : (shiftRow dx dy (encodeRow dx dy dbs).Blocks ys).Code = 0 := by rw [hsh, h3]
        have hc2 : 0 < (encodeRow dx dy (addG dbs (scaleG ys 1))).Blocks.length := by rw [h3, encG_len]; have := rOK_bd hr; omega
        have hc4 : (encodeRow dx dy (addG dbs (scaleG ys 1))).Blocks.length ≤ 5 := by rw [h3, encG_len]; have := rOK_bd hr; omega
        refine W_reg ?_
        refine s_val (wn rfl) rfl rfl (py_move rfl) (s_val (wn rfl) rfl rfl (py_move rfl) (s_val (wn rfl) rfl rfl (py_field Try.underlying45 rfl Try.sizeOf43 rfl rfl) (s_val (wn rfl) rfl rfl (py_load Try.underlying43 rfl rfl (cell_atL (H14.box 1 rfl) rfl)) (s_val (wn rfl) rfl rfl (py_move rfl) ?_))))
        obtain ⟨a1, k1, q2⟩ := own_slice (H14.mine 2 rfl)
        cases q2
        refine s_call (wn rfl) rfl rfl (pc_call Try.func41 rfl Try_nm41 rfl) (Try_impl_ShiftRow (H14.sees 2 rfl) (H14.msees 2 rfl)) (fun v7 w12 r6 => ?_)
        obtain ⟨e10, sa3, sk3, rfl, r6⟩ := r6
        obtain ⟨fp4, H18⟩ := H14.res e10 r6
        have H19 := H18.share 3 rfl
        obtain ⟨sf3, sq3, sok3, so3⟩ := own_BlocksResultC (H19.seen 3 rfl)
        have H21 := H19.look1 3 rfl so3 (fun b hb => by rw [sq3]; simp [hb])
        refine s_var (wn rfl) rfl Try.zeroValue45 H21 (fun b4 w13 e11 g4 H22 => ?_)
        refine s_stoS (wn rfl) Try.sizeOf45 rfl rfl rfl rfl H22 4 rfl rfl (fun w14 e12 H23 => ?_)
        dsimp only [List.nil_append, List.cons_append, List.set_cons_zero, List.set_cons_succ, layL] at H23
        refine s_nil ?_
        refine W_seq ?_
        refine W_reg ?_
        refine s_val (wn rfl) rfl rfl (py_move rfl) (s_val (wn rfl) rfl rfl (py_move rfl) ?_)
        refine s_call (wn rfl) rfl rfl (pc_call Try.func42 rfl Try_nm42 rfl) (Try_impl_AddBytes (H23.msees 0 rfl) (H23.msees 2 rfl) (by omega)) (fun v8 w15 r7 => ?_)
        obtain ⟨e13, sa4, sk4, rfl, r7⟩ := r7
        obtain ⟨fp5, H24⟩ := H23.res e13 r7
        have H25 := H24.share 5 rfl
        obtain ⟨sf4, sq4, sok4, so4⟩ := own_BytesResultC (H25.seen 5 rfl)
        have H27 := H25.look1 5 rfl so4 (fun b hb => by rw [sq4]; simp [hb])
        refine s_var (wn rfl) rfl Try.zeroValue70 H27 (fun b5 w16 e14 g5 H28 => ?_)
        refine s_stoS (wn rfl) Try.sizeOf70 rfl rfl rfl rfl H28 6 rfl rfl (fun w17 e15 H29 => ?_)
        dsimp only [List.nil_append, List.cons_append, List.set_cons_zero, List.set_cons_succ, layL] at H29
        refine s_nil ?_
        refine W_seq ?_
        refine W_reg ?_
        refine s_val (wn rfl) rfl rfl (py_move rfl) (s_val (wn rfl) rfl rfl (py_move rfl) (s_val (wn rfl) rfl rfl (py_field Try.underlying70 rfl Try.sizeOf34 rfl rfl) (s_val (wn rfl) rfl rfl (py_load Try.underlying34 rfl rfl (cell_atL (H29.box 6 rfl) rfl)) ?_)))
        refine s_call (wn rfl) rfl rfl (pc_call Try.func27 rfl Try_nm27 rfl) (Try_impl_EncodeRow (H29.sees 6 rfl)) (fun v9 w18 r8 => ?_)
        obtain ⟨e16, sa5, sk5, rfl, r8⟩ := r8
        obtain ⟨fp6, H30⟩ := H29.res e16 r8
        have H31 := H30.share 7 rfl
        obtain ⟨sf5, sq5, sok5, so5⟩ := own_BlocksResultC (H31.seen 7 rfl)
        have H33 := H31.look1 7 rfl so5 (fun b hb => by rw [sq5]; simp [hb])
        refine s_val (wn rfl) rfl rfl (py_fld Try.underlying45 rfl Try.underlying43 rfl rfl rfl) (s_val (wn rfl) rfl rfl (py_assign rfl) ?_)
        refine s_nil ?_
        refine W_seq ?_
        refine W_seq ?_
        refine W_reg ?_
        refine s_val (wn rfl) rfl rfl (py_assign rfl) ?_
        refine s_nil ?_
        refine W_block ?_
        refine W_loop (γ := Nat) (fun k => [(9, .pointer (some ⟨b4, 0, none⟩)), (11, .slice sa5 (encodeRow dx dy (addG dbs (scaleG ys 1))).Blocks.length sk5), (12, .int .i64 k)]) (fun k w' => Sep No w [box b4 (.cells [.int .i64 (shiftRow dx dy (encodeRow dx dy dbs).Blocks ys).Code, .slice sa3 (shiftRow dx dy (encodeRow dx dy dbs).Blocks ys).Blocks.length sk3].toArray 45)] _ w' ∧ k ≤ (encodeRow dx dy (addG dbs (scaleG ys 1))).Blocks.length) (fun k => (encodeRow dx dy (addG dbs (scaleG ys 1))).Blocks.length - k) 0 ⟨rfl, rfl, rfl, trivial⟩ ⟨H33.sub (.cons _ (.cons _ (.cons _ (.cons _ (.cons_cons _ (.cons _ (.cons _ (.cons _ List.Sublist.slnil)))))))), by omega⟩ (fun k w19 H34 => ?_)
        obtain ⟨H34, hk2⟩ := H34
        refine W_seq ?_
        refine W_seq ?_
        refine W_reg ?_
        refine s_val (wn rfl) rfl rfl (py_move rfl) (s_val (wn rfl) rfl rfl (py_move rfl) (s_val (wn rfl) rfl rfl (py_len Try.underlying43 rfl) (s_val (wn rfl) rfl rfl (py_lss rfl rfl) ?_)))
        refine s_nil ?_
        refine W_ifd rfl (fun c4 => ?_) (fun c4 => ?_)
        · refine W_skip ?_
          refine W_seq ?_
          refine W_block ?_
          refine W_seq ?_
          obtain ⟨eb1, eo1, ea1, ek1, ef1, ee1, ec1, eO1, eH1⟩ := elem_sl (H34.seen 4 rfl) k (by omega)
          have eP1 := H34.look1 4 rfl eO1 eH1
          obtain ⟨eb2, eo2, ea2, ek2, ef2, ee2, ec2, eO2, eH2⟩ := elem_sl (eP1.seen 8 rfl) k (by omega)
          have eP2 := eP1.look1 8 rfl eO2 eH2
          refine W_drw (S := Ext No _) [(0, true), (1, true), (2, true), (3, true), (4, true), (5, true), (6, true), (7, true), (8, true), (9, true), (10, true), (11, true), (12, true), (13, true), (14, true), (15, true), (16, false), (17, true), (18, false)] (by kernel_rfl) (by kernel_rfl) (by kernel_rfl) rfl (fun _ => Ext.refl.drawn _) (fun q3 => ?_)
          have H35 := eP2.drawn q3
          refine d_val rfl (wn rfl) rfl rfl (fun zw hx => py_field Try.underlying45 rfl Try.sizeOf43 rfl rfl) (d_val rfl (wn rfl) rfl rfl (fun zw hx => py_load Try.underlying43 rfl rfl (cell_atL (hx.heap (H35.box 0 rfl)) rfl)) (d_val rfl (wn rfl) rfl rfl (fun zw hx => py_len Try.underlying43 rfl) (d_val rfl (wn rfl) rfl rfl (fun zw hx => py_move rfl) (d_val rfl (wn rfl) rfl rfl (fun zw hx => py_len Try.underlying43 rfl) (d_val rfl (wn rfl) rfl rfl (fun zw hx => py_neq rfl rfl) (d_val rfl (wn rfl) rfl rfl (fun zw hx => py_move rfl) ?_))))))
          refine d_case (t := 78) rfl (fun hg1 => ?_) (fun hg1 => ?_)
          · exact absurd (of_decide_eq_true hg1) (fun hne => hne (by omega))
          · try simp only [decide_eq_true_eq, decide_eq_false_iff_not] at hg1
            refine d_val rfl (wg rfl rfl rfl) rfl rfl (fun zw hx => py_field Try.underlying45 rfl Try.sizeOf43 rfl rfl) (d_val rfl (wg rfl rfl rfl) rfl rfl (fun zw hx => py_load Try.underlying43 rfl rfl (cell_atL (hx.heap (H35.box 0 rfl)) rfl)) (d_val rfl (wg rfl rfl rfl) rfl rfl (fun zw hx => py_move rfl) (d_val rfl (wg rfl rfl rfl) rfl rfl (fun zw hx => py_elz Try.underlying43 Try.sizeOf34 rfl rfl ee1 k (by omega) (by omega)) (d_val rfl (wg rfl rfl rfl) rfl rfl (fun zw hx => py_load Try.underlying34 rfl rfl (hx.cell ec1)) (d_val rfl (wg rfl rfl rfl) rfl rfl (fun zw hx => py_move rfl) (d_val rfl (wg rfl rfl rfl) rfl rfl (fun zw hx => py_move rfl) (d_val rfl (wg rfl rfl rfl) rfl rfl (fun zw hx => py_elz Try.underlying43 Try.sizeOf34 rfl rfl ee2 k (by omega) (by omega)) (d_val rfl (wg rfl rfl rfl) rfl rfl (fun zw hx => py_load Try.underlying34 rfl rfl (hx.cell ec2)) ?_))))))))
            refine d_call rfl (wg rfl rfl rfl) rfl rfl (pc_call Try.func43 rfl Try_nm43 rfl) (Try_laws_lwBytes (H35.sees 9 rfl) (H35.sees 10 rfl)) (fun hS _ _ r _ => hS.trans r.1.no) (fun v10 w20 r9 => ?_)
            obtain ⟨e17, rfl⟩ := r9
            have H36 := H35.to e17
            refine d_val rfl (wg rfl rfl rfl) rfl rfl (fun zw hx => py_not rfl) (d_end rfl (wn rfl) rfl rfl (py_pickF rfl rfl) ?_)
            refine d_nil ?_
            refine W_if rfl (fun c5 => ?_) (fun c5 => ?_)
            · exact absurd c5 (by rw [hbe k]; simp)
            · refine W_skip ?_
              refine W_reg ?_
              refine s_val (wn rfl) rfl rfl (py_move rfl) (s_val (wn rfl) rfl rfl (py_add rfl rfl (in64 ⟨by omega, by omega⟩)) (s_val (wn rfl) rfl rfl (py_assign rfl) ?_))
              refine s_nil ?_
              refine ⟨k + 1, ⟨rfl, rfl, rfl, trivial⟩, ⟨(H36.ftake 9), by omega⟩, by dsimp only; omega⟩
        · refine W_exit ?_
          refine W_seq ?_
          refine W_reg ?_
          refine s_val (wn rfl) rfl rfl (py_field Try.underlying45 rfl Try.sizeOf2 rfl rfl) (s_val (wn rfl) rfl rfl (py_load Try.underlying2 rfl rfl (cell_atL (H34.box 0 rfl) rfl)) (s_val (wn rfl) rfl rfl (py_eql rfl rfl) (s_val (wn rfl) rfl rfl (py_move rfl) ?_)))
          refine s_grp 3 (j := 3) (want := true) (t := 97) rfl rfl rfl rfl (fun hg2 kk1 => s_val (wgE rfl rfl rfl hg2) rfl rfl (py_move rfl) (s_val (wgE rfl rfl rfl hg2) rfl rfl (py_len Try.underlying43 rfl) (s_val (wgE rfl rfl rfl hg2) rfl rfl (py_gtr rfl rfl) (kk1 _ _ (kx rfl (kx rfl (kx rfl k0))) rfl Ext.refl)))) (fun w21 e18 => ?_)
          have H37 := H34.to e18
          refine s_val (wn rfl) rfl rfl (py_band rfl rfl) (s_val (wn rfl) rfl rfl (py_assign rfl) ?_)
          refine s_nil ?_
          refine W_ret (hQ _ _ (fin1 Try.results7 rfl ?_))
          exact ⟨H37.ext, by simp [hc1, hc2]⟩
end Go.Wk
