/-
  The functions walked, each once. (Printed by a program of mine.)
-/
import Derived.Test.YtlcpnnnangneeaaDecode
import Derived.Test.YtlcpnnnangneeaaWlF
namespace Go.Wk
open Go.Proofs Rp
set_option maxRecDepth 10000
theorem Try_laws_FnRows {w : World} {code : List UInt8} {codeA : Option Addr} {codeC : Nat} (codeS : Sees w [.slice codeA code.length codeC] code) : Ret Try.prog 12 #[.slice codeA code.length codeC] w fun v w' => Ext No w w' ∧ (v = .bool true) := by
  have codeL := sees_len codeS
  unfold maxLen at codeL
  obtain ⟨codeF, codeO⟩ := codeS
  refine ret_Q (vs := [.slice codeA code.length codeC]) Try.func12 rfl Try.ntmps12 rfl (fun Q hQ hN => ?_)
  have H0 := Sep.start (w := w) (F := [seen false [.slice codeA code.length codeC] code codeF]) (all_cons codeO (by simp))
  refine W_seq ?_
  refine W_reg ?_
  refine s_val (wn rfl) rfl rfl (py_assign rfl) ?_
  refine s_nil ?_
  refine W_seq ?_
  refine W_seq ?_
  refine W_reg ?_
  refine s_val (wn rfl) rfl rfl (py_move rfl) ?_
  refine s_call (wn rfl) rfl rfl (pc_call Try.func38 rfl Try_nm38 rfl) (Try_laws_lwBig (H0.sees 0 rfl)) (fun v1 w1 r1 => ?_)
  obtain ⟨e1, rfl⟩ := r1
  have H1 := H0.to e1
  refine s_nil ?_
  refine W_ifd rfl (fun c1 => ?_) (fun c1 => ?_)
  · refine W_seq ?_
    refine W_reg ?_
    refine s_val (wn rfl) rfl rfl (py_assign rfl) ?_
    refine s_nil ?_
    refine W_ret (hQ _ _ (fin1 Try.results12 rfl ?_))
    exact ⟨H1.ext, rfl⟩
  · refine W_skip ?_
    refine W_seq ?_
    refine W_reg ?_
    refine s_val (wn rfl) rfl rfl (py_move rfl) ?_
    refine s_call (wn rfl) rfl rfl (pc_call Try.func39 rfl Try_nm39 rfl) (Try_spec_DrawEncodeRow (H1.sees 0 rfl) (by omega)) (fun v2 w2 r2 => ?_)
    obtain ⟨e2, dx, dy, dbs, dA, dC, rfl, db, dr⟩ := r2
    obtain ⟨dfp, H2⟩ := H1.res e2 dr
    refine s_val (wn rfl) rfl rfl (py_move rfl) (s_val (wn rfl) rfl rfl (py_extr rfl rfl) (s_val (wn rfl) rfl rfl (py_extr rfl rfl) (s_val (wn rfl) rfl rfl (py_extr rfl rfl) (s_val (wn rfl) rfl rfl (py_assign rfl) (s_val (wn rfl) rfl rfl (py_assign rfl) (s_val (wn rfl) rfl rfl (py_assign rfl) ?_))))))
    refine s_nil ?_
    refine W_seq ?_
    refine W_reg ?_
    refine s_val (wn rfl) rfl rfl (py_move rfl) (s_val (wn rfl) rfl rfl (py_move rfl) (s_val (wn rfl) rfl rfl (py_move rfl) ?_))
    refine s_call (wn rfl) rfl rfl (pc_call Try.func27 rfl Try_nm27 rfl) (Try_impl_EncodeRow (H2.msees 0 rfl)) (fun v3 w3 r3 => ?_)
    obtain ⟨e3, sa1, sk1, rfl, r3⟩ := r3
    obtain ⟨fp1, H3⟩ := H2.res e3 r3
    have H4 := H3.share 1 rfl
    obtain ⟨sf1, sq1, sok1, so1⟩ := own_BlocksResultC (H4.seen 1 rfl)
    have H6 := H4.look1 1 rfl so1 (fun b hb => by rw [sq1]; simp [hb])
    refine s_var (wn rfl) rfl Try.zeroValue45 H6 (fun b1 w4 e4 g1 H7 => ?_)
    refine s_stoS (wn rfl) Try.sizeOf45 rfl rfl rfl rfl H7 2 rfl rfl (fun w5 e5 H8 => ?_)
    dsimp only [List.nil_append, List.cons_append, List.set_cons_zero, List.set_cons_succ, layL] at H8
    refine s_nil ?_
    refine W_seq ?_
    refine W_seq ?_
    refine W_reg ?_
    refine s_val (wn rfl) rfl rfl (py_field Try.underlying45 rfl Try.sizeOf2 rfl rfl) (s_val (wn rfl) rfl rfl (py_load Try.underlying2 rfl rfl (cell_atL (H8.box 2 rfl) rfl)) (s_val (wn rfl) rfl rfl (py_neq rfl rfl) ?_))
    refine s_nil ?_
    refine W_ifd rfl (fun c2 => ?_) (fun c2 => ?_)
    · refine W_seq ?_
      refine W_drw (S := Ext No _) [(0, true), (1, true), (2, true), (5, true), (6, true), (3, false), (4, true), (7, true), (8, false)] (by kernel_rfl) (by kernel_rfl) (by kernel_rfl) rfl (fun _ => Ext.refl.drawn _) (fun q1 => ?_)
      have H9 := H8.drawn q1
      refine d_val rfl (wn rfl) rfl rfl (fun zw hx => py_move rfl) (d_val rfl (wn rfl) rfl rfl (fun zw hx => py_move rfl) (d_val rfl (wn rfl) rfl rfl (fun zw hx => py_move rfl) (d_val rfl (wn rfl) rfl rfl (fun zw hx => py_field Try.underlying45 rfl Try.sizeOf2 rfl rfl) (d_val rfl (wn rfl) rfl rfl (fun zw hx => py_load Try.underlying2 rfl rfl (cell_atL (hx.heap (H9.box 2 rfl)) rfl)) ?_))))
      refine d_call rfl (wn rfl) rfl rfl (pc_call Try.func25 rfl Try_nm25 rfl) (Try_spec_EncodeRow (H9.msees 0 rfl)) (fun hS _ _ r _ => hS.trans r.1.no) (fun v4 w6 r4 => ?_)
      obtain ⟨e6, sa2, sk2, rfl, r4⟩ := r4
      obtain ⟨fp2, H10, fr1⟩ := H9.resS e6 r4
      obtain ⟨sf2, sq2, sok2, so2⟩ := own_BlocksResultC (H10.seen 3 rfl)
      have H12 := H10.look1 3 rfl so2 (fun b hb => by rw [sq2]; simp [hb])
      refine d_val rfl (wn rfl) rfl rfl (fun zw hx => py_fld Try.underlying45 rfl Try.underlying2 rfl rfl rfl) (d_val rfl (wn rfl) rfl rfl (fun zw hx => py_eql rfl rfl) (d_end rfl (wn rfl) rfl rfl (py_assign rfl) ?_))
      refine d_nil ?_
      refine W_ret (hQ _ _ (fin1 Try.results12 rfl ?_))
      exact ⟨H12.ext, by simp⟩
    · refine W_skip ?_
      refine W_seq ?_
      refine W_seq ?_
      have c0 : (encodeRow dx dy dbs).Code = 0 := by omega
      obtain ⟨hr, hl4⟩ := encodeRow_ok c0
      have hb := rOK_bd hr
      have hE : (encodeRow dx dy dbs).Blocks = encG dx.toNat (dx.toNat + dy.toNat) dbs := by rw [encodeRow_full hr hl4]
      have hEl : (encodeRow dx dy dbs).Blocks.length = dx.toNat + dy.toNat := by rw [hE, encG_len]
      have hfit := rowFits_enc hr hl4
      refine W_reg ?_
      refine s_val (wn rfl) rfl rfl (py_move rfl) (s_val (wn rfl) rfl rfl (py_move rfl) (s_val (wn rfl) rfl rfl (py_field Try.underlying45 rfl Try.sizeOf43 rfl rfl) (s_val (wn rfl) rfl rfl (py_load Try.underlying43 rfl rfl (cell_atL (H8.box 2 rfl) rfl)) ?_)))
      refine s_call (wn rfl) rfl rfl (pc_call Try.func47 rfl Try_nm47 rfl) (Try_impl_RowFits (H8.sees 2 rfl)) (fun v5 w7 r5 => ?_)
      obtain ⟨e7, rfl⟩ := r5
      have H13 := H8.to e7
      refine s_val (wn rfl) rfl rfl (py_not rfl) (s_val (wn rfl) rfl rfl (py_move rfl) ?_)
      refine s_grp 7 (j := 6) (want := false) (t := 47) rfl rfl rfl rfl (fun hg1 kk1 => s_val (wgE rfl rfl rfl hg1) rfl rfl (py_field Try.underlying45 rfl Try.sizeOf43 rfl rfl) (s_val (wgE rfl rfl rfl hg1) rfl rfl (py_load Try.underlying43 rfl rfl (cell_atL (H13.box 2 rfl) rfl)) (s_val (wgE rfl rfl rfl hg1) rfl rfl (py_len Try.underlying43 rfl) (s_val (wgE rfl rfl rfl hg1) rfl rfl (py_move rfl) (s_val (wgE rfl rfl rfl hg1) rfl rfl (py_move rfl) (s_val (wgE rfl rfl rfl hg1) rfl rfl (py_add rfl rfl (in64 ⟨by omega, by omega⟩)) (s_val (wgE rfl rfl rfl hg1) rfl rfl (py_neq rfl rfl) (kk1 _ _ (kx rfl (kx rfl (kx rfl (kx rfl (kx rfl (kx rfl (kx rfl k0))))))) rfl Ext.refl)))))))) (fun w8 e8 => ?_)
      have H14 := H13.to e8
      refine s_val (wn rfl) rfl rfl (py_bor rfl rfl) ?_
      refine s_nil ?_
      refine W_if rfl (fun c3 => ?_) (fun c3 => ?_)
      · exact absurd c3 (by rw [hfit, hEl]; simp; omega)
      · refine W_skip ?_
        refine W_seq ?_
        refine W_reg ?_
        refine s_lit0 (α := View) (wn rfl) rfl Try.underlying43 Try_ty34 H14 (fun b2 w9 e9 g2 H15 => ?_)
        refine s_val (wn rfl) rfl rfl (py_field Try.underlying45 rfl Try.sizeOf43 rfl rfl) (s_val (wn rfl) rfl rfl (py_load Try.underlying43 rfl rfl (cell_atL (H15.box 2 rfl) rfl)) ?_)
        refine s_appV (wn rfl) rfl Try.underlying43 Try_ty34 rfl rfl rfl H15 3 2 rfl rfl (by omega) (by unfold maxLen; simp; omega) (by simp; omega) (fun vo w9 ofp us ug ul us2 HQ => ?_)
        try dsimp only [List.nil_append, List.cons_append, List.set_cons_zero, List.set_cons_succ] at HQ
        refine s_val (wn rfl) rfl rfl (py_assign rfl) ?_
        refine s_nil ?_
        refine W_seq ?_
        refine W_seq ?_
        refine W_reg ?_
        refine s_val (wn rfl) rfl rfl (py_assign rfl) ?_
        refine s_nil ?_
        refine W_block ?_
        refine W_loop (γ := Nat × Value × List Nat × List View × List (List UInt8) × List Nat) (fun (k, vo, f, us, ys, g) => [(0, .slice codeA code.length codeC), (3, .int .i64 dx), (4, .int .i64 dy), (5, .slice dA dbs.length dC), (6, .pointer (some ⟨b1, 0, none⟩)), (7, vo), (8, .int .i64 k)]) (fun (k, vo, f, us, ys, g) w' => Sep No w [mine [.slice dA dbs.length dC] dbs dfp, box b1 (.cells [.int .i64 (encodeRow dx dy dbs).Code, .slice sa1 (encodeRow dx dy dbs).Blocks.length sk1].toArray 45), mine [vo] us f] [_, _, _, rows us ys g] w' ∧ (k : Int) ≤ dy ∧ us.length = dx.toNat + dy.toNat ∧ Some_ dx.toNat dy.toNat dbs ys ∧ nils ys (dx.toNat + dy.toNat) ≤ k) (fun (k, vo, f, us, ys, g) => dy.toNat - k) (0, _, _, _, (encodeRow dx dy dbs).Blocks, _) ⟨rfl, rfl, rfl, rfl, rfl, rfl, rfl, trivial⟩ ⟨HQ.sub (.cons_cons _ (.cons _ (.cons_cons _ (.cons_cons _ List.Sublist.slnil)))), by omega, by omega, (by rw [hE]; exact some_all), (by rw [hE]; exact Nat.le_of_eq (nils_enc (by omega)))⟩ (fun (k, vo, f, us, ys, g) w10 H16 => ?_)
        obtain ⟨H16, hk, ul, hS, hn8⟩ := H16
        refine W_seq ?_
        refine W_seq ?_
        refine W_reg ?_
        refine s_val (wn rfl) rfl rfl (py_move rfl) (s_val (wn rfl) rfl rfl (py_move rfl) (s_val (wn rfl) rfl rfl (py_lss rfl rfl) ?_))
        refine s_nil ?_
        refine W_ifd rfl (fun c4 => ?_) (fun c4 => ?_)
        · refine W_skip ?_
          refine W_seq ?_
          refine W_block ?_
          have hS1 := hS.1
          obtain ⟨a1, k1, q2⟩ := own_slice (H16.mine 2 rfl)
          cases q2
          refine W_reg ?_
          refine s_val (wn rfl) rfl rfl (py_move rfl) (s_val (wn rfl) rfl rfl (py_move rfl) (s_val (wn rfl) rfl rfl (py_move rfl) (s_val (wn rfl) rfl rfl (py_add rfl rfl (in64 ⟨by omega, by omega⟩)) (s_val (wn rfl) rfl rfl (py_move rfl) (s_val (wn rfl) rfl rfl (py_move rfl) (s_val (wn rfl) rfl rfl (py_add rfl rfl (in64 ⟨by omega, by omega⟩)) ?_))))))
          refine s_call (wn rfl) rfl rfl (pc_call Try.func40 rfl Try_nm40 rfl) (Try_laws_lwAt (H16.sees 0 rfl) (by omega) (by omega)) (fun v6 w11 r6 => ?_)
          obtain ⟨e10, ax1, rfl, ay1⟩ := r6
          have H17 := H16.to e10
          obtain ⟨eb1, eo1, ea1, ek1, ef1, ee1, ec1, eO1, eH1, em1⟩ := elem_view (H17.mine 2 rfl) (H17.rowsAt 3 rfl) (by first | assumption | omega) ax1.toNat (by omega)
          have eP1 := H17.lookR 3 rfl eO1 eH1
          refine s_val (wn rfl) rfl rfl (py_elz Try.underlying43 Try.sizeOf34 rfl rfl ee1 ax1.toNat (by omega) (by omega)) ?_
          have H19 := eP1.nilF (β := UInt8)
          try dsimp only [List.nil_append, List.cons_append, List.set_cons_zero, List.set_cons_succ] at H19
          refine s_rowset (wn rfl) Try.sizeOf34 H19 2 3 5 rfl rfl rfl (by first | assumption | omega) ax1.toNat (by omega) rfl ee1 rfl (fun w12 fp3 gp1 H18 => ?_)
          try dsimp only [List.nil_append, List.cons_append, List.set_cons_zero, List.set_cons_succ] at H18
          refine s_nil ?_
          refine W_reg ?_
          refine s_val (wn rfl) rfl rfl (py_move rfl) (s_val (wn rfl) rfl rfl (py_add rfl rfl (in64 ⟨by omega, by omega⟩)) (s_val (wn rfl) rfl rfl (py_assign rfl) ?_))
          refine s_nil ?_
          have hz := (H18.ftake 4)
          have hn7 := nils_set (ys := ys) (i := ax1.toNat) (k := dx.toNat + dy.toNat)
          refine ⟨(k + 1, _, _, _, _, _), ⟨rfl, rfl, rfl, rfl, rfl, rfl, rfl, trivial⟩, ⟨hz, by omega, by rw [List.length_set]; exact ul, some_set hS, by omega⟩, by dsimp only; omega⟩
        · refine W_exit ?_
          refine W_seq ?_
          have hS2 := hS.1
          obtain ⟨pA, pC, pq⟩ := own_slice (H16.mine 2 rfl)
          rw [ul] at pq
          rw [← hS2] at pq
          cases pq
          obtain ⟨tf, HV, _⟩ := H16.viewsIn 2 3 rfl rfl (by omega)
          try dsimp only [List.nil_append, List.cons_append, List.set_cons_zero, List.set_cons_succ] at HV
          have hn9 : nils ys (dx.toNat + dy.toNat) ≤ dy.toNat := by omega
          have hdec := rows_dec hr hl4 hS hn9
          have hblk := rows_blk hr hl4 hS hn9
          have hpt := some_part (by omega : dbs.length = dx.toNat * 4) hS
          have hds : (decodeRow dx dy ys).Bytes.length ≤ 100 := decodeRow_len
          refine W_reg ?_
          refine s_val (wn rfl) rfl rfl (py_move rfl) (s_val (wn rfl) rfl rfl (py_move rfl) (s_val (wn rfl) rfl rfl (py_move rfl) ?_))
          refine s_call (wn rfl) rfl rfl (pc_call Try.func60 rfl Try_nm60 rfl) (Try_impl_DecodeRow (HV.sees 4 rfl)) (fun v7 w13 r7 => ?_)
          obtain ⟨e12, sa3, sk3, rfl, r7⟩ := r7
          obtain ⟨fp4, H20⟩ := HV.res e12 r7
          have H21 := H20.share 3 rfl
          obtain ⟨sf3, sq3, sok3, so3⟩ := own_BytesResultC (H21.seen 5 rfl)
          have H23 := H21.look1 5 rfl so3 (fun b hb => by rw [sq3]; simp [hb])
          refine s_var (wn rfl) rfl Try.zeroValue70 H23 (fun b3 w14 e13 g3 H24 => ?_)
          refine s_stoS (wn rfl) Try.sizeOf70 rfl rfl rfl rfl H24 4 rfl rfl (fun w15 e14 H25 => ?_)
          dsimp only [List.nil_append, List.cons_append, List.set_cons_zero, List.set_cons_succ, layL] at H25
          refine s_nil ?_
          refine W_seq ?_
          refine W_seq ?_
          refine W_reg ?_
          refine s_val (wn rfl) rfl rfl (py_field Try.underlying70 rfl Try.sizeOf2 rfl rfl) (s_val (wn rfl) rfl rfl (py_load Try.underlying2 rfl rfl (cell_atL (H25.box 4 rfl) rfl)) (s_val (wn rfl) rfl rfl (py_neq rfl rfl) (s_val (wn rfl) rfl rfl (py_move rfl) ?_)))
          refine s_grp 5 (j := 3) (want := false) (t := 79) rfl rfl rfl rfl (fun hg2 kk2 => s_val (wgE rfl rfl rfl hg2) rfl rfl (py_field Try.underlying70 rfl Try.sizeOf34 rfl rfl) (s_val (wgE rfl rfl rfl hg2) rfl rfl (py_load Try.underlying34 rfl rfl (cell_atL (H25.box 4 rfl) rfl)) (s_val (wgE rfl rfl rfl hg2) rfl rfl (py_move rfl) (s_callv (wgE rfl rfl rfl hg2) rfl rfl (pc_call Try.func43 rfl Try_nm43 rfl) (Try_laws_lwBytes (H25.sees 6 rfl) (H25.msees 0 rfl)) (fun w17 e16 => s_val (wgE rfl rfl rfl hg2) rfl rfl (py_not rfl) (kk2 _ _ (kx rfl (kx rfl (kx rfl (kx rfl (kx rfl k0))))) rfl (Ext.refl.trans e16))))))) (fun w16 e15 => ?_)
          have H26 := H25.to e15
          refine s_val (wn rfl) rfl rfl (py_bor rfl rfl) ?_
          refine s_nil ?_
          refine W_if rfl (fun c5 => ?_) (fun c5 => ?_)
          · exact absurd c5 (by rw [hdec]; simp)
          · refine W_skip ?_
            refine W_seq ?_
            refine W_seq ?_
            refine W_reg ?_
            refine s_val (wn rfl) rfl rfl (py_assign rfl) ?_
            refine s_nil ?_
            refine W_block ?_
            refine W_loop (γ := Nat) (fun i => [(3, .int .i64 dx), (4, .int .i64 dy), (6, .pointer (some ⟨b1, 0, none⟩)), (7, .slice pA ys.length pC), (10, .int .i64 i)]) (fun i w' => Sep No w [box b1 (.cells [.int .i64 (encodeRow dx dy dbs).Code, .slice sa1 (encodeRow dx dy dbs).Blocks.length sk1].toArray 45)] _ w' ∧ (i : Int) ≤ dx + dy) (fun i => (dx + dy).toNat - i) 0 ⟨rfl, rfl, rfl, rfl, rfl, trivial⟩ ⟨H26.sub (.cons _ (.cons_cons _ (.cons _ (.cons _ (.cons _ List.Sublist.slnil))))), by omega⟩ (fun i w18 H27 => ?_)
            obtain ⟨H27, hi⟩ := H27
            refine W_seq ?_
            refine W_seq ?_
            refine W_reg ?_
            refine s_val (wn rfl) rfl rfl (py_move rfl) (s_val (wn rfl) rfl rfl (py_move rfl) (s_val (wn rfl) rfl rfl (py_move rfl) (s_val (wn rfl) rfl rfl (py_add rfl rfl (in64 ⟨by omega, by omega⟩)) (s_val (wn rfl) rfl rfl (py_lss rfl rfl) ?_))))
            refine s_nil ?_
            refine W_ifd rfl (fun c6 => ?_) (fun c6 => ?_)
            · refine W_skip ?_
              refine W_seq ?_
              refine W_block ?_
              refine W_seq ?_
              obtain ⟨eb2, eo2, ea2, ek2, ef2, ee2, ec2, eO2, eH2⟩ := elem_sl (H27.seen 2 rfl) i (by omega)
              have eP2 := H27.look1 2 rfl eO2 eH2
              refine W_drw (S := Ext No _) [(0, true), (1, true), (2, true), (3, true), (6, true), (7, true), (8, true), (9, true), (10, true), (4, false), (5, true), (11, false), (12, false)] (by kernel_rfl) (by kernel_rfl) (by kernel_rfl) rfl (fun _ => Ext.refl.drawn _) (fun q3 => ?_)
              have H28 := eP2.drawn q3
              refine d_val rfl (wn rfl) rfl rfl (fun zw hx => py_move rfl) (d_val rfl (wn rfl) rfl rfl (fun zw hx => py_move rfl) (d_val rfl (wn rfl) rfl rfl (fun zw hx => py_move rfl) (d_val rfl (wn rfl) rfl rfl (fun zw hx => py_move rfl) (d_val rfl (wn rfl) rfl rfl (fun zw hx => py_field Try.underlying45 rfl Try.sizeOf43 rfl rfl) (d_val rfl (wn rfl) rfl rfl (fun zw hx => py_load Try.underlying43 rfl rfl (cell_atL (hx.heap (H28.box 0 rfl)) rfl)) (d_val rfl (wn rfl) rfl rfl (fun zw hx => py_move rfl) (d_val rfl (wn rfl) rfl rfl (fun zw hx => py_elz Try.underlying43 Try.sizeOf34 rfl rfl ee2 i (by omega) (by omega)) (d_val rfl (wn rfl) rfl rfl (fun zw hx => py_load Try.underlying34 rfl rfl (hx.cell ec2)) ?_))))))))
              refine d_call rfl (wn rfl) rfl rfl (pc_call Try.func61 rfl Try_nm61 rfl) (Try_impl_BlockOf (H28.sees 4 rfl)) (fun hS _ _ r _ => hS.trans r.1.no) (fun v8 w19 r8 => ?_)
              obtain ⟨e17, sa4, sk4, rfl, r8⟩ := r8
              obtain ⟨fp5, H29⟩ := H28.res e17 r8
              have H30 := H29.share 1 rfl
              obtain ⟨sf4, sq4, sok4, so4⟩ := own_BytesResultC (H30.seen 8 rfl)
              have H32 := H30.look1 8 rfl so4 (fun b hb => by rw [sq4]; simp [hb])
              refine d_val rfl (wn rfl) rfl rfl (fun zw hx => py_fld Try.underlying70 rfl Try.underlying34 rfl rfl rfl) ?_
              refine d_call rfl (wn rfl) rfl rfl (pc_call Try.func43 rfl Try_nm43 rfl) (Try_laws_lwBytes (H32.sees 9 rfl) (H32.sees 7 rfl)) (fun hS _ _ r _ => hS.trans r.1.no) (fun v9 w20 r9 => ?_)
              obtain ⟨e18, rfl⟩ := r9
              have H33 := H32.to e18
              refine d_end rfl (wn rfl) rfl rfl (py_not rfl) ?_
              refine d_nil ?_
              refine W_if rfl (fun c7 => ?_) (fun c7 => ?_)
              · exact absurd c7 (by rw [hblk i (by omega)]; simp)
              · refine W_skip ?_
                refine W_reg ?_
                refine s_val (wn rfl) rfl rfl (py_move rfl) (s_val (wn rfl) rfl rfl (py_add rfl rfl (in64 ⟨by omega, by omega⟩)) (s_val (wn rfl) rfl rfl (py_assign rfl) ?_))
                refine s_nil ?_
                refine ⟨i + 1, ⟨rfl, rfl, rfl, rfl, rfl, trivial⟩, ⟨((H33.ftake 7).dtake 1), by omega⟩, by dsimp only; omega⟩
            · refine W_exit ?_
              refine W_seq ?_
              refine W_reg ?_
              refine s_val (wn rfl) rfl rfl (py_assign rfl) ?_
              refine s_nil ?_
              refine W_ret (hQ _ _ (fin1 Try.results12 rfl ?_))
              exact ⟨H27.ext, rfl⟩
end Go.Wk
