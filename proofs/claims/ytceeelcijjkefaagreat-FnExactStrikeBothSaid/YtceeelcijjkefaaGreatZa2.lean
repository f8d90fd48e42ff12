/-
  Laws on walking, and the functions walked, each once: what this claim comes to.
-/
import Derived.Test.YtceeelcijjkefaaGreatZa1
set_option linter.unusedVariables false
set_option linter.unusedSimpArgs false
namespace Go.Wk
open Go.Proofs Rp
set_option maxRecDepth 10000
theorem Tryz_spec_l5Drives {w : World} {s : Shape} (hs : s.ok = true) : Ret Tryz.prog 157 #[s.v] w fun v w' => Ext No w w' ∧ (v = .int .i64 (s.Data + s.Spare)) := by
 have sbd := shape_bd hs
 refine ret_Q (vs := [s.v]) Tryz.func157 rfl Tryz.ntmps157 rfl (fun Q hQ hN => ?_)
 have H0 := Sep.start (w := w) (F := []) (by simp)
 refine W_sr (s_box (wn rfl) rfl rfl H0 (fun b1 w1 e1 g1 H1 => ?_))
 refine sV rfl (py_assign rfl) (s_nil (W_sr (sV rfl (py_field Tryz.underlying33 rfl Tryz.sizeOf2 rfl rfl) (sV rfl (py_load Tryz.underlying2 rfl rfl (cell_atL (H1.box 0 rfl) rfl)) (sV rfl (py_field Tryz.underlying33 rfl Tryz.sizeOf2 rfl rfl) (sV rfl (py_load Tryz.underlying2 rfl rfl (cell_atL (H1.box 0 rfl) rfl)) (sV rfl (py_add rfl rfl (in64 ⟨by omega, by omega⟩)) (sV rfl (py_assign rfl) (s_nil (W_ret (hQ _ _ (fin1 Tryz.results157 rfl ?_))))))))))))
 exact ⟨H1.ext, rfl⟩
theorem Tryz_impl_Shape_drives {w : World} {s : Shape} (hs : s.ok = true) : Ret Tryz.prog 215 #[s.v] w fun v w' => Ext No w w' ∧ (v = .int .i64 (s.Data + s.Spare)) := by
 have sbd := shape_bd hs
 refine ret_Q (vs := [s.v]) Tryz.func215 rfl Tryz.ntmps215 rfl (fun Q hQ hN => ?_)
 have H0 := Sep.start (w := w) (F := []) (by simp)
 refine W_sr (s_box (wn rfl) rfl rfl H0 (fun b1 w1 e1 g1 H1 => ?_))
 refine sV rfl (py_assign rfl) (s_nil (W_sr (sV rfl (py_field Tryz.underlying33 rfl Tryz.sizeOf2 rfl rfl) (sV rfl (py_load Tryz.underlying2 rfl rfl (cell_atL (H1.box 0 rfl) rfl)) (sV rfl (py_field Tryz.underlying33 rfl Tryz.sizeOf2 rfl rfl) (sV rfl (py_load Tryz.underlying2 rfl rfl (cell_atL (H1.box 0 rfl) rfl)) (sV rfl (py_add rfl rfl (in64 ⟨by omega, by omega⟩)) (sV rfl (py_assign rfl) (s_nil (W_ret (hQ _ _ (fin1 Tryz.results215 rfl ?_))))))))))))
 exact ⟨H1.ext, rfl⟩
theorem Tryz_spec_l4Wide {w : World} {s : Shape} (hs : s.ok = true) : Ret Tryz.prog 177 #[s.v] w fun v w' => Ext No w w' ∧ (v = .int .i64 (s.Data * 4)) := by
 have sbd := shape_bd hs
 refine ret_Q (vs := [s.v]) Tryz.func177 rfl Tryz.ntmps177 rfl (fun Q hQ hN => ?_)
 have H0 := Sep.start (w := w) (F := []) (by simp)
 refine W_sr (s_box (wn rfl) rfl rfl H0 (fun b1 w1 e1 g1 H1 => ?_))
 refine sV rfl (py_assign rfl) (s_nil (W_sr (sV rfl (py_field Tryz.underlying33 rfl Tryz.sizeOf2 rfl rfl) (sV rfl (py_load Tryz.underlying2 rfl rfl (cell_atL (H1.box 0 rfl) rfl)) (sV rfl (py_mul rfl rfl (in64 ⟨by omega, by omega⟩)) (sV rfl (py_assign rfl) (s_nil (W_ret (hQ _ _ (fin1 Tryz.results177 rfl ?_))))))))))
 exact ⟨H1.ext, rfl⟩
theorem Tryz_impl_Shape_rowLength {w : World} {s : Shape} (hs : s.ok = true) : Ret Tryz.prog 122 #[s.v] w fun v w' => Ext No w w' ∧ (v = .int .i64 (s.Data * 4)) := by
 have sbd := shape_bd hs
 refine ret_Q (vs := [s.v]) Tryz.func122 rfl Tryz.ntmps122 rfl (fun Q hQ hN => ?_)
 have H0 := Sep.start (w := w) (F := []) (by simp)
 refine W_sr (s_box (wn rfl) rfl rfl H0 (fun b1 w1 e1 g1 H1 => ?_))
 refine sV rfl (py_assign rfl) (s_nil (W_sr (sV rfl (py_field Tryz.underlying33 rfl Tryz.sizeOf2 rfl rfl) (sV rfl (py_load Tryz.underlying2 rfl rfl (cell_atL (H1.box 0 rfl) rfl)) (sV rfl (py_mul rfl rfl (in64 ⟨by omega, by omega⟩)) (sV rfl (py_assign rfl) (s_nil (W_ret (hQ _ _ (fin1 Tryz.results122 rfl ?_))))))))))
 exact ⟨H1.ext, rfl⟩
theorem Tryz_impl_Shape_isRow {w : World} {s : Shape} {x : Int} (hs : s.ok = true) : Ret Tryz.prog 120 #[s.v, .int .i64 x] w fun v w' => Ext No w w' ∧ (v = .bool (ins x 0 (s.Rows - 1))) := by
 have sbd := shape_bd hs
 refine ret_Q (vs := [s.v, .int .i64 x]) Tryz.func120 rfl Tryz.ntmps120 rfl (fun Q hQ hN => ?_)
 have H0 := Sep.start (w := w) (F := []) (by simp)
 refine W_sr (s_box (wn rfl) rfl rfl H0 (fun b1 w1 e1 g1 H1 => ?_))
 refine sV rfl (py_assign rfl) (s_nil (W_sr (sV rfl (py_move rfl) (sV rfl (py_field Tryz.underlying33 rfl Tryz.sizeOf2 rfl rfl) (sV rfl (py_load Tryz.underlying2 rfl rfl (cell_atL (H1.box 0 rfl) rfl)) (sV rfl (py_sub rfl rfl (in64 ⟨by omega, by omega⟩)) (s_call (wn rfl) rfl rfl (pc_call Tryz.func154 rfl Tryz_nm154 rfl) Tryz_impl_inside (fun v1 w2 r1 => ?_))))))))
 obtain ⟨e2, rfl⟩ := r1
 have H2 := H1.to e2
 refine sV rfl (py_assign rfl) (s_nil (W_ret (hQ _ _ (fin1 Tryz.results120 rfl ?_))))
 exact ⟨H2.ext, rfl⟩
theorem Tryz_impl_Shape_isData {w : World} {s : Shape} {x : Int} (hs : s.ok = true) : Ret Tryz.prog 184 #[s.v, .int .i64 x] w fun v w' => Ext No w w' ∧ (v = .bool (ins x 0 (s.Groups - 1))) := by
 have sbd := shape_bd hs
 refine ret_Q (vs := [s.v, .int .i64 x]) Tryz.func184 rfl Tryz.ntmps184 rfl (fun Q hQ hN => ?_)
 have H0 := Sep.start (w := w) (F := []) (by simp)
 refine W_sr (s_box (wn rfl) rfl rfl H0 (fun b1 w1 e1 g1 H1 => ?_))
 refine sV rfl (py_assign rfl) (s_nil (W_sr (sV rfl (py_move rfl) (sV rfl (py_field Tryz.underlying33 rfl Tryz.sizeOf2 rfl rfl) (sV rfl (py_load Tryz.underlying2 rfl rfl (cell_atL (H1.box 0 rfl) rfl)) (sV rfl (py_sub rfl rfl (in64 ⟨by omega, by omega⟩)) (s_call (wn rfl) rfl rfl (pc_call Tryz.func154 rfl Tryz_nm154 rfl) Tryz_impl_inside (fun v1 w2 r1 => ?_))))))))
 obtain ⟨e2, rfl⟩ := r1
 have H2 := H1.to e2
 refine sV rfl (py_assign rfl) (s_nil (W_ret (hQ _ _ (fin1 Tryz.results184 rfl ?_))))
 exact ⟨H2.ext, rfl⟩
theorem Tryz_impl_Shape_parts {w : World} {s : Shape} {len : Int} (hs : s.ok = true) (hL : I64ok len) : Ret Tryz.prog 240 #[s.v, .int .i64 len] w fun v w' => Ext No w w' ∧ (v = .tuple #[.int .i64 (partsN s len), .int .i64 (longOf s len)]) := by
 have sbd := shape_bd hs
 unfold I64ok at hL
 refine ret_Q (vs := [s.v, .int .i64 len]) Tryz.func240 rfl Tryz.ntmps240 rfl (fun Q hQ hN => ?_)
 have H0 := Sep.start (w := w) (F := []) (by simp)
 refine W_sr (s_box (wn rfl) rfl rfl H0 (fun b1 w1 e1 g1 H1 => ?_))
 refine sV rfl (py_assign rfl) (sV rfl (py_assign rfl) (s_nil (W_seq (W_sr (sV rfl (py_move rfl) (sV rfl (py_lss rfl rfl) (s_nil (W_ifd rfl (fun c1 => ?_) (fun c1 => ?_)))))))))
 ·refine W_sr (sV rfl (py_assign rfl) (sV rfl (py_assign rfl) (s_nil (W_ret (hQ _ _ (fin2 Tryz.results240 rfl rfl ?_))))))
  obtain ⟨e1, e2⟩ := long_low (s := s) c1
  exact ⟨H1.ext, by rw [e1, e2]⟩
 ·refine W_skip (W_seq ?_)
  have hb := parts_bd (s := s) (len := len) (by omega) (by omega)
  refine W_reg (sV rfl (py_move rfl) (sV rfl (py_sub rfl rfl (in64 ⟨by omega, by omega⟩)) (sV rfl (py_loadS Tryz.underlying33 rfl Tryz.sizeOf33 rfl rfl (At.whole (H1.box 0 rfl))) (s_call (wn rfl) rfl rfl (pc_call Tryz.func122 rfl Tryz_nm122 rfl) (Tryz_impl_Shape_rowLength (by assumption)) (fun v1 w2 r1 => ?_)))))
  obtain ⟨e2, rfl⟩ := r1
  have H2 := H1.to e2
  refine sV rfl (py_quo rfl rfl (by omega) (in64 ⟨by omega, by omega⟩)) (sV rfl (py_add rfl rfl (in64 ⟨by omega, by omega⟩)) (sV rfl (py_assign rfl) (s_nil (W_seq (W_sr (sV rfl (py_move rfl) (sV rfl (py_gtr rfl rfl) (s_nil (W_ifd rfl (fun c2 => ?_) (fun c2 => ?_))))))))))
  ·refine W_sr (sV rfl (py_assign rfl) (sV rfl (py_assign rfl) (s_nil (W_ret (hQ _ _ (fin2 Tryz.results240 rfl rfl ?_))))))
   have hp := (parts_iff (s := s) (len := len) (by omega) (by omega)).1 (by omega)
   obtain ⟨e1, e2⟩ := long_high (s := s) c1 hp
   exact ⟨H2.ext, by rw [e1, e2]⟩
  ·refine W_skip (W_sr (sV rfl (py_move rfl) (sV rfl (py_assign rfl) (sV rfl (py_assign rfl) (s_nil (W_ret (hQ _ _ (fin2 Tryz.results240 rfl rfl ?_))))))))
   have hp : ¬ 3 * (s.Data * 4) < len := fun h => absurd ((parts_iff (s := s) (len := len) (by omega) (by omega)).2 h) (by omega)
   obtain ⟨e1, e2⟩ := long_ok (s := s) c1 hp
   exact ⟨H2.ext, by rw [e1, e2]; rfl⟩
theorem Tryz_spec_l4Long {w : World} {s : Shape} {len : Int} (hs : s.ok = true) : Ret Tryz.prog 237 #[s.v, .int .i64 len] w fun v w' => Ext No w w' ∧ (v = .int .i64 (longOf s len)) := by
 have sbd := shape_bd hs
 refine ret_Q (vs := [s.v, .int .i64 len]) Tryz.func237 rfl Tryz.ntmps237 rfl (fun Q hQ hN => ?_)
 have H0 := Sep.start (w := w) (F := []) (by simp)
 refine W_sr (s_box (wn rfl) rfl rfl H0 (fun b1 w1 e1 g1 H1 => ?_))
 refine sV rfl (py_assign rfl) (s_nil (W_seq (W_sr (sV rfl (py_move rfl) (sV rfl (py_lss rfl rfl) (s_nil (W_ifd rfl (fun c1 => ?_) (fun c1 => ?_))))))))
 ·refine W_sr (sV rfl (py_assign rfl) (s_nil (W_ret (hQ _ _ (fin1 Tryz.results237 rfl ?_)))))
  exact ⟨H1.ext, by rw [(long_low (s := s) c1).1]⟩
 ·refine W_skip (W_seq (W_sr (sV rfl (py_move rfl) (sV rfl (py_loadS Tryz.underlying33 rfl Tryz.sizeOf33 rfl rfl (At.whole (H1.box 0 rfl))) (s_call (wn rfl) rfl rfl (pc_call Tryz.func177 rfl Tryz_nm177 rfl) (Tryz_spec_l4Wide (by assumption)) (fun v1 w2 r1 => ?_))))))
  obtain ⟨e2, rfl⟩ := r1
  have H2 := H1.to e2
  refine sV rfl (py_mul rfl rfl (in64 ⟨by omega, by omega⟩)) (sV rfl (py_gtr rfl rfl) (s_nil (W_ifd rfl (fun c2 => ?_) (fun c2 => ?_))))
  ·refine W_sr (sV rfl (py_assign rfl) (s_nil (W_ret (hQ _ _ (fin1 Tryz.results237 rfl ?_)))))
   exact ⟨H2.ext, by rw [(long_high (s := s) c1 (by omega)).1]⟩
  ·refine W_skip (W_sr (sV rfl (py_assign rfl) (s_nil (W_ret (hQ _ _ (fin1 Tryz.results237 rfl ?_))))))
   exact ⟨H2.ext, by rw [(long_ok (s := s) c1 (by omega)).1]⟩
theorem Tryz_spec_l4Parts {w : World} {s : Shape} {len : Int} (hs : s.ok = true) (hL : 1 ≤ len ∧ len ≤ 1000) : Ret Tryz.prog 238 #[s.v, .int .i64 len] w fun v w' => Ext No w w' ∧ (v = .int .i64 (partsOf s len)) := by
 have sbd := shape_bd hs
 have hb := parts_bd (s := s) (len := len) (by omega) (by omega)
 have hq : (len + s.Data * 4 - 1).tdiv (s.Data * 4) = partsOf s len := parts_two (by omega) (by omega)
 unfold partsOf at hq
 refine ret_Q (vs := [s.v, .int .i64 len]) Tryz.func238 rfl Tryz.ntmps238 rfl (fun Q hQ hN => ?_)
 have H0 := Sep.start (w := w) (F := []) (by simp)
 refine W_sr (s_box (wn rfl) rfl rfl H0 (fun b1 w1 e1 g1 H1 => ?_))
 refine sV rfl (py_assign rfl) (s_nil (W_seq (W_drw (S := Ext No _) [(0, true), (1, true), (5, true), (2, false), (3, true), (4, true), (6, false), (7, true), (8, false)] (by kernel_rfl) (by kernel_rfl) (by kernel_rfl) rfl (fun _ => Ext.refl.drawn _) (fun q1 => ?_))))
 have H2 := H1.drawn q1
 refine dV rfl rfl (fun zw hx => py_move rfl) (dV rfl rfl (fun zw hx => py_loadS Tryz.underlying33 rfl Tryz.sizeOf33 rfl rfl (At.whole (hx.heap (H2.box 0 rfl)))) (dV rfl rfl (fun zw hx => py_loadS Tryz.underlying33 rfl Tryz.sizeOf33 rfl rfl (At.whole (hx.heap (H2.box 0 rfl)))) (d_call rfl (wn rfl) rfl rfl (pc_call Tryz.func177 rfl Tryz_nm177 rfl) (Tryz_spec_l4Wide (by assumption)) (fun hS _ _ r _ => hS.trans r.1.no) (fun v1 w2 r1 => ?_))))
 obtain ⟨e2, rfl⟩ := r1
 have H3 := H2.to e2
 refine dV rfl rfl (fun zw hx => py_add rfl rfl (in64 ⟨by omega, by omega⟩)) (dV rfl rfl (fun zw hx => py_sub rfl rfl (in64 ⟨by omega, by omega⟩)) (d_call rfl (wn rfl) rfl rfl (pc_call Tryz.func177 rfl Tryz_nm177 rfl) (Tryz_spec_l4Wide (by assumption)) (fun hS _ _ r _ => hS.trans r.1.no) (fun v2 w3 r2 => ?_)))
 obtain ⟨e3, rfl⟩ := r2
 have H4 := H3.to e3
 refine dV rfl rfl (fun zw hx => py_quo rfl rfl (by omega) (in64 ⟨by omega, by omega⟩)) (d_end rfl (wn rfl) rfl rfl (py_assign rfl) (d_nil (W_ret (hQ _ _ (fin1 Tryz.results238 rfl ?_)))))
 exact ⟨H4.ext, by rw [parts_two (by omega) (by omega)]⟩
theorem Tryz_size_ListDrive {w : World} {xs : List (List Drive)} {xsA : Option Addr} {xsC : Nat} (xsS : Sees w [.slice xsA xs.length xsC] xs) : Ret Tryz.prog 213 #[.slice xsA xs.length xsC] w fun v w' => Ext No w w' ∧ (v = .int .i64 xs.length) := by
 have xsL := sees_len xsS
 unfold maxLen at xsL
 obtain ⟨xsF, xsO⟩ := xsS
 refine ret_Q (vs := [.slice xsA xs.length xsC]) Tryz.func213 rfl Tryz.ntmps213 rfl (fun Q hQ hN => ?_)
 have H0 := Sep.start (w := w) (F := [seen false [.slice xsA xs.length xsC] xs xsF]) (all_cons xsO (by simp))
 refine W_sr (sV rfl (py_assign rfl) (s_nil (W_sr (sV rfl (py_move rfl) (sV rfl (py_len Tryz.underlying34 rfl) (sV rfl (py_assign rfl) (s_nil (W_ret (hQ _ _ (fin1 Tryz.results213 rfl ?_))))))))))
 exact ⟨H0.ext, rfl⟩
theorem Tryz_size_Drive {w : World} {xs : List Drive} {xsA : Option Addr} {xsC : Nat} (xsS : Sees w [.slice xsA xs.length xsC] xs) : Ret Tryz.prog 214 #[.slice xsA xs.length xsC] w fun v w' => Ext No w w' ∧ (v = .int .i64 xs.length) := by
 have xsL := sees_len xsS
 unfold maxLen at xsL
 obtain ⟨xsF, xsO⟩ := xsS
 refine ret_Q (vs := [.slice xsA xs.length xsC]) Tryz.func214 rfl Tryz.ntmps214 rfl (fun Q hQ hN => ?_)
 have H0 := Sep.start (w := w) (F := [seen false [.slice xsA xs.length xsC] xs xsF]) (all_cons xsO (by simp))
 refine W_sr (sV rfl (py_assign rfl) (s_nil (W_sr (sV rfl (py_move rfl) (sV rfl (py_len Tryz.underlying147 rfl) (sV rfl (py_assign rfl) (s_nil (W_ret (hQ _ _ (fin1 Tryz.results214 rfl ?_))))))))))
 exact ⟨H0.ext, rfl⟩
theorem Tryz_size_Block {w : World} {xs : List Block} {xsA : Option Addr} {xsC : Nat} (xsS : Sees w [.slice xsA xs.length xsC] xs) : Ret Tryz.prog 216 #[.slice xsA xs.length xsC] w fun v w' => Ext No w w' ∧ (v = .int .i64 xs.length) := by
 have xsL := sees_len xsS
 unfold maxLen at xsL
 obtain ⟨xsF, xsO⟩ := xsS
 refine ret_Q (vs := [.slice xsA xs.length xsC]) Tryz.func216 rfl Tryz.ntmps216 rfl (fun Q hQ hN => ?_)
 have H0 := Sep.start (w := w) (F := [seen false [.slice xsA xs.length xsC] xs xsF]) (all_cons xsO (by simp))
 refine W_sr (sV rfl (py_assign rfl) (s_nil (W_sr (sV rfl (py_move rfl) (sV rfl (py_len Tryz.underlying148 rfl) (sV rfl (py_assign rfl) (s_nil (W_ret (hQ _ _ (fin1 Tryz.results216 rfl ?_))))))))))
 exact ⟨H0.ext, rfl⟩
theorem Tryz_size_byte {w : World} {xs : List UInt8} {xsA : Option Addr} {xsC : Nat} (xsS : Sees w [.slice xsA xs.length xsC] xs) : Ret Tryz.prog 121 #[.slice xsA xs.length xsC] w fun v w' => Ext No w w' ∧ (v = .int .i64 xs.length) := by
 have xsL := sees_len xsS
 unfold maxLen at xsL
 obtain ⟨xsF, xsO⟩ := xsS
 refine ret_Q (vs := [.slice xsA xs.length xsC]) Tryz.func121 rfl Tryz.ntmps121 rfl (fun Q hQ hN => ?_)
 have H0 := Sep.start (w := w) (F := [seen false [.slice xsA xs.length xsC] xs xsF]) (all_cons xsO (by simp))
 refine W_sr (sV rfl (py_assign rfl) (s_nil (W_sr (sV rfl (py_move rfl) (sV rfl (py_len Tryz.underlying61 rfl) (sV rfl (py_assign rfl) (s_nil (W_ret (hQ _ _ (fin1 Tryz.results121 rfl ?_))))))))))
 exact ⟨H0.ext, rfl⟩
theorem Tryz_size_int64 {w : World} {xs : List Int} {xsA : Option Addr} {xsC : Nat} (xsS : Sees w [.slice xsA xs.length xsC] xs) : Ret Tryz.prog 155 #[.slice xsA xs.length xsC] w fun v w' => Ext No w w' ∧ (v = .int .i64 xs.length) := by
 have xsL := sees_len xsS
 unfold maxLen at xsL
 obtain ⟨xsF, xsO⟩ := xsS
 refine ret_Q (vs := [.slice xsA xs.length xsC]) Tryz.func155 rfl Tryz.ntmps155 rfl (fun Q hQ hN => ?_)
 have H0 := Sep.start (w := w) (F := [seen false [.slice xsA xs.length xsC] xs xsF]) (all_cons xsO (by simp))
 refine W_sr (sV rfl (py_assign rfl) (s_nil (W_sr (sV rfl (py_move rfl) (sV rfl (py_len Tryz.underlying25 rfl) (sV rfl (py_assign rfl) (s_nil (W_ret (hQ _ _ (fin1 Tryz.results155 rfl ?_))))))))))
 exact ⟨H0.ext, rfl⟩
theorem Tryz_bytesEq {w : World} {xs : List UInt8} {xsA : Option Addr} {xsC : Nat} {ys : List UInt8} {ysA : Option Addr} {ysC : Nat} (xsS : Sees w [.slice xsA xs.length xsC] xs) (ysS : Sees w [.slice ysA ys.length ysC] ys) : Ret Tryz.prog 163 #[.slice xsA xs.length xsC, .slice ysA ys.length ysC] w fun v w' => Ext No w w' ∧ (v = .bool (decide (xs = ys))) := by
 have xsL := sees_len xsS
 unfold maxLen at xsL
 obtain ⟨xsF, xsO⟩ := xsS
 have ysL := sees_len ysS
 unfold maxLen at ysL
 obtain ⟨ysF, ysO⟩ := ysS
 refine ret_Q (vs := [.slice xsA xs.length xsC, .slice ysA ys.length ysC]) Tryz.func163 rfl Tryz.ntmps163 rfl (fun Q hQ hN => ?_)
 have H0 := Sep.start (w := w) (F := [seen false [.slice xsA xs.length xsC] xs xsF, seen false [.slice ysA ys.length ysC] ys ysF]) (all_cons xsO (all_cons ysO (by simp)))
 refine W_sr (sV rfl (py_assign rfl) (s_nil (W_sr (sV rfl (py_move rfl) (sV rfl (py_b2s Tryz.underlying61 Tryz.underlying5 Tryz.underlying9 rfl (H0.seen 0 rfl)) (sV rfl (py_move rfl) (sV rfl (py_b2s Tryz.underlying61 Tryz.underlying5 Tryz.underlying9 rfl (H0.seen 1 rfl)) (sV rfl (py_seql rfl rfl) (sV rfl (py_assign rfl) (s_nil (W_ret (hQ _ _ (fin1 Tryz.results163 rfl ?_)))))))))))))
 exact ⟨H0.ext, by simp [str_beq, strB_inj]⟩
theorem Tryz_slices_Equal_int64_int64 {w : World} {xs : List Int} {xsA : Option Addr} {xsC : Nat} {ys : List Int} {ysA : Option Addr} {ysC : Nat} (xsS : Sees w [.slice xsA xs.length xsC] xs) (ysS : Sees w [.slice ysA ys.length ysC] ys) : Ret Tryz.prog 244 #[.slice xsA xs.length xsC, .slice ysA ys.length ysC] w fun v w' => Ext No w w' ∧ (v = .bool (decide (xs = ys))) := by
 have xsL := sees_len xsS
 unfold maxLen at xsL
 obtain ⟨xsF, xsO⟩ := xsS
 have ysL := sees_len ysS
 unfold maxLen at ysL
 obtain ⟨ysF, ysO⟩ := ysS
 refine ret_Q (vs := [.slice xsA xs.length xsC, .slice ysA ys.length ysC]) Tryz.func244 rfl Tryz.ntmps244 rfl (fun Q hQ hN => ?_)
 have H0 := Sep.start (w := w) (F := [seen false [.slice xsA xs.length xsC] xs xsF, seen false [.slice ysA ys.length ysC] ys ysF]) (all_cons xsO (all_cons ysO (by simp)))
 refine W_sr (sV rfl (py_assign rfl) (s_nil (W_seq (W_sr (sV rfl (py_move rfl) (sV rfl (py_len Tryz.underlying25 rfl) (sV rfl (py_move rfl) (sV rfl (py_len Tryz.underlying25 rfl) (sV rfl (py_neq rfl rfl) (s_nil (W_ifd rfl (fun c1 => ?_) (fun c1 => ?_))))))))))))
 ·refine W_sr (sV rfl (py_assign rfl) (s_nil (W_ret (hQ _ _ (fin1 Tryz.results244 rfl (⟨H0.ext, ?_⟩))))))
  rw [decide_eq_false (fun e => by subst e; exact c1 rfl)]
 ·refine W_skip (W_seq (W_sr (sV rfl (py_move rfl) (sV rfl (py_len Tryz.underlying25 rfl) (sV rfl (py_move rfl) (s_nil (W_block (W_loopS (γ := Nat) H0 [(0, _), (1, _), (12, _)] ⟨rfl, rfl, rfl, trivial⟩ (fun k => [(13, .int .i64 k)]) (fun k => k ≤ xs.length ∧ (∀ i, i < k → xs.getD i 0 = ys.getD i 0)) (fun k => xs.length - k) 0 ⟨rfl, trivial⟩ ⟨by omega, fun i hi => by omega⟩ (fun k w1 H1 ⟨hk, he⟩ => ?_)))))))))
  dsimp only [List.cons_append, List.nil_append]
  refine W_sr (sV rfl (py_lss rfl rfl) (s_nil (W_seq (W_ifd rfl (fun c2 => ?_) (fun c2 => ?_)))))
  ·refine W_skip (W_seq (W_block (W_sr (sV rfl (py_move rfl) (sV rfl (py_assign rfl) (s_nil (W_seq ?_)))))))
   obtain ⟨eb1, eo1, ee1, ec1⟩ := elem_int (H1.seen 0 rfl) k (by omega)
   have eI1 := elem_i64 (H1.seen 0 rfl) k (by omega)
   obtain ⟨eb2, eo2, ee2, ec2⟩ := elem_int (H1.seen 1 rfl) k (by omega)
   have eI2 := elem_i64 (H1.seen 1 rfl) k (by omega)
   refine W_drw (S := Ext No _) [(0, true), (1, true), (2, true), (3, true), (4, true), (5, true), (6, true), (7, true), (8, false)] (by kernel_rfl) (by kernel_rfl) (by kernel_rfl) rfl (fun _ => Ext.refl.drawn _) (fun q1 => ?_)
   have H2 := H1.drawn q1
   refine dV rfl rfl (fun zw hx => py_move rfl) (dV rfl rfl (fun zw hx => py_move rfl) (dV rfl rfl (fun zw hx => py_elz Tryz.underlying25 Tryz.sizeOf2 rfl rfl ee1 k (by omega) (by omega)) (dV rfl rfl (fun zw hx => py_load Tryz.underlying2 rfl rfl (hx.cell ec1)) (dV rfl rfl (fun zw hx => py_move rfl) (dV rfl rfl (fun zw hx => py_move rfl) (dV rfl rfl (fun zw hx => py_elz Tryz.underlying25 Tryz.sizeOf2 rfl rfl ee2 k (by omega) (by omega)) (dV rfl rfl (fun zw hx => py_load Tryz.underlying2 rfl rfl (hx.cell ec2)) (d_end rfl (wn rfl) rfl rfl (py_neq rfl rfl) (d_nil (W_ifd rfl (fun c3 => ?_) (fun c3 => ?_)))))))))))
   ·refine W_sr (sV rfl (py_assign rfl) (s_nil (W_ret (hQ _ _ (fin1 Tryz.results244 rfl (⟨H2.ext, ?_⟩))))))
    rw [decide_eq_false (fun e => by subst e; exact c3 rfl)]
   ·refine W_skip (W_reg (sV rfl (py_add rfl rfl (in64 ⟨by omega, by omega⟩)) (sV rfl (py_move rfl) (s_nil (⟨k + 1, ⟨rfl, rfl, rfl, rfl, trivial⟩, ⟨H2, by omega, fun i hi => ?_⟩, by dsimp only; omega⟩)))))
    by_cases e : i = k
    ·subst e
     simpa using c3
    ·exact he i (by omega)
  ·refine W_exit (W_sr (sV rfl (py_assign rfl) (s_nil (W_ret (hQ _ _ (fin1 Tryz.results244 rfl (⟨H1.ext, ?_⟩)))))))
   rw [decide_eq_true (getD_ext (d := 0) (by omega) fun i hi => he i (by omega))]
theorem Tryz_impl_itemFault {w : World} {s : Shape} {r : Rec} {rA6 : Option Addr} {rC6 : Nat} {rA7 : Option Addr} {rC7 : Nat} {rA8 : Option Addr} {rC8 : Nat} (rK : r.Ok) (rS6 : Sees w [.slice rA6 r.Rows.length rC6] r.Rows) (rS7 : Sees w [.slice rA7 r.Data.length rC7] r.Data) (rS8 : Sees w [.slice rA8 r.Delta.length rC8] r.Delta) (hs : s.ok = true) : Ret Tryz.prog 182 #[s.v, r.val rA6 rC6 rA7 rC7 rA8 rC8] w fun v w' => Ext No w w' ∧ (v = .int .i64 (itemF s r)) := by
 have rK2 := rK
 unfold Rec.Ok at rK2
 try unfold I64ok at rK2
 try unfold maxLen at rK2
 have rN2 : r.Name.size ≤ maxLen := by unfold maxLen; omega
 have rL6 := sees_len rS6
 unfold maxLen at rL6
 obtain ⟨rF6, rO6⟩ := rS6
 have rL7 := sees_len rS7
 unfold maxLen at rL7
 obtain ⟨rF7, rO7⟩ := rS7
 have rL8 := sees_len rS8
 unfold maxLen at rL8
 obtain ⟨rF8, rO8⟩ := rS8
 have sbd := shape_bd hs
 refine ret_Q (vs := [s.v, r.val rA6 rC6 rA7 rC7 rA8 rC8]) Tryz.func182 rfl Tryz.ntmps182 rfl (fun Q hQ hN => ?_)
 have H0 := Sep.start (w := w) (F := [seen false [.slice rA6 r.Rows.length rC6] r.Rows rF6, seen false [.slice rA7 r.Data.length rC7] r.Data rF7, seen false [.slice rA8 r.Delta.length rC8] r.Delta rF8]) (all_cons rO6 (all_cons rO7 (all_cons rO8 (by simp))))
 refine W_sr (s_box (wn rfl) rfl rfl H0 (fun b1 w1 e1 g1 H1 => ?_))
 refine s_box (wn rfl) rfl rfl H1 (fun b2 w2 e2 g2 H2 => ?_)
 refine sV rfl (py_assign rfl) (s_nil (W_seq (W_sr (sV rfl (py_field Tryz.underlying66 rfl Tryz.sizeOf9 rfl rfl) (sV rfl (py_load Tryz.underlying9 rfl rfl (cell_atL (H2.box 1 rfl) rfl)) (s_call (wn rfl) rfl rfl (pc_call Tryz.func239 rfl Tryz_nm239 rfl) (Tryz_impl_NameFault (by assumption)) (fun v1 w3 r1 => ?_)))))))
 obtain ⟨e3, rfl⟩ := r1
 have H3 := H2.to e3
 refine sV rfl (py_assign rfl) (s_nil (W_sr (sV rfl (py_move rfl) (sV rfl (py_neq rfl rfl) (s_nil (W_ifd rfl (fun c1 => ?_) (fun c1 => ?_)))))))
 ·refine W_sr (sV rfl (py_move rfl) (sV rfl (py_assign rfl) (s_nil (W_ret (hQ _ _ (fin1 Tryz.results182 rfl ?_))))))
  exact ⟨H3.ext, congrArg (Value.int .i64) (itemF_name (by omega)).symm⟩
 ·refine W_skip (W_seq (W_sr (sV rfl (py_field Tryz.underlying66 rfl Tryz.sizeOf2 rfl rfl) (sV rfl (py_load Tryz.underlying2 rfl rfl (cell_atL (H3.box 1 rfl) rfl)) (sV rfl (py_eql rfl rfl) (s_nil (W_ifd rfl (fun c2 => ?_) (fun c2 => ?_))))))))
  ·refine W_seq (W_sr (sV rfl (py_field Tryz.underlying66 rfl Tryz.sizeOf61 rfl rfl) (sV rfl (py_load Tryz.underlying61 rfl rfl (cell_atL (H3.box 1 rfl) rfl)) (sV rfl (py_len Tryz.underlying61 rfl) (sV rfl (py_gtr rfl rfl) (sV rfl (py_move rfl) (s_grp 4 (j := 4) (want := false) (t := 29) rfl rfl rfl rfl (fun hg1 kk1 => s_val (wgE rfl rfl rfl hg1) rfl rfl (py_field Tryz.underlying66 rfl Tryz.sizeOf25 rfl rfl) (s_val (wgE rfl rfl rfl hg1) rfl rfl (py_load Tryz.underlying25 rfl rfl (cell_atL (H3.box 1 rfl) rfl)) (s_val (wgE rfl rfl rfl hg1) rfl rfl (py_len Tryz.underlying25 rfl) (s_val (wgE rfl rfl rfl hg1) rfl rfl (py_gtr rfl rfl) (kk1 _ _ (kx rfl (kx rfl (kx rfl (kx rfl k0)))) rfl Ext.refl))))) (fun w4 e4 => ?_))))))))
   have H4 := H3.to e4
   refine sV rfl (py_bor rfl rfl) (s_nil (W_if rfl (fun c3 => ?_) (fun c3 => ?_)))
   ·refine W_sr (sV rfl (py_assign rfl) (s_nil (W_ret (hQ _ _ (fin1 Tryz.results182 rfl ?_)))))
    exact ⟨H4.ext, congrArg (Value.int .i64) (itemF_bad (by omega) (by rw [item_del (by omega)]; by_cases hd : r.Data = [] <;> by_cases he : r.Rows = [] <;> simp_all)).symm⟩
   ·refine W_skip (W_sr (sV rfl (py_assign rfl) (s_nil (W_ret (hQ _ _ (fin1 Tryz.results182 rfl ?_))))))
    exact ⟨H4.ext, congrArg (Value.int .i64) (itemF_ok (by omega) (by rw [item_del (by omega)]; by_cases hd : r.Data = [] <;> by_cases he : r.Rows = [] <;> simp_all)).symm⟩
  ·refine W_skip (W_sr (sV rfl (py_loadS Tryz.underlying33 rfl Tryz.sizeOf33 rfl rfl (At.whole (H3.box 0 rfl))) (sV rfl (py_field Tryz.underlying66 rfl Tryz.sizeOf2 rfl rfl) (sV rfl (py_load Tryz.underlying2 rfl rfl (cell_atL (H3.box 1 rfl) rfl)) (s_call (wn rfl) rfl rfl (pc_call Tryz.func240 rfl Tryz_nm240 rfl) (Tryz_impl_Shape_parts (by assumption) (by unfold I64ok; omega)) (fun v2 w5 r2 => ?_))))))
   obtain ⟨e5, rfl⟩ := r2
   have H5 := H3.to e5
   refine sV rfl (py_move rfl) (sV rfl (py_extr rfl rfl) (sV rfl (py_extr rfl rfl) (sV rfl (py_assign rfl) (sV rfl (py_assign rfl) (s_nil (W_seq (W_sr (sV rfl (py_move rfl) (sV rfl (py_neq rfl rfl) (s_nil (W_ifd rfl (fun c4 => ?_) (fun c4 => ?_))))))))))))
   ·refine W_sr (sV rfl (py_assign rfl) (s_nil (W_ret (hQ _ _ (fin1 Tryz.results182 rfl ?_)))))
    exact ⟨H5.ext, congrArg (Value.int .i64) (itemF_bad (by omega) (item_long (by omega) (by omega))).symm⟩
   ·refine W_skip (W_seq (W_drw (S := Ext No _) [(0, true), (1, true), (3, true), (4, true), (2, false), (5, true), (6, true), (7, true), (8, true), (9, true), (10, true), (11, true), (12, false)] (by kernel_rfl) (by kernel_rfl) (by kernel_rfl) rfl (fun _ => Ext.refl.drawn _) (fun q1 => ?_)))
    have H6 := H5.drawn q1
    refine dV rfl rfl (fun zw hx => py_field Tryz.underlying66 rfl Tryz.sizeOf61 rfl rfl) (dV rfl rfl (fun zw hx => py_load Tryz.underlying61 rfl rfl (cell_atL (hx.heap (H6.box 1 rfl)) rfl)) (dV rfl rfl (fun zw hx => py_field Tryz.underlying66 rfl Tryz.sizeOf2 rfl rfl) (dV rfl rfl (fun zw hx => py_load Tryz.underlying2 rfl rfl (cell_atL (hx.heap (H6.box 1 rfl)) rfl)) (d_call rfl (wn rfl) rfl rfl (pc_call Tryz.func121 rfl Tryz_nm121 rfl) (Tryz_size_byte (H6.sees 1 rfl)) (fun hS _ _ r _ => hS.trans r.1.no) (fun v3 w6 r3 => ?_)))))
    obtain ⟨e6, rfl⟩ := r3
    have H7 := H6.to e6
    refine dV rfl rfl (fun zw hx => py_eql rfl rfl) (dV rfl rfl (fun zw hx => py_move rfl) (d_case (t := 46) rfl (fun hg2 => ?_) (fun hg2 => ?_)))
    ·try simp only [decide_eq_true_eq, decide_eq_false_iff_not] at hg2
     refine d_val rfl (wg rfl rfl rfl) rfl rfl (fun zw hx => py_field Tryz.underlying66 rfl Tryz.sizeOf25 rfl rfl) (d_val rfl (wg rfl rfl rfl) rfl rfl (fun zw hx => py_load Tryz.underlying25 rfl rfl (cell_atL (hx.heap (H6.box 1 rfl)) rfl)) (d_val rfl (wg rfl rfl rfl) rfl rfl (fun zw hx => py_len Tryz.underlying25 rfl) (d_val rfl (wg rfl rfl rfl) rfl rfl (fun zw hx => py_eql rfl rfl) (dV rfl rfl (fun zw hx => py_pickT rfl rfl) (d_end rfl (wn rfl) rfl rfl (py_assign rfl) (d_nil (W_sr (sV rfl (py_field Tryz.underlying66 rfl Tryz.sizeOf61 rfl rfl) (sV rfl (py_load Tryz.underlying61 rfl rfl (cell_atL (H7.box 1 rfl) rfl)) (sV rfl (py_len Tryz.underlying61 rfl) (sV rfl (py_eql rfl rfl) (sV rfl (py_move rfl) (s_grp 5 (j := 4) (want := true) (t := 61) rfl rfl rfl rfl (fun hg3 kk2 => s_val (wgE rfl rfl rfl hg3) rfl rfl (py_field Tryz.underlying66 rfl Tryz.sizeOf25 rfl rfl) (s_val (wgE rfl rfl rfl hg3) rfl rfl (py_load Tryz.underlying25 rfl rfl (cell_atL (H7.box 1 rfl) rfl)) (s_callv (wgE rfl rfl rfl hg3) rfl rfl (pc_call Tryz.func155 rfl Tryz_nm155 rfl) (Tryz_size_int64 (H7.sees 0 rfl)) (fun w8 e8 => s_val (wgE rfl rfl rfl hg3) rfl rfl (py_move rfl) (s_val (wgE rfl rfl rfl hg3) rfl rfl (py_eql rfl rfl) (kk2 _ _ (kx rfl (kx rfl (kx rfl (kx rfl (kx rfl k0))))) rfl (Ext.refl.trans e8))))))) (fun w7 e7 => ?_))))))))))))))
     have H8 := H7.to e7
     refine sV rfl (py_band rfl rfl) (sV rfl (py_assign rfl) (s_nil (W_seq (W_sr (sV rfl (py_field Tryz.underlying66 rfl Tryz.sizeOf25 rfl rfl) (sV rfl (py_load Tryz.underlying25 rfl rfl (cell_atL (H8.box 1 rfl) rfl)) (sV rfl (py_len Tryz.underlying25 rfl) (sV rfl (py_move rfl) (s_nil (W_block (W_loopS (γ := Nat) H8 [(2, _), (3, _), (4, _), (8, _), (64, _), (65, _)] ⟨rfl, rfl, rfl, rfl, rfl, rfl, trivial⟩ (fun k => [(9, .bool (decide ((r.Data.length : Int) = 0) && decide ((r.Rows.length : Int) = partsOf s r.Length) && (List.range k).all (apartAt r.Rows (s.Rows - 1)))), (66, .int .i64 k)]) (fun k => k ≤ r.Rows.length ∧ True) (fun k => r.Rows.length - k) 0 ⟨eqB (by simp [partsN_ok (show longOf s r.Length = 0 by omega)]), rfl, trivial⟩ ⟨by omega, trivial⟩ (fun k w9 H9 ⟨hk, _⟩ => ?_))))))))))))
     dsimp only [List.cons_append, List.nil_append]
     refine W_sr (sV rfl (py_lss rfl rfl) (s_nil (W_seq (W_ifd rfl (fun c5 => ?_) (fun c5 => ?_)))))
     ·refine W_skip (W_seq (W_block (W_seq ?_)))
      obtain ⟨eb1, eo1, ee1, ec1⟩ := elem_int (H9.seen 0 rfl) k (by omega)
      have eI1 := elem_i64 (H9.seen 0 rfl) k (by omega)
      refine W_reg (sV rfl (py_move rfl) (sV rfl (py_elz Tryz.underlying25 Tryz.sizeOf2 rfl rfl ee1 k (by omega) (by omega)) (sV rfl (py_load Tryz.underlying2 rfl rfl ec1) (sV rfl (py_assign rfl) (sV rfl (py_assign rfl) (s_nil (W_reg (sV rfl (py_move rfl) (sV rfl (py_move rfl) (s_case (t := 72) rfl (fun hg4 => ?_) (fun hg4 => ?_)))))))))))
      ·try simp only [decide_eq_true_eq, decide_eq_false_iff_not] at hg4
       refine s_val (wg rfl rfl rfl) rfl rfl (py_loadS Tryz.underlying33 rfl Tryz.sizeOf33 rfl rfl (At.whole (H9.box 0 rfl))) (s_val (wg rfl rfl rfl) rfl rfl (py_move rfl) (s_call (wg rfl rfl rfl) rfl rfl (pc_call Tryz.func120 rfl Tryz_nm120 rfl) (Tryz_impl_Shape_isRow (by assumption)) (fun v4 w10 r4 => ?_)))
       obtain ⟨e9, rfl⟩ := r4
       have H10 := H9.to e9
       refine sV rfl (py_pickT rfl rfl) (sV rfl (py_move rfl) (s_case (t := 77) rfl (fun hg5 => ?_) (fun hg5 => ?_)))
       ·try simp only [decide_eq_true_eq, decide_eq_false_iff_not] at hg5
        refine s_val (wg rfl rfl rfl) rfl rfl (py_field Tryz.underlying66 rfl Tryz.sizeOf25 rfl rfl) (s_val (wg rfl rfl rfl) rfl rfl (py_load Tryz.underlying25 rfl rfl (cell_atL (H10.box 1 rfl) rfl)) (s_val (wg rfl rfl rfl) rfl rfl (py_move rfl) ?_))
        have sc1 := own_le_cap (H10.seen 0 rfl)
        obtain ⟨sf1, so1, ss1⟩ := own_cutL (H10.seen 0 rfl) (0) (k) _ (by omega) (by omega) (by omega) (Nat.le_refl _)
        have H11 := H10.look1 0 rfl so1 ss1
        have sl1 := cut_len (xs := r.Rows) (l := 0) (h := k) (by omega)
        refine s_val (wg rfl rfl rfl) rfl rfl (py_slcHN Tryz.underlying25 Tryz.sizeOf2 rfl rfl (k) (by omega) (by omega) sl1) ((s_val (wg rfl rfl rfl) rfl rfl (py_move rfl) (s_call (wg rfl rfl rfl) rfl rfl (pc_call Tryz.func220 rfl Tryz_nm220 rfl) (Tryz_slices_Contains_int64_int64 (H11.sees 3 rfl)) (fun v5 w11 r5 => ?_))))
        obtain ⟨e10, rfl⟩ := r5
        have H12 := H11.to e10
        refine s_val (wg rfl rfl rfl) rfl rfl (py_not rfl) (sV rfl (py_pickT rfl rfl) (sV rfl (py_assign rfl) (s_nil (W_reg (sV rfl (py_add rfl rfl (in64 ⟨by omega, by omega⟩)) (sV rfl (py_move rfl) (s_nil (⟨k + 1, ⟨eqB (by simp only [all_step, apartAt, cut_take, ← Bool.and_assoc, hg4, hg5, Bool.true_and, Bool.false_and]), rfl, rfl, rfl, rfl, rfl, rfl, rfl, trivial⟩, ⟨(H12.ftake 3), by omega, trivial⟩, by dsimp only; omega⟩))))))))
       ·try simp only [decide_eq_true_eq, decide_eq_false_iff_not] at hg5
        refine s_skip (wog (b := false) rfl rfl rfl) rfl rfl (s_skip (wog (b := false) rfl rfl rfl) rfl rfl (s_skip (wog (b := false) rfl rfl rfl) rfl rfl (s_skip (wog (b := false) rfl rfl rfl) rfl rfl (s_skip (wog (b := false) rfl rfl rfl) rfl rfl (s_skip (wog (b := false) rfl rfl rfl) rfl rfl (s_skip (wog (b := false) rfl rfl rfl) rfl rfl (sV rfl (py_pickF rfl rfl) (sV rfl (py_assign rfl) (s_nil (W_reg (sV rfl (py_add rfl rfl (in64 ⟨by omega, by omega⟩)) (sV rfl (py_move rfl) (s_nil (⟨k + 1, ⟨eqB (by simp only [all_step, apartAt, cut_take, ← Bool.and_assoc, hg4, hg5, Bool.true_and, Bool.false_and]), rfl, rfl, rfl, rfl, rfl, rfl, rfl, trivial⟩, ⟨H10, by omega, trivial⟩, by dsimp only; omega⟩))))))))))))))
      ·try simp only [decide_eq_true_eq, decide_eq_false_iff_not] at hg4
       refine s_skip (wog (b := false) rfl rfl rfl) rfl rfl (s_skip (wog (b := false) rfl rfl rfl) rfl rfl (s_skip (wog (b := false) rfl rfl rfl) rfl rfl (sV rfl (py_pickF rfl rfl) (sV rfl (py_move rfl) (s_skip (wog (b := false) rfl rfl rfl) rfl rfl (s_skip (wog (b := false) rfl rfl rfl) rfl rfl (s_skip (wog (b := false) rfl rfl rfl) rfl rfl (s_skip (wog (b := false) rfl rfl rfl) rfl rfl (s_skip (wog (b := false) rfl rfl rfl) rfl rfl (s_skip (wog (b := false) rfl rfl rfl) rfl rfl (s_skip (wog (b := false) rfl rfl rfl) rfl rfl (sV rfl (py_pickF rfl rfl) (sV rfl (py_assign rfl) (s_nil (W_reg (sV rfl (py_add rfl rfl (in64 ⟨by omega, by omega⟩)) (sV rfl (py_move rfl) (s_nil (⟨k + 1, ⟨eqB (by simp only [all_step, apartAt, cut_take, ← Bool.and_assoc, hg4, Bool.true_and, Bool.false_and]), rfl, rfl, rfl, rfl, rfl, rfl, rfl, trivial⟩, ⟨H9, by omega, trivial⟩, by dsimp only; omega⟩)))))))))))))))))))
     ·refine W_exit (W_seq (W_seq ?_))
      obtain rfl : k = r.Rows.length := by omega
      have io := item_ok (s := s) (r := r) (by omega) (by omega) (decide_eq_true hg2).symm rfl rfl rfl
      simp only [Bool.true_and, Bool.false_and, Bool.false_or] at io
      refine W_reg (sV rfl (py_move rfl) (sV rfl (py_notd rfl) (sV rfl (py_move rfl) (s_grp 2 (j := 2) (want := true) (t := 91) rfl rfl rfl rfl (fun hg6 kk3 => s_val (wgE rfl rfl rfl hg6) rfl rfl (py_move rfl) (s_val (wgE rfl rfl rfl hg6) rfl rfl (py_not rfl) (kk3 _ _ (kx rfl (kx rfl k0)) rfl Ext.refl))) (fun w12 e11 => ?_)))))
      have H13 := H9.to e11
      refine sV rfl (py_band rfl rfl) (s_nil (W_if rfl (fun c6 => ?_) (fun c6 => ?_)))
      ·refine W_sr (sV rfl (py_assign rfl) (s_nil (W_ret (hQ _ _ (fin1 Tryz.results182 rfl ?_)))))
       exact ⟨H13.ext, congrArg (Value.int .i64) (itemF_bad (by omega) (by rw [← io]; exact not_true (by rw [Bool.not_or, ← decide_not]; exact c6))).symm⟩
      ·refine W_skip (W_sr (sV rfl (py_assign rfl) (s_nil (W_ret (hQ _ _ (fin1 Tryz.results182 rfl ?_))))))
       exact ⟨H13.ext, congrArg (Value.int .i64) (itemF_ok (by omega) (by rw [← io]; exact not_false (by rw [Bool.not_or, ← decide_not]; exact c6))).symm⟩
    ·try simp only [decide_eq_true_eq, decide_eq_false_iff_not] at hg2
     refine d_skip rfl (wog (b := false) rfl rfl rfl) rfl rfl (d_skip rfl (wog (b := false) rfl rfl rfl) rfl rfl (d_skip rfl (wog (b := false) rfl rfl rfl) rfl rfl (d_skip rfl (wog (b := false) rfl rfl rfl) rfl rfl (dV rfl rfl (fun zw hx => py_pickF rfl rfl) (d_end rfl (wn rfl) rfl rfl (py_assign rfl) (d_nil (W_sr (sV rfl (py_field Tryz.underlying66 rfl Tryz.sizeOf61 rfl rfl) (sV rfl (py_load Tryz.underlying61 rfl rfl (cell_atL (H7.box 1 rfl) rfl)) (sV rfl (py_len Tryz.underlying61 rfl) (sV rfl (py_eql rfl rfl) (sV rfl (py_move rfl) (s_grp 5 (j := 4) (want := true) (t := 61) rfl rfl rfl rfl (fun hg7 kk4 => s_val (wgE rfl rfl rfl hg7) rfl rfl (py_field Tryz.underlying66 rfl Tryz.sizeOf25 rfl rfl) (s_val (wgE rfl rfl rfl hg7) rfl rfl (py_load Tryz.underlying25 rfl rfl (cell_atL (H7.box 1 rfl) rfl)) (s_callv (wgE rfl rfl rfl hg7) rfl rfl (pc_call Tryz.func155 rfl Tryz_nm155 rfl) (Tryz_size_int64 (H7.sees 0 rfl)) (fun w14 e13 => s_val (wgE rfl rfl rfl hg7) rfl rfl (py_move rfl) (s_val (wgE rfl rfl rfl hg7) rfl rfl (py_eql rfl rfl) (kk4 _ _ (kx rfl (kx rfl (kx rfl (kx rfl (kx rfl k0))))) rfl (Ext.refl.trans e13))))))) (fun w13 e12 => ?_))))))))))))))
     have H14 := H7.to e12
     refine sV rfl (py_band rfl rfl) (sV rfl (py_assign rfl) (s_nil (W_seq (W_sr (sV rfl (py_field Tryz.underlying66 rfl Tryz.sizeOf25 rfl rfl) (sV rfl (py_load Tryz.underlying25 rfl rfl (cell_atL (H14.box 1 rfl) rfl)) (sV rfl (py_len Tryz.underlying25 rfl) (sV rfl (py_move rfl) (s_nil (W_block (W_loopS (γ := Nat) H14 [(2, _), (3, _), (4, _), (8, _), (64, _), (65, _)] ⟨rfl, rfl, rfl, rfl, rfl, rfl, trivial⟩ (fun k => [(9, .bool (decide ((r.Data.length : Int) = 0) && decide ((r.Rows.length : Int) = partsOf s r.Length) && (List.range k).all (apartAt r.Rows (s.Rows - 1)))), (66, .int .i64 k)]) (fun k => k ≤ r.Rows.length ∧ True) (fun k => r.Rows.length - k) 0 ⟨eqB (by simp [partsN_ok (show longOf s r.Length = 0 by omega)]), rfl, trivial⟩ ⟨by omega, trivial⟩ (fun k w15 H15 ⟨hk, _⟩ => ?_))))))))))))
     dsimp only [List.cons_append, List.nil_append]
     refine W_sr (sV rfl (py_lss rfl rfl) (s_nil (W_seq (W_ifd rfl (fun c7 => ?_) (fun c7 => ?_)))))
     ·refine W_skip (W_seq (W_block (W_seq ?_)))
      obtain ⟨eb2, eo2, ee2, ec2⟩ := elem_int (H15.seen 0 rfl) k (by omega)
      have eI2 := elem_i64 (H15.seen 0 rfl) k (by omega)
      refine W_reg (sV rfl (py_move rfl) (sV rfl (py_elz Tryz.underlying25 Tryz.sizeOf2 rfl rfl ee2 k (by omega) (by omega)) (sV rfl (py_load Tryz.underlying2 rfl rfl ec2) (sV rfl (py_assign rfl) (sV rfl (py_assign rfl) (s_nil (W_reg (sV rfl (py_move rfl) (sV rfl (py_move rfl) (s_case (t := 72) rfl (fun hg8 => ?_) (fun hg8 => ?_)))))))))))
      ·try simp only [decide_eq_true_eq, decide_eq_false_iff_not] at hg8
       refine s_val (wg rfl rfl rfl) rfl rfl (py_loadS Tryz.underlying33 rfl Tryz.sizeOf33 rfl rfl (At.whole (H15.box 0 rfl))) (s_val (wg rfl rfl rfl) rfl rfl (py_move rfl) (s_call (wg rfl rfl rfl) rfl rfl (pc_call Tryz.func120 rfl Tryz_nm120 rfl) (Tryz_impl_Shape_isRow (by assumption)) (fun v6 w16 r6 => ?_)))
       obtain ⟨e14, rfl⟩ := r6
       have H16 := H15.to e14
       refine sV rfl (py_pickT rfl rfl) (sV rfl (py_move rfl) (s_case (t := 77) rfl (fun hg9 => ?_) (fun hg9 => ?_)))
       ·try simp only [decide_eq_true_eq, decide_eq_false_iff_not] at hg9
        refine s_val (wg rfl rfl rfl) rfl rfl (py_field Tryz.underlying66 rfl Tryz.sizeOf25 rfl rfl) (s_val (wg rfl rfl rfl) rfl rfl (py_load Tryz.underlying25 rfl rfl (cell_atL (H16.box 1 rfl) rfl)) (s_val (wg rfl rfl rfl) rfl rfl (py_move rfl) ?_))
        have sc2 := own_le_cap (H16.seen 0 rfl)
        obtain ⟨sf2, so2, ss2⟩ := own_cutL (H16.seen 0 rfl) (0) (k) _ (by omega) (by omega) (by omega) (Nat.le_refl _)
        have H17 := H16.look1 0 rfl so2 ss2
        have sl2 := cut_len (xs := r.Rows) (l := 0) (h := k) (by omega)
        refine s_val (wg rfl rfl rfl) rfl rfl (py_slcHN Tryz.underlying25 Tryz.sizeOf2 rfl rfl (k) (by omega) (by omega) sl2) ((s_val (wg rfl rfl rfl) rfl rfl (py_move rfl) (s_call (wg rfl rfl rfl) rfl rfl (pc_call Tryz.func220 rfl Tryz_nm220 rfl) (Tryz_slices_Contains_int64_int64 (H17.sees 3 rfl)) (fun v7 w17 r7 => ?_))))
        obtain ⟨e15, rfl⟩ := r7
        have H18 := H17.to e15
        refine s_val (wg rfl rfl rfl) rfl rfl (py_not rfl) (sV rfl (py_pickT rfl rfl) (sV rfl (py_assign rfl) (s_nil (W_reg (sV rfl (py_add rfl rfl (in64 ⟨by omega, by omega⟩)) (sV rfl (py_move rfl) (s_nil (⟨k + 1, ⟨eqB (by simp only [all_step, apartAt, cut_take, ← Bool.and_assoc, hg8, hg9, Bool.true_and, Bool.false_and]), rfl, rfl, rfl, rfl, rfl, rfl, rfl, trivial⟩, ⟨(H18.ftake 3), by omega, trivial⟩, by dsimp only; omega⟩))))))))
       ·try simp only [decide_eq_true_eq, decide_eq_false_iff_not] at hg9
        refine s_skip (wog (b := false) rfl rfl rfl) rfl rfl (s_skip (wog (b := false) rfl rfl rfl) rfl rfl (s_skip (wog (b := false) rfl rfl rfl) rfl rfl (s_skip (wog (b := false) rfl rfl rfl) rfl rfl (s_skip (wog (b := false) rfl rfl rfl) rfl rfl (s_skip (wog (b := false) rfl rfl rfl) rfl rfl (s_skip (wog (b := false) rfl rfl rfl) rfl rfl (sV rfl (py_pickF rfl rfl) (sV rfl (py_assign rfl) (s_nil (W_reg (sV rfl (py_add rfl rfl (in64 ⟨by omega, by omega⟩)) (sV rfl (py_move rfl) (s_nil (⟨k + 1, ⟨eqB (by simp only [all_step, apartAt, cut_take, ← Bool.and_assoc, hg8, hg9, Bool.true_and, Bool.false_and]), rfl, rfl, rfl, rfl, rfl, rfl, rfl, trivial⟩, ⟨H16, by omega, trivial⟩, by dsimp only; omega⟩))))))))))))))
      ·try simp only [decide_eq_true_eq, decide_eq_false_iff_not] at hg8
       refine s_skip (wog (b := false) rfl rfl rfl) rfl rfl (s_skip (wog (b := false) rfl rfl rfl) rfl rfl (s_skip (wog (b := false) rfl rfl rfl) rfl rfl (sV rfl (py_pickF rfl rfl) (sV rfl (py_move rfl) (s_skip (wog (b := false) rfl rfl rfl) rfl rfl (s_skip (wog (b := false) rfl rfl rfl) rfl rfl (s_skip (wog (b := false) rfl rfl rfl) rfl rfl (s_skip (wog (b := false) rfl rfl rfl) rfl rfl (s_skip (wog (b := false) rfl rfl rfl) rfl rfl (s_skip (wog (b := false) rfl rfl rfl) rfl rfl (s_skip (wog (b := false) rfl rfl rfl) rfl rfl (sV rfl (py_pickF rfl rfl) (sV rfl (py_assign rfl) (s_nil (W_reg (sV rfl (py_add rfl rfl (in64 ⟨by omega, by omega⟩)) (sV rfl (py_move rfl) (s_nil (⟨k + 1, ⟨eqB (by simp only [all_step, apartAt, cut_take, ← Bool.and_assoc, hg8, Bool.true_and, Bool.false_and]), rfl, rfl, rfl, rfl, rfl, rfl, rfl, trivial⟩, ⟨H15, by omega, trivial⟩, by dsimp only; omega⟩)))))))))))))))))))
     ·refine W_exit (W_seq (W_seq ?_))
      obtain rfl : k = r.Rows.length := by omega
      have io := item_ok (s := s) (r := r) (by omega) (by omega) (decide_eq_false hg2).symm rfl rfl rfl
      simp only [Bool.true_and, Bool.false_and, Bool.false_or] at io
      refine W_reg (sV rfl (py_move rfl) (sV rfl (py_not rfl) (sV rfl (py_move rfl) (s_val (wg rfl rfl rfl) rfl rfl (py_move rfl) (s_val (wg rfl rfl rfl) rfl rfl (py_not rfl) (sV rfl (py_pickT rfl rfl) (s_nil (W_if rfl (fun c8 => ?_) (fun c8 => ?_)))))))))
      ·refine W_sr (sV rfl (py_assign rfl) (s_nil (W_ret (hQ _ _ (fin1 Tryz.results182 rfl ?_)))))
       exact ⟨H15.ext, congrArg (Value.int .i64) (itemF_bad (by omega) (by rw [← io]; exact not_true (id c8))).symm⟩
      ·refine W_skip (W_sr (sV rfl (py_assign rfl) (s_nil (W_ret (hQ _ _ (fin1 Tryz.results182 rfl ?_))))))
       exact ⟨H15.ext, congrArg (Value.int .i64) (itemF_ok (by omega) (by rw [← io]; exact not_false (id c8))).symm⟩
theorem Tryz_spec_l5Weights {w : World} {s : Shape} {r : Rec} {rA6 : Option Addr} {rC6 : Nat} {rA7 : Option Addr} {rC7 : Nat} {rA8 : Option Addr} {rC8 : Nat} (rK : r.Ok) (rS6 : Sees w [.slice rA6 r.Rows.length rC6] r.Rows) (rS7 : Sees w [.slice rA7 r.Data.length rC7] r.Data) (rS8 : Sees w [.slice rA8 r.Delta.length rC8] r.Delta) (hs : s.ok = true) (hg : 0 ≤ r.Group ∧ r.Group < s.Groups + s.Column) (hr : ∀ i, i < r.Rows.length → 0 ≤ r.Rows.getD i 0 ∧ r.Rows.getD i 0 < s.Groups + s.Column) : Ret Tryz.prog 179 #[s.v, r.val rA6 rC6 rA7 rC7 rA8 rC8] w fun v w' => Ext No w w' ∧ (v = .bool (weightsOK s r)) := by
 have rK2 := rK
 unfold Rec.Ok at rK2
 try unfold I64ok at rK2
 try unfold maxLen at rK2
 have rN2 : r.Name.size ≤ maxLen := by unfold maxLen; omega
 have rL6 := sees_len rS6
 unfold maxLen at rL6
 obtain ⟨rF6, rO6⟩ := rS6
 have rL7 := sees_len rS7
 unfold maxLen at rL7
 obtain ⟨rF7, rO7⟩ := rS7
 have rL8 := sees_len rS8
 unfold maxLen at rL8
 obtain ⟨rF8, rO8⟩ := rS8
 have sbd := shape_bd hs
 refine ret_Q (vs := [s.v, r.val rA6 rC6 rA7 rC7 rA8 rC8]) Tryz.func179 rfl Tryz.ntmps179 rfl (fun Q hQ hN => ?_)
 have H0 := Sep.start (w := w) (F := [seen false [.slice rA6 r.Rows.length rC6] r.Rows rF6, seen false [.slice rA7 r.Data.length rC7] r.Data rF7, seen false [.slice rA8 r.Delta.length rC8] r.Delta rF8]) (all_cons rO6 (all_cons rO7 (all_cons rO8 (by simp))))
 refine W_sr (s_box (wn rfl) rfl rfl H0 (fun b1 w1 e1 g1 H1 => ?_))
 refine s_box (wn rfl) rfl rfl H1 (fun b2 w2 e2 g2 H2 => ?_)
 refine sV rfl (py_assign rfl) (s_nil (W_seq (W_seq (W_drw (S := Ext No _) [(0, true), (1, true), (2, true), (3, true), (4, false), (5, true), (6, true), (7, true), (8, true), (9, true), (10, true), (11, true), (12, true), (13, true), (14, false)] (by kernel_rfl) (by kernel_rfl) (by kernel_rfl) rfl (fun _ => Ext.refl.drawn _) (fun q1 => ?_)))))
 have H3 := H2.drawn q1
 refine dV rfl rfl (fun zw hx => py_field Tryz.underlying66 rfl Tryz.sizeOf61 rfl rfl) (dV rfl rfl (fun zw hx => py_load Tryz.underlying61 rfl rfl (cell_atL (hx.heap (H3.box 1 rfl)) rfl)) (dV rfl rfl (fun zw hx => py_len Tryz.underlying61 rfl) (dV rfl rfl (fun zw hx => py_loadS Tryz.underlying33 rfl Tryz.sizeOf33 rfl rfl (At.whole (hx.heap (H3.box 0 rfl)))) (d_call rfl (wn rfl) rfl rfl (pc_call Tryz.func83 rfl Tryz_nm83 rfl) (Tryz_spec_l5All (by assumption)) (fun hS _ _ r _ => hS.trans r.1.no) (fun v1 w3 r1 => ?_)))))
 obtain ⟨e3, rfl⟩ := r1
 have H4 := H3.to e3
 refine dV rfl rfl (fun zw hx => py_neq rfl rfl) (dV rfl rfl (fun zw hx => py_move rfl) (d_case (t := 12) rfl (fun hg1 => ?_) (fun hg1 => ?_)))
 ·try simp only [decide_eq_true_eq, decide_eq_false_iff_not] at hg1
  refine d_skip rfl (wog (b := true) rfl rfl rfl) rfl rfl (d_skip rfl (wog (b := true) rfl rfl rfl) rfl rfl (d_skip rfl (wog (b := true) rfl rfl rfl) rfl rfl (d_skip rfl (wog (b := true) rfl rfl rfl) rfl rfl (d_skip rfl (wog (b := true) rfl rfl rfl) rfl rfl (d_skip rfl (wog (b := true) rfl rfl rfl) rfl rfl (d_skip rfl (wog (b := true) rfl rfl rfl) rfl rfl (d_end rfl (wn rfl) rfl rfl (py_pickT rfl rfl) (d_nil (W_ift rfl (W_sr (sV rfl (py_assign rfl) (s_nil (W_ret (hQ _ _ (fin1 Tryz.results179 rfl ?_)))))))))))))))
  exact ⟨H4.ext, congrArg Value.bool ((weight_bad (by omega)).symm)⟩
 ·try simp only [decide_eq_true_eq, decide_eq_false_iff_not] at hg1
  refine d_val rfl (wg rfl rfl rfl) rfl rfl (fun zw hx => py_field Tryz.underlying66 rfl Tryz.sizeOf61 rfl rfl) (d_val rfl (wg rfl rfl rfl) rfl rfl (fun zw hx => py_load Tryz.underlying61 rfl rfl (cell_atL (hx.heap (H3.box 1 rfl)) rfl)) (d_val rfl (wg rfl rfl rfl) rfl rfl (fun zw hx => py_field Tryz.underlying66 rfl Tryz.sizeOf2 rfl rfl) (d_val rfl (wg rfl rfl rfl) rfl rfl (fun zw hx => py_load Tryz.underlying2 rfl rfl (cell_atL (hx.heap (H3.box 1 rfl)) rfl)) ?_)))
  obtain ⟨eb1, eo1, ee1, ec1⟩ := elem_u8 (H3.seen 2 rfl) r.Group.toNat (by omega)
  refine d_val rfl (wg rfl rfl rfl) rfl rfl (fun zw hx => py_elz Tryz.underlying61 Tryz.sizeOf5 rfl rfl ee1 r.Group.toNat (by omega) (by omega)) (d_val rfl (wg rfl rfl rfl) rfl rfl (fun zw hx => py_load Tryz.underlying5 rfl rfl (hx.cell ec1)) (d_val rfl (wg rfl rfl rfl) rfl rfl (fun zw hx => py_neq rfl rfl) (d_end rfl (wn rfl) rfl rfl (py_pickF rfl rfl) (d_nil (W_ifd rfl (fun c1 => ?_) (fun c1 => ?_))))))
  ·refine W_sr (sV rfl (py_assign rfl) (s_nil (W_ret (hQ _ _ (fin1 Tryz.results179 rfl ?_)))))
   exact ⟨H4.ext, congrArg Value.bool ((weight_grp (by omega)).symm)⟩
  ·refine W_skip (W_seq (W_sr (sV rfl (py_assign rfl) (s_nil (W_block (W_loopS (γ := Nat) H4 [(3, _)] ⟨rfl, trivial⟩ (fun k => [(5, .int .i64 k)]) (fun k => k ≤ r.Rows.length ∧ (∀ i, i < k → ¬ ((r.Delta.getD (r.Rows.getD i 0).toNat 0).toNat : Int) = 0)) (fun k => r.Rows.length - k) 0 ⟨rfl, trivial⟩ ⟨by omega, fun i hi => by omega⟩ (fun k w4 H5 ⟨hk, he⟩ => ?_)))))))
   dsimp only [List.cons_append, List.nil_append]
   refine W_seq (W_sr (sV rfl (py_move rfl) (sV rfl (py_field Tryz.underlying66 rfl Tryz.sizeOf25 rfl rfl) (sV rfl (py_load Tryz.underlying25 rfl rfl (cell_atL (H5.box 1 rfl) rfl)) (sV rfl (py_len Tryz.underlying25 rfl) (sV rfl (py_lss rfl rfl) (s_nil (W_ifd rfl (fun c2 => ?_) (fun c2 => ?_)))))))))
   ·refine W_skip (W_seq (W_block (W_seq ?_)))
    have hrk := hr k (by omega)
    obtain ⟨eb2, eo2, ee2, ec2⟩ := elem_int (H5.seen 0 rfl) k (by omega)
    have eI1 := elem_i64 (H5.seen 0 rfl) k (by omega)
    obtain ⟨eb3, eo3, ee3, ec3⟩ := elem_u8 (H5.seen 2 rfl) (r.Rows.getD k 0).toNat (by omega)
    refine W_drw (S := Ext No _) [(0, true), (1, true), (2, true), (3, true), (4, true), (5, true), (6, true), (7, true), (8, true), (9, false)] (by kernel_rfl) (by kernel_rfl) (by kernel_rfl) rfl (fun _ => Ext.refl.drawn _) (fun q2 => ?_)
    have H6 := H5.drawn q2
    refine dV rfl rfl (fun zw hx => py_field Tryz.underlying66 rfl Tryz.sizeOf61 rfl rfl) (dV rfl rfl (fun zw hx => py_load Tryz.underlying61 rfl rfl (cell_atL (hx.heap (H6.box 1 rfl)) rfl)) (dV rfl rfl (fun zw hx => py_field Tryz.underlying66 rfl Tryz.sizeOf25 rfl rfl) (dV rfl rfl (fun zw hx => py_load Tryz.underlying25 rfl rfl (cell_atL (hx.heap (H6.box 1 rfl)) rfl)) (dV rfl rfl (fun zw hx => py_move rfl) (dV rfl rfl (fun zw hx => py_elz Tryz.underlying25 Tryz.sizeOf2 rfl rfl ee2 k (by omega) (by omega)) (dV rfl rfl (fun zw hx => py_load Tryz.underlying2 rfl rfl (hx.cell ec2)) (dV rfl rfl (fun zw hx => py_elz Tryz.underlying61 Tryz.sizeOf5 rfl rfl ee3 (r.Rows.getD k 0).toNat (by omega) (by omega)) (dV rfl rfl (fun zw hx => py_load Tryz.underlying5 rfl rfl (hx.cell ec3)) (d_end rfl (wn rfl) rfl rfl (py_eql rfl rfl) (d_nil (W_ifd rfl (fun c3 => ?_) (fun c3 => ?_))))))))))))
    ·refine W_sr (sV rfl (py_assign rfl) (s_nil (W_ret (hQ _ _ (fin1 Tryz.results179 rfl ?_)))))
     exact ⟨H6.ext, congrArg Value.bool ((weight_row k (by omega) c3).symm)⟩
    ·refine W_skip (W_reg (sV rfl (py_move rfl) (sV rfl (py_add rfl rfl (in64 ⟨by omega, by omega⟩)) (sV rfl (py_assign rfl) (s_nil (⟨k + 1, ⟨rfl, rfl, trivial⟩, ⟨H6, by omega, fun i hi => ?_⟩, by dsimp only; omega⟩))))))
     by_cases e : i = k
     ·subst e
      assumption
     ·exact he i (by omega)
   ·refine W_exit (W_sr (sV rfl (py_assign rfl) (s_nil (W_ret (hQ _ _ (fin1 Tryz.results179 rfl ?_))))))
    exact ⟨H5.ext, congrArg Value.bool ((weight_ok (by omega) (by omega) (fun i hi => he i (by omega))).symm)⟩
theorem Tryz_spec_l5Empty {w : World} {r : Rec} {rA6 : Option Addr} {rC6 : Nat} {rA7 : Option Addr} {rC7 : Nat} {rA8 : Option Addr} {rC8 : Nat} (rK : r.Ok) (rS6 : Sees w [.slice rA6 r.Rows.length rC6] r.Rows) (rS7 : Sees w [.slice rA7 r.Data.length rC7] r.Data) (rS8 : Sees w [.slice rA8 r.Delta.length rC8] r.Delta) : Ret Tryz.prog 180 #[r.val rA6 rC6 rA7 rC7 rA8 rC8] w fun v w' => Ext No w w' ∧ (v = .bool (emptyR r)) := by
 have rK2 := rK
 unfold Rec.Ok at rK2
 try unfold I64ok at rK2
 try unfold maxLen at rK2
 have rN2 : r.Name.size ≤ maxLen := by unfold maxLen; omega
 have rL6 := sees_len rS6
 unfold maxLen at rL6
 obtain ⟨rF6, rO6⟩ := rS6
 have rL7 := sees_len rS7
 unfold maxLen at rL7
 obtain ⟨rF7, rO7⟩ := rS7
 have rL8 := sees_len rS8
 unfold maxLen at rL8
 obtain ⟨rF8, rO8⟩ := rS8
 refine ret_Q (vs := [r.val rA6 rC6 rA7 rC7 rA8 rC8]) Tryz.func180 rfl Tryz.ntmps180 rfl (fun Q hQ hN => ?_)
 have H0 := Sep.start (w := w) (F := [seen false [.slice rA6 r.Rows.length rC6] r.Rows rF6, seen false [.slice rA7 r.Data.length rC7] r.Data rF7, seen false [.slice rA8 r.Delta.length rC8] r.Delta rF8]) (all_cons rO6 (all_cons rO7 (all_cons rO8 (by simp))))
 refine W_sr (s_box (wn rfl) rfl rfl H0 (fun b1 w1 e1 g1 H1 => ?_))
 refine sV rfl (py_assign rfl) (s_nil (W_sr (sV rfl (py_field Tryz.underlying66 rfl Tryz.sizeOf9 rfl rfl) (sV rfl (py_load Tryz.underlying9 rfl rfl (cell_atL (H1.box 0 rfl) rfl)) (sV rfl (py_seql rfl rfl) (sV rfl (py_move rfl) (s_grp 3 (j := 3) (want := true) (t := 9) rfl rfl rfl rfl (fun hg1 kk1 => s_val (wgE rfl rfl rfl hg1) rfl rfl (py_field Tryz.underlying66 rfl Tryz.sizeOf2 rfl rfl) (s_val (wgE rfl rfl rfl hg1) rfl rfl (py_load Tryz.underlying2 rfl rfl (cell_atL (H1.box 0 rfl) rfl)) (s_val (wgE rfl rfl rfl hg1) rfl rfl (py_eql rfl rfl) (kk1 _ _ (kx rfl (kx rfl (kx rfl k0))) rfl Ext.refl)))) (fun w2 e2 => ?_))))))))
 have H2 := H1.to e2
 refine sV rfl (py_band rfl rfl) (sV rfl (py_move rfl) (s_grp 3 (j := 8) (want := true) (t := 14) rfl rfl rfl rfl (fun hg2 kk2 => s_val (wgE rfl rfl rfl hg2) rfl rfl (py_field Tryz.underlying66 rfl Tryz.sizeOf2 rfl rfl) (s_val (wgE rfl rfl rfl hg2) rfl rfl (py_load Tryz.underlying2 rfl rfl (cell_atL (H2.box 0 rfl) rfl)) (s_val (wgE rfl rfl rfl hg2) rfl rfl (py_eql rfl rfl) (kk2 _ _ (kx rfl (kx rfl (kx rfl k0))) rfl Ext.refl)))) (fun w3 e3 => ?_)))
 have H3 := H2.to e3
 refine sV rfl (py_band rfl rfl) (sV rfl (py_move rfl) (s_grp 3 (j := 13) (want := true) (t := 19) rfl rfl rfl rfl (fun hg3 kk3 => s_val (wgE rfl rfl rfl hg3) rfl rfl (py_field Tryz.underlying66 rfl Tryz.sizeOf2 rfl rfl) (s_val (wgE rfl rfl rfl hg3) rfl rfl (py_load Tryz.underlying2 rfl rfl (cell_atL (H3.box 0 rfl) rfl)) (s_val (wgE rfl rfl rfl hg3) rfl rfl (py_eql rfl rfl) (kk3 _ _ (kx rfl (kx rfl (kx rfl k0))) rfl Ext.refl)))) (fun w4 e4 => ?_)))
 have H4 := H3.to e4
 refine sV rfl (py_band rfl rfl) (sV rfl (py_move rfl) (s_grp 4 (j := 18) (want := true) (t := 25) rfl rfl rfl rfl (fun hg4 kk4 => s_val (wgE rfl rfl rfl hg4) rfl rfl (py_field Tryz.underlying66 rfl Tryz.sizeOf25 rfl rfl) (s_val (wgE rfl rfl rfl hg4) rfl rfl (py_load Tryz.underlying25 rfl rfl (cell_atL (H4.box 0 rfl) rfl)) (s_val (wgE rfl rfl rfl hg4) rfl rfl (py_len Tryz.underlying25 rfl) (s_val (wgE rfl rfl rfl hg4) rfl rfl (py_eql rfl rfl) (kk4 _ _ (kx rfl (kx rfl (kx rfl (kx rfl k0)))) rfl Ext.refl))))) (fun w5 e5 => ?_)))
 have H5 := H4.to e5
 refine sV rfl (py_band rfl rfl) (sV rfl (py_move rfl) (s_grp 4 (j := 24) (want := true) (t := 31) rfl rfl rfl rfl (fun hg5 kk5 => s_val (wgE rfl rfl rfl hg5) rfl rfl (py_field Tryz.underlying66 rfl Tryz.sizeOf61 rfl rfl) (s_val (wgE rfl rfl rfl hg5) rfl rfl (py_load Tryz.underlying61 rfl rfl (cell_atL (H5.box 0 rfl) rfl)) (s_val (wgE rfl rfl rfl hg5) rfl rfl (py_len Tryz.underlying61 rfl) (s_val (wgE rfl rfl rfl hg5) rfl rfl (py_eql rfl rfl) (kk5 _ _ (kx rfl (kx rfl (kx rfl (kx rfl k0)))) rfl Ext.refl))))) (fun w6 e6 => ?_)))
 have H6 := H5.to e6
 refine sV rfl (py_band rfl rfl) (sV rfl (py_move rfl) (s_grp 4 (j := 30) (want := true) (t := 37) rfl rfl rfl rfl (fun hg6 kk6 => s_val (wgE rfl rfl rfl hg6) rfl rfl (py_field Tryz.underlying66 rfl Tryz.sizeOf61 rfl rfl) (s_val (wgE rfl rfl rfl hg6) rfl rfl (py_load Tryz.underlying61 rfl rfl (cell_atL (H6.box 0 rfl) rfl)) (s_val (wgE rfl rfl rfl hg6) rfl rfl (py_len Tryz.underlying61 rfl) (s_val (wgE rfl rfl rfl hg6) rfl rfl (py_eql rfl rfl) (kk6 _ _ (kx rfl (kx rfl (kx rfl (kx rfl k0)))) rfl Ext.refl))))) (fun w7 e7 => ?_)))
 have H7 := H6.to e7
 refine sV rfl (py_band rfl rfl) (sV rfl (py_assign rfl) (s_nil (W_ret (hQ _ _ (fin1 Tryz.results180 rfl ?_)))))
 exact ⟨H7.ext, congrArg Value.bool (by simp only [emptyR, noName, str_beq, Bool.and_assoc]; simp)⟩
theorem Tryz_spec_l5Apart {w : World} {xs : List Int} {xsA : Option Addr} {xsC : Nat} {m : Int} (xsS : Sees w [.slice xsA xs.length xsC] xs) : Ret Tryz.prog 148 #[.slice xsA xs.length xsC, .int .i64 m] w fun v w' => Ext No w w' ∧ (v = .bool (apartL xs m)) := by
 have xsL := sees_len xsS
 unfold maxLen at xsL
 obtain ⟨xsF, xsO⟩ := xsS
 refine ret_Q (vs := [.slice xsA xs.length xsC, .int .i64 m]) Tryz.func148 rfl Tryz.ntmps148 rfl (fun Q hQ hN => ?_)
 have H0 := Sep.start (w := w) (F := [seen false [.slice xsA xs.length xsC] xs xsF]) (all_cons xsO (by simp))
 refine W_sr (sV rfl (py_assign rfl) (s_nil (W_seq (W_sr (sV rfl (py_assign rfl) (s_nil (W_block (W_loopS (γ := Nat) H0 [(0, _), (1, _)] ⟨rfl, rfl, trivial⟩ (fun k => [(5, .int .i64 k)]) (fun k => k ≤ xs.length ∧ (∀ i, i < k → apartAt xs m i = true)) (fun k => xs.length - k) 0 ⟨rfl, trivial⟩ ⟨by omega, fun i hi => by omega⟩ (fun k w1 H1 ⟨hk, he⟩ => ?_)))))))))
 dsimp only [List.cons_append, List.nil_append]
 refine W_seq (W_sr (sV rfl (py_move rfl) (sV rfl (py_move rfl) (sV rfl (py_len Tryz.underlying25 rfl) (sV rfl (py_lss rfl rfl) (s_nil (W_ifd rfl (fun c1 => ?_) (fun c1 => ?_))))))))
 ·refine W_skip (W_seq (W_block (W_seq ?_)))
  obtain ⟨eb1, eo1, ee1, ec1⟩ := elem_int (H1.seen 0 rfl) k (by omega)
  have eI1 := elem_i64 (H1.seen 0 rfl) k (by omega)
  refine W_drw (S := Ext No _) [(0, true), (1, true), (2, true), (3, true), (4, true), (5, false), (6, true), (7, true), (8, true), (9, true), (10, true), (11, true), (12, true), (13, true), (14, true), (15, false), (16, false)] (by kernel_rfl) (by kernel_rfl) (by kernel_rfl) rfl (fun _ => Ext.refl.drawn _) (fun q1 => ?_)
  have H2 := H1.drawn q1
  refine dV rfl rfl (fun zw hx => py_move rfl) (dV rfl rfl (fun zw hx => py_move rfl) (dV rfl rfl (fun zw hx => py_elz Tryz.underlying25 Tryz.sizeOf2 rfl rfl ee1 k (by omega) (by omega)) (dV rfl rfl (fun zw hx => py_load Tryz.underlying2 rfl rfl (hx.cell ec1)) (dV rfl rfl (fun zw hx => py_move rfl) (d_call rfl (wn rfl) rfl rfl (pc_call Tryz.func149 rfl Tryz_nm149 rfl) Tryz_spec_l1In (fun hS _ _ r _ => hS.trans r.1.no) (fun v1 w2 r1 => ?_))))))
  obtain ⟨e1, rfl⟩ := r1
  have H3 := H2.to e1
  refine dV rfl rfl (fun zw hx => py_not rfl) (dV rfl rfl (fun zw hx => py_move rfl) (d_case (t := 19) rfl (fun hg1 => ?_) (fun hg1 => ?_)))
  ·try simp only [decide_eq_true_eq, decide_eq_false_iff_not] at hg1
   refine d_skip rfl (wog (b := true) rfl rfl rfl) rfl rfl (d_skip rfl (wog (b := true) rfl rfl rfl) rfl rfl (d_skip rfl (wog (b := true) rfl rfl rfl) rfl rfl (d_skip rfl (wog (b := true) rfl rfl rfl) rfl rfl (d_skip rfl (wog (b := true) rfl rfl rfl) rfl rfl (d_skip rfl (wog (b := true) rfl rfl rfl) rfl rfl (d_skip rfl (wog (b := true) rfl rfl rfl) rfl rfl (d_skipA rfl (wog (b := true) rfl rfl rfl) rfl rfl (d_end rfl (wn rfl) rfl rfl (py_pickT rfl rfl) (d_nil (W_ift rfl (W_sr (sV rfl (py_assign rfl) (s_nil (W_ret (hQ _ _ (fin1 Tryz.results148 rfl ?_))))))))))))))))
   exact ⟨H3.ext, congrArg Value.bool ((all_no k (by omega) (by simp only [apartAt, cut_take] at *; simp_all)).symm)⟩
  ·try simp only [decide_eq_true_eq, decide_eq_false_iff_not] at hg1
   refine d_val rfl (wg rfl rfl rfl) rfl rfl (fun zw hx => py_move rfl) (d_val rfl (wg rfl rfl rfl) rfl rfl (fun zw hx => py_move rfl) ?_)
   have sc1 := own_le_cap (H3.seen 0 rfl)
   obtain ⟨sf1, so1, ss1⟩ := own_cutL (H3.seen 0 rfl) (0) (k) _ (by omega) (by omega) (by omega) (Nat.le_refl _)
   have H4 := H3.look1 0 rfl so1 ss1
   have sl1 := cut_len (xs := xs) (l := 0) (h := k) (by omega)
   refine d_val rfl (wg rfl rfl rfl) rfl rfl (fun zw hx => py_slcHN Tryz.underlying25 Tryz.sizeOf2 rfl rfl (k) (by omega) (by omega) sl1) (d_val rfl (wg rfl rfl rfl) rfl rfl (fun zw hx => py_move rfl) (d_val rfl (wg rfl rfl rfl) rfl rfl (fun zw hx => py_move rfl) (d_val rfl (wg rfl rfl rfl) rfl rfl (fun zw hx => py_elz Tryz.underlying25 Tryz.sizeOf2 rfl rfl ee1 k (by omega) (by omega)) (d_val rfl (wg rfl rfl rfl) rfl rfl (fun zw hx => py_load Tryz.underlying2 rfl rfl (hx.cell ec1)) (d_call rfl (wg rfl rfl rfl) rfl rfl (pc_call Tryz.func139 rfl Tryz_nm139 rfl) (Tryz_spec_l1Has (H4.sees 1 rfl)) (fun hS _ _ r _ => hS.trans r.1.no) (fun v2 w3 r2 => ?_))))))
   obtain ⟨e2, rfl⟩ := r2
   have H5 := H4.to e2
   refine d_end rfl (wn rfl) rfl rfl (py_pickF rfl rfl) (d_nil (W_if rfl (fun c2 => ?_) (fun c2 => ?_)))
   ·refine W_sr (sV rfl (py_assign rfl) (s_nil (W_ret (hQ _ _ (fin1 Tryz.results148 rfl ?_)))))
    exact ⟨H5.ext, congrArg Value.bool ((all_no k (by omega) (by simp only [apartAt, cut_take] at *; simp_all)).symm)⟩
   ·refine W_skip (W_reg (sV rfl (py_move rfl) (sV rfl (py_add rfl rfl (in64 ⟨by omega, by omega⟩)) (sV rfl (py_assign rfl) (s_nil (⟨k + 1, ⟨rfl, rfl, rfl, trivial⟩, ⟨(H5.ftake 1), by omega, fun i hi => ?_⟩, by dsimp only; omega⟩))))))
    by_cases e : i = k
    ·subst e
     simp only [apartAt, cut_take] at *; simp_all
    ·exact he i (by omega)
 ·refine W_exit (W_sr (sV rfl (py_assign rfl) (s_nil (W_ret (hQ _ _ (fin1 Tryz.results148 rfl ?_))))))
  exact ⟨H1.ext, congrArg Value.bool ((all_yes fun i hi => he i (by omega)).symm)⟩
theorem Tryz_spec_l5Item {w : World} {s : Shape} {r : Rec} {rA6 : Option Addr} {rC6 : Nat} {rA7 : Option Addr} {rC7 : Nat} {rA8 : Option Addr} {rC8 : Nat} (rK : r.Ok) (rS6 : Sees w [.slice rA6 r.Rows.length rC6] r.Rows) (rS7 : Sees w [.slice rA7 r.Data.length rC7] r.Data) (rS8 : Sees w [.slice rA8 r.Delta.length rC8] r.Delta) (hs : s.ok = true) : Ret Tryz.prog 176 #[s.v, r.val rA6 rC6 rA7 rC7 rA8 rC8] w fun v w' => Ext No w w' ∧ (v = .bool (itemOK s r)) := by
 have rK2 := rK
 unfold Rec.Ok at rK2
 try unfold I64ok at rK2
 try unfold maxLen at rK2
 have rN2 : r.Name.size ≤ maxLen := by unfold maxLen; omega
 have rL6 := sees_len rS6
 unfold maxLen at rL6
 obtain ⟨rF6, rO6⟩ := rS6
 have rL7 := sees_len rS7
 unfold maxLen at rL7
 obtain ⟨rF7, rO7⟩ := rS7
 have rL8 := sees_len rS8
 unfold maxLen at rL8
 obtain ⟨rF8, rO8⟩ := rS8
 have sbd := shape_bd hs
 refine ret_Q (vs := [s.v, r.val rA6 rC6 rA7 rC7 rA8 rC8]) Tryz.func176 rfl Tryz.ntmps176 rfl (fun Q hQ hN => ?_)
 have H0 := Sep.start (w := w) (F := [seen false [.slice rA6 r.Rows.length rC6] r.Rows rF6, seen false [.slice rA7 r.Data.length rC7] r.Data rF7, seen false [.slice rA8 r.Delta.length rC8] r.Delta rF8]) (all_cons rO6 (all_cons rO7 (all_cons rO8 (by simp))))
 refine W_sr (s_box (wn rfl) rfl rfl H0 (fun b1 w1 e1 g1 H1 => ?_))
 refine s_box (wn rfl) rfl rfl H1 (fun b2 w2 e2 g2 H2 => ?_)
 refine sV rfl (py_assign rfl) (s_nil (W_seq (W_sr (sV rfl (py_field Tryz.underlying66 rfl Tryz.sizeOf2 rfl rfl) (sV rfl (py_load Tryz.underlying2 rfl rfl (cell_atL (H2.box 1 rfl) rfl)) (sV rfl (py_eql rfl rfl) (s_nil (W_ifd rfl (fun c1 => ?_) (fun c1 => ?_)))))))))
 ·refine W_sr (sV rfl (py_field Tryz.underlying66 rfl Tryz.sizeOf61 rfl rfl) (sV rfl (py_load Tryz.underlying61 rfl rfl (cell_atL (H2.box 1 rfl) rfl)) (sV rfl (py_len Tryz.underlying61 rfl) (sV rfl (py_eql rfl rfl) (sV rfl (py_move rfl) (s_grp 4 (j := 4) (want := true) (t := 16) rfl rfl rfl rfl (fun hg1 kk1 => s_val (wgE rfl rfl rfl hg1) rfl rfl (py_field Tryz.underlying66 rfl Tryz.sizeOf25 rfl rfl) (s_val (wgE rfl rfl rfl hg1) rfl rfl (py_load Tryz.underlying25 rfl rfl (cell_atL (H2.box 1 rfl) rfl)) (s_val (wgE rfl rfl rfl hg1) rfl rfl (py_len Tryz.underlying25 rfl) (s_val (wgE rfl rfl rfl hg1) rfl rfl (py_eql rfl rfl) (kk1 _ _ (kx rfl (kx rfl (kx rfl (kx rfl k0)))) rfl Ext.refl))))) (fun w3 e3 => ?_)))))))
  have H3 := H2.to e3
  refine sV rfl (py_band rfl rfl) (sV rfl (py_assign rfl) (s_nil (W_ret (hQ _ _ (fin1 Tryz.results176 rfl ?_)))))
  exact ⟨H3.ext, congrArg Value.bool (by rw [item_del (by omega)]; simp)⟩
 ·refine W_skip (W_seq (W_sr (sV rfl (py_loadS Tryz.underlying33 rfl Tryz.sizeOf33 rfl rfl (At.whole (H2.box 0 rfl))) (sV rfl (py_field Tryz.underlying66 rfl Tryz.sizeOf2 rfl rfl) (sV rfl (py_load Tryz.underlying2 rfl rfl (cell_atL (H2.box 1 rfl) rfl)) (s_call (wn rfl) rfl rfl (pc_call Tryz.func237 rfl Tryz_nm237 rfl) (Tryz_spec_l4Long (by assumption)) (fun v1 w4 r1 => ?_)))))))
  obtain ⟨e4, rfl⟩ := r1
  have H4 := H2.to e4
  refine sV rfl (py_neq rfl rfl) (s_nil (W_ifd rfl (fun c2 => ?_) (fun c2 => ?_)))
  ·refine W_sr (sV rfl (py_assign rfl) (s_nil (W_ret (hQ _ _ (fin1 Tryz.results176 rfl ?_)))))
   exact ⟨H4.ext, congrArg Value.bool ((item_long (by omega) (by omega)).symm)⟩
  ·refine W_skip (W_seq (W_sr (sV rfl (py_field Tryz.underlying66 rfl Tryz.sizeOf61 rfl rfl) (sV rfl (py_load Tryz.underlying61 rfl rfl (cell_atL (H4.box 1 rfl) rfl)) (sV rfl (py_len Tryz.underlying61 rfl) (sV rfl (py_gtr rfl rfl) (s_nil (W_ifd rfl (fun c3 => ?_) (fun c3 => ?_)))))))))
   ·refine W_sr (sV rfl (py_field Tryz.underlying66 rfl Tryz.sizeOf61 rfl rfl) (sV rfl (py_load Tryz.underlying61 rfl rfl (cell_atL (H4.box 1 rfl) rfl)) (sV rfl (py_len Tryz.underlying61 rfl) (sV rfl (py_field Tryz.underlying66 rfl Tryz.sizeOf2 rfl rfl) (sV rfl (py_load Tryz.underlying2 rfl rfl (cell_atL (H4.box 1 rfl) rfl)) (sV rfl (py_eql rfl rfl) (sV rfl (py_move rfl) (s_grp 4 (j := 6) (want := true) (t := 37) rfl rfl rfl rfl (fun hg2 kk2 => s_val (wgE rfl rfl rfl hg2) rfl rfl (py_field Tryz.underlying66 rfl Tryz.sizeOf25 rfl rfl) (s_val (wgE rfl rfl rfl hg2) rfl rfl (py_load Tryz.underlying25 rfl rfl (cell_atL (H4.box 1 rfl) rfl)) (s_val (wgE rfl rfl rfl hg2) rfl rfl (py_len Tryz.underlying25 rfl) (s_val (wgE rfl rfl rfl hg2) rfl rfl (py_eql rfl rfl) (kk2 _ _ (kx rfl (kx rfl (kx rfl (kx rfl k0)))) rfl Ext.refl))))) (fun w5 e5 => ?_)))))))))
    have H5 := H4.to e5
    refine sV rfl (py_band rfl rfl) (sV rfl (py_assign rfl) (s_nil (W_ret (hQ _ _ (fin1 Tryz.results176 rfl ?_)))))
    exact ⟨H5.ext, congrArg Value.bool (by rw [item_long0 (by omega) (by omega), if_pos (by omega)]; simp)⟩
   ·refine W_skip (W_seq ?_)
    have hz := long_zero (s := s) (len := r.Length) (by omega)
    refine W_drw (S := Ext No _) [(0, true), (1, true), (2, true), (3, true), (4, true), (5, true), (6, false), (7, true), (8, true), (9, true), (10, true), (11, true), (12, true), (13, true), (14, false), (15, true), (16, false)] (by kernel_rfl) (by kernel_rfl) (by kernel_rfl) rfl (fun _ => Ext.refl.drawn _) (fun q1 => ?_)
    have H6 := H4.drawn q1
    refine dV rfl rfl (fun zw hx => py_field Tryz.underlying66 rfl Tryz.sizeOf25 rfl rfl) (dV rfl rfl (fun zw hx => py_load Tryz.underlying25 rfl rfl (cell_atL (hx.heap (H6.box 1 rfl)) rfl)) (dV rfl rfl (fun zw hx => py_len Tryz.underlying25 rfl) (dV rfl rfl (fun zw hx => py_loadS Tryz.underlying33 rfl Tryz.sizeOf33 rfl rfl (At.whole (hx.heap (H6.box 0 rfl)))) (dV rfl rfl (fun zw hx => py_field Tryz.underlying66 rfl Tryz.sizeOf2 rfl rfl) (dV rfl rfl (fun zw hx => py_load Tryz.underlying2 rfl rfl (cell_atL (hx.heap (H6.box 1 rfl)) rfl)) (d_call rfl (wn rfl) rfl rfl (pc_call Tryz.func238 rfl Tryz_nm238 rfl) (Tryz_spec_l4Parts (by assumption) (by omega)) (fun hS _ _ r _ => hS.trans r.1.no) (fun v2 w6 r2 => ?_)))))))
    obtain ⟨e6, rfl⟩ := r2
    have H7 := H6.to e6
    refine dV rfl rfl (fun zw hx => py_eql rfl rfl) (dV rfl rfl (fun zw hx => py_move rfl) (d_case (t := 47) rfl (fun hg3 => ?_) (fun hg3 => ?_)))
    ·try simp only [decide_eq_true_eq, decide_eq_false_iff_not] at hg3
     refine d_val rfl (wg rfl rfl rfl) rfl rfl (fun zw hx => py_field Tryz.underlying66 rfl Tryz.sizeOf25 rfl rfl) (d_val rfl (wg rfl rfl rfl) rfl rfl (fun zw hx => py_load Tryz.underlying25 rfl rfl (cell_atL (hx.heap (H6.box 1 rfl)) rfl)) (d_val rfl (wg rfl rfl rfl) rfl rfl (fun zw hx => py_field Tryz.underlying33 rfl Tryz.sizeOf2 rfl rfl) (d_val rfl (wg rfl rfl rfl) rfl rfl (fun zw hx => py_load Tryz.underlying2 rfl rfl (cell_atL (hx.heap (H6.box 0 rfl)) rfl)) (d_val rfl (wg rfl rfl rfl) rfl rfl (fun zw hx => py_sub rfl rfl (in64 ⟨by omega, by omega⟩)) (d_call rfl (wg rfl rfl rfl) rfl rfl (pc_call Tryz.func148 rfl Tryz_nm148 rfl) (Tryz_spec_l5Apart (H7.sees 0 rfl)) (fun hS _ _ r _ => hS.trans r.1.no) (fun v3 w7 r3 => ?_))))))
     obtain ⟨e7, rfl⟩ := r3
     have H8 := H7.to e7
     refine dV rfl rfl (fun zw hx => py_pickT rfl rfl) (d_end rfl (wn rfl) rfl rfl (py_assign rfl) (d_nil (W_ret (hQ _ _ (fin1 Tryz.results176 rfl ?_)))))
     exact ⟨H8.ext, congrArg Value.bool (by rw [item_long0 (by omega) (by omega), if_neg (by omega)]; simp_all)⟩
    ·try simp only [decide_eq_true_eq, decide_eq_false_iff_not] at hg3
     refine d_skip rfl (wog (b := false) rfl rfl rfl) rfl rfl (d_skip rfl (wog (b := false) rfl rfl rfl) rfl rfl (d_skip rfl (wog (b := false) rfl rfl rfl) rfl rfl (d_skip rfl (wog (b := false) rfl rfl rfl) rfl rfl (d_skip rfl (wog (b := false) rfl rfl rfl) rfl rfl (d_skipA rfl (wog (b := false) rfl rfl rfl) rfl rfl (dV rfl rfl (fun zw hx => py_pickF rfl rfl) (d_end rfl (wn rfl) rfl rfl (py_assign rfl) (d_nil (W_ret (hQ _ _ (fin1 Tryz.results176 rfl ?_)))))))))))
     exact ⟨H7.ext, congrArg Value.bool (by rw [item_long0 (by omega) (by omega), if_neg (by omega)]; simp_all)⟩
theorem Tryz_impl_shareFault_1 {w : World} {x : Int} {rb : Nat} {r : Rec} {rA6 : Option Addr} {rC6 : Nat} {rA7 : Option Addr} {rC7 : Nat} {rA8 : Option Addr} {rC8 : Nat} (rB : w.heap[rb]? = some (.cells [.int .i64 r.Kind, .int .i64 r.Seq, .string r.Name, .int .i64 r.Length, .int .i64 r.Group, .int .i64 r.Row, .slice rA6 r.Rows.length rC6, .slice rA7 r.Data.length rC7, .slice rA8 r.Delta.length rC8].toArray 66)) (rK : r.Ok) (rS6 : Sees w [.slice rA6 r.Rows.length rC6] r.Rows) (rS7 : Sees w [.slice rA7 r.Data.length rC7] r.Data) (rS8 : Sees w [.slice rA8 r.Delta.length rC8] r.Delta) (hx : 0 ≤ x ∧ x < r.Delta.length) : Ret Tryz.prog 243 #[.int .i64 x, .pointer (some ⟨rb, 0, none⟩)] w fun v w' => Ext No w w' ∧ (v = .bool (decide (((r.Delta.getD (x).toNat 0).toNat : Int) = 0))) := by
 have rK2 := rK
 unfold Rec.Ok at rK2
 try unfold I64ok at rK2
 try unfold maxLen at rK2
 have rN2 : r.Name.size ≤ maxLen := by unfold maxLen; omega
 have rL6 := sees_len rS6
 unfold maxLen at rL6
 obtain ⟨rF6, rO6⟩ := rS6
 have rL7 := sees_len rS7
 unfold maxLen at rL7
 obtain ⟨rF7, rO7⟩ := rS7
 have rL8 := sees_len rS8
 unfold maxLen at rL8
 obtain ⟨rF8, rO8⟩ := rS8
 refine ret_Q (vs := [.int .i64 x, .pointer (some ⟨rb, 0, none⟩)]) Tryz.func243 rfl Tryz.ntmps243 rfl (fun Q hQ hN => ?_)
 have H0 := Sep.start (w := w) (F := [box rb (.cells [.int .i64 r.Kind, .int .i64 r.Seq, .string r.Name, .int .i64 r.Length, .int .i64 r.Group, .int .i64 r.Row, .slice rA6 r.Rows.length rC6, .slice rA7 r.Data.length rC7, .slice rA8 r.Delta.length rC8].toArray 66), seen false [.slice rA6 r.Rows.length rC6] r.Rows rF6, seen false [.slice rA7 r.Data.length rC7] r.Data rF7, seen false [.slice rA8 r.Delta.length rC8] r.Delta rF8]) (all_cons (by exact rB) (all_cons rO6 (all_cons rO7 (all_cons rO8 (by simp)))))
 refine W_sr (sV rfl (py_assign rfl) (s_nil (W_seq ?_)))
 obtain ⟨eb1, eo1, ee1, ec1⟩ := elem_u8 (H0.seen 3 rfl) x.toNat (by omega)
 refine W_reg (sV rfl (py_field Tryz.underlying66 rfl Tryz.sizeOf61 rfl rfl) (sV rfl (py_load Tryz.underlying61 rfl rfl (cell_atL (H0.fbox 0 rfl) rfl)) (sV rfl (py_move rfl) (sV rfl (py_elz Tryz.underlying61 Tryz.sizeOf5 rfl rfl ee1 x.toNat (by omega) (by omega)) (sV rfl (py_load Tryz.underlying5 rfl rfl ec1) (sV rfl (py_eql rfl rfl) (sV rfl (py_assign rfl) (s_nil (W_ret (hQ _ _ (fin1 Tryz.results243 rfl ?_)))))))))))
 exact ⟨H0.ext, rfl⟩
theorem Tryz_impl_shareFault {w : World} {s : Shape} {r : Rec} {rA6 : Option Addr} {rC6 : Nat} {rA7 : Option Addr} {rC7 : Nat} {rA8 : Option Addr} {rC8 : Nat} (rK : r.Ok) (rS6 : Sees w [.slice rA6 r.Rows.length rC6] r.Rows) (rS7 : Sees w [.slice rA7 r.Data.length rC7] r.Data) (rS8 : Sees w [.slice rA8 r.Delta.length rC8] r.Delta) (hs : s.ok = true) : Ret Tryz.prog 183 #[s.v, r.val rA6 rC6 rA7 rC7 rA8 rC8] w fun v w' => Ext No w w' ∧ (v = .int .i64 (if shareOK s r = true then 0 else 3)) := by
 have rK2 := rK
 unfold Rec.Ok at rK2
 try unfold I64ok at rK2
 try unfold maxLen at rK2
 have rN2 : r.Name.size ≤ maxLen := by unfold maxLen; omega
 have rL6 := sees_len rS6
 unfold maxLen at rL6
 obtain ⟨rF6, rO6⟩ := rS6
 have rL7 := sees_len rS7
 unfold maxLen at rL7
 obtain ⟨rF7, rO7⟩ := rS7
 have rL8 := sees_len rS8
 unfold maxLen at rL8
 obtain ⟨rF8, rO8⟩ := rS8
 have sbd := shape_bd hs
 refine ret_Q (vs := [s.v, r.val rA6 rC6 rA7 rC7 rA8 rC8]) Tryz.func183 rfl Tryz.ntmps183 rfl (fun Q hQ hN => ?_)
 have H0 := Sep.start (w := w) (F := [seen false [.slice rA6 r.Rows.length rC6] r.Rows rF6, seen false [.slice rA7 r.Data.length rC7] r.Data rF7, seen false [.slice rA8 r.Delta.length rC8] r.Delta rF8]) (all_cons rO6 (all_cons rO7 (all_cons rO8 (by simp))))
 refine W_sr (s_box (wn rfl) rfl rfl H0 (fun b1 w1 e1 g1 H1 => ?_))
 refine s_box (wn rfl) rfl rfl H1 (fun b2 w2 e2 g2 H2 => ?_)
 refine sV rfl (py_assign rfl) (s_nil (W_seq (W_drw (S := Ext No _) [(0, true), (1, true), (2, true), (3, false), (4, true), (5, true), (6, true), (7, true), (8, false), (9, true), (10, true), (11, true), (12, true), (13, true), (14, false), (15, false), (16, true), (17, true), (18, true), (19, true), (21, true), (20, false), (22, false), (23, true), (24, true), (25, true), (26, true), (27, true), (29, true), (28, false), (30, false), (31, true), (32, true), (33, false)] (by kernel_rfl) (by kernel_rfl) (by kernel_rfl) rfl (fun _ => Ext.refl.drawn _) (fun q1 => ?_))))
 have H3 := H2.drawn q1
 refine dV rfl rfl (fun zw hx => py_loadS Tryz.underlying33 rfl Tryz.sizeOf33 rfl rfl (At.whole (hx.heap (H3.box 0 rfl)))) (dV rfl rfl (fun zw hx => py_field Tryz.underlying66 rfl Tryz.sizeOf2 rfl rfl) (dV rfl rfl (fun zw hx => py_load Tryz.underlying2 rfl rfl (cell_atL (hx.heap (H3.box 1 rfl)) rfl)) (d_call rfl (wn rfl) rfl rfl (pc_call Tryz.func94 rfl Tryz_nm94 rfl) (Tryz_impl_Shape_isGroup (by assumption)) (fun hS _ _ r _ => hS.trans r.1.no) (fun v1 w3 r1 => ?_))))
 obtain ⟨e3, rfl⟩ := r1
 have H4 := H3.to e3
 refine dV rfl rfl (fun zw hx => py_move rfl) (d_case (t := 10) rfl (fun hg1 => ?_) (fun hg1 => ?_))
 ·try simp only [decide_eq_true_eq, decide_eq_false_iff_not] at hg1
  refine d_val rfl (wg rfl rfl rfl) rfl rfl (fun zw hx => py_loadS Tryz.underlying33 rfl Tryz.sizeOf33 rfl rfl (At.whole (hx.heap (H3.box 0 rfl)))) (d_val rfl (wg rfl rfl rfl) rfl rfl (fun zw hx => py_field Tryz.underlying66 rfl Tryz.sizeOf2 rfl rfl) (d_val rfl (wg rfl rfl rfl) rfl rfl (fun zw hx => py_load Tryz.underlying2 rfl rfl (cell_atL (hx.heap (H3.box 1 rfl)) rfl)) (d_call rfl (wg rfl rfl rfl) rfl rfl (pc_call Tryz.func120 rfl Tryz_nm120 rfl) (Tryz_impl_Shape_isRow (by assumption)) (fun hS _ _ r _ => hS.trans r.1.no) (fun v2 w4 r2 => ?_))))
  obtain ⟨e4, rfl⟩ := r2
  have H5 := H4.to e4
  refine dV rfl rfl (fun zw hx => py_pickT rfl rfl) (dV rfl rfl (fun zw hx => py_move rfl) (d_case (t := 16) rfl (fun hg2 => ?_) (fun hg2 => ?_)))
  ·try simp only [decide_eq_true_eq, decide_eq_false_iff_not] at hg2
   refine d_val rfl (wg rfl rfl rfl) rfl rfl (fun zw hx => py_field Tryz.underlying66 rfl Tryz.sizeOf25 rfl rfl) (d_val rfl (wg rfl rfl rfl) rfl rfl (fun zw hx => py_load Tryz.underlying25 rfl rfl (cell_atL (hx.heap (H3.box 1 rfl)) rfl)) (d_val rfl (wg rfl rfl rfl) rfl rfl (fun zw hx => py_loadS Tryz.underlying33 rfl Tryz.sizeOf33 rfl rfl (At.whole (hx.heap (H3.box 0 rfl)))) (d_call rfl (wg rfl rfl rfl) rfl rfl (pc_call Tryz.func86 rfl Tryz_nm86 rfl) (Tryz_impl_Shape_all (by assumption)) (fun hS _ _ r _ => hS.trans r.1.no) (fun v3 w5 r3 => ?_))))
   obtain ⟨e5, rfl⟩ := r3
   have H6 := H5.to e5
   refine d_call rfl (wg rfl rfl rfl) rfl rfl (pc_call Tryz.func241 rfl Tryz_nm241 rfl) (Tryz_impl_risesIn (H6.sees 0 rfl) (by omega)) (fun hS _ _ r _ => hS.trans r.1.no) (fun v4 w6 r4 => ?_)
   obtain ⟨e6, rfl⟩ := r4
   have H7 := H6.to e6
   refine dV rfl rfl (fun zw hx => py_pickT rfl rfl) (dV rfl rfl (fun zw hx => py_move rfl) (d_case (t := 23) rfl (fun hg3 => ?_) (fun hg3 => ?_)))
   ·try simp only [decide_eq_true_eq, decide_eq_false_iff_not] at hg3
    refine d_val rfl (wg rfl rfl rfl) rfl rfl (fun zw hx => py_field Tryz.underlying66 rfl Tryz.sizeOf61 rfl rfl) (d_val rfl (wg rfl rfl rfl) rfl rfl (fun zw hx => py_load Tryz.underlying61 rfl rfl (cell_atL (hx.heap (H3.box 1 rfl)) rfl)) (d_val rfl (wg rfl rfl rfl) rfl rfl (fun zw hx => py_loadS Tryz.underlying33 rfl Tryz.sizeOf33 rfl rfl (At.whole (hx.heap (H3.box 0 rfl)))) (d_call rfl (wg rfl rfl rfl) rfl rfl (pc_call Tryz.func121 rfl Tryz_nm121 rfl) (Tryz_size_byte (H7.sees 1 rfl)) (fun hS _ _ r _ => hS.trans r.1.no) (fun v5 w7 r5 => ?_))))
    obtain ⟨e7, rfl⟩ := r5
    have H8 := H7.to e7
    refine d_call rfl (wg rfl rfl rfl) rfl rfl (pc_call Tryz.func122 rfl Tryz_nm122 rfl) (Tryz_impl_Shape_rowLength (by assumption)) (fun hS _ _ r _ => hS.trans r.1.no) (fun v6 w8 r6 => ?_)
    obtain ⟨e8, rfl⟩ := r6
    have H9 := H8.to e8
    refine d_val rfl (wg rfl rfl rfl) rfl rfl (fun zw hx => py_eql rfl rfl) (dV rfl rfl (fun zw hx => py_pickT rfl rfl) (dV rfl rfl (fun zw hx => py_move rfl) (d_case (t := 31) rfl (fun hg4 => ?_) (fun hg4 => ?_))))
    ·try simp only [decide_eq_true_eq, decide_eq_false_iff_not] at hg4
     refine d_val rfl (wg rfl rfl rfl) rfl rfl (fun zw hx => py_field Tryz.underlying66 rfl Tryz.sizeOf61 rfl rfl) (d_val rfl (wg rfl rfl rfl) rfl rfl (fun zw hx => py_load Tryz.underlying61 rfl rfl (cell_atL (hx.heap (H3.box 1 rfl)) rfl)) (d_val rfl (wg rfl rfl rfl) rfl rfl (fun zw hx => py_loadS Tryz.underlying33 rfl Tryz.sizeOf33 rfl rfl (At.whole (hx.heap (H3.box 0 rfl)))) (d_call rfl (wg rfl rfl rfl) rfl rfl (pc_call Tryz.func121 rfl Tryz_nm121 rfl) (Tryz_size_byte (H9.sees 2 rfl)) (fun hS _ _ r _ => hS.trans r.1.no) (fun v7 w9 r7 => ?_))))
     obtain ⟨e9, rfl⟩ := r7
     have H10 := H9.to e9
     refine d_call rfl (wg rfl rfl rfl) rfl rfl (pc_call Tryz.func86 rfl Tryz_nm86 rfl) (Tryz_impl_Shape_all (by assumption)) (fun hS _ _ r _ => hS.trans r.1.no) (fun v8 w10 r8 => ?_)
     obtain ⟨e10, rfl⟩ := r8
     have H11 := H10.to e10
     refine d_val rfl (wg rfl rfl rfl) rfl rfl (fun zw hx => py_eql rfl rfl) (dV rfl rfl (fun zw hx => py_pickT rfl rfl) (d_end rfl (wn rfl) rfl rfl (py_assign rfl) (d_nil (W_seq (W_seq ?_)))))
     try have hgb := ins_iff.1 hg1
     refine W_reg (sV rfl (py_move rfl) (sV rfl (py_notd rfl) (sV rfl (py_move rfl) (s_case (t := 41) rfl (fun hg5 => ?_) (fun hg5 => ?_)))))
     ·try simp only [decide_eq_true_eq, decide_eq_false_iff_not] at hg5
      refine s_skip (wog (b := true) rfl rfl rfl) rfl rfl (s_skip (wog (b := true) rfl rfl rfl) rfl rfl (s_skip (wog (b := true) rfl rfl rfl) rfl rfl (s_skip (wog (b := true) rfl rfl rfl) rfl rfl (s_skip (wog (b := true) rfl rfl rfl) rfl rfl (s_skip (wog (b := true) rfl rfl rfl) rfl rfl (s_skip (wog (b := true) rfl rfl rfl) rfl rfl (sV rfl (py_pickT rfl rfl) (s_nil (W_ift rfl (W_sr (sV rfl (py_assign rfl) (s_nil (W_ret (hQ _ _ (fin1 Tryz.results183 rfl ?_)))))))))))))))
      exact ⟨H11.ext, congrArg (Value.int .i64) (if_neg (by simp [shareOK, weightsOK, -List.getD_eq_getElem?_getD, hg1, hg2, hg3, hg4, hg5])).symm⟩
     ·try simp only [decide_eq_true_eq, decide_eq_false_iff_not] at hg5
      refine s_val (wg rfl rfl rfl) rfl rfl (py_field Tryz.underlying66 rfl Tryz.sizeOf61 rfl rfl) (s_val (wg rfl rfl rfl) rfl rfl (py_load Tryz.underlying61 rfl rfl (cell_atL (H11.box 1 rfl) rfl)) (s_val (wg rfl rfl rfl) rfl rfl (py_field Tryz.underlying66 rfl Tryz.sizeOf2 rfl rfl) (s_val (wg rfl rfl rfl) rfl rfl (py_load Tryz.underlying2 rfl rfl (cell_atL (H11.box 1 rfl) rfl)) ?_)))
      obtain ⟨eb1, eo1, ee1, ec1⟩ := elem_u8 (H11.seen 2 rfl) r.Group.toNat (by omega)
      refine s_val (wg rfl rfl rfl) rfl rfl (py_elz Tryz.underlying61 Tryz.sizeOf5 rfl rfl ee1 r.Group.toNat (by omega) (by omega)) (s_val (wg rfl rfl rfl) rfl rfl (py_load Tryz.underlying5 rfl rfl ec1) (s_val (wg rfl rfl rfl) rfl rfl (py_neq rfl rfl) (sV rfl (py_pickF rfl rfl) (s_nil (W_ifd rfl (fun c1 => ?_) (fun c1 => ?_))))))
      ·refine W_sr (sV rfl (py_assign rfl) (s_nil (W_ret (hQ _ _ (fin1 Tryz.results183 rfl ?_)))))
       exact ⟨H11.ext, congrArg (Value.int .i64) (if_neg (by simp [shareOK, weight_grp c1])).symm⟩
      ·refine W_skip (W_seq (W_seq ?_))
       have hL : (r.Delta.length : Int) = s.Groups + s.Column := by omega
       have hR : ∀ i, i < r.Rows.length → 0 ≤ r.Rows.getD i 0 ∧ r.Rows.getD i 0 < r.Delta.length := fun i hi => by have := rises_get hg3 i hi; omega
       refine W_reg (sV rfl (py_field Tryz.underlying66 rfl Tryz.sizeOf25 rfl rfl) (sV rfl (py_load Tryz.underlying25 rfl rfl (cell_atL (H11.box 1 rfl) rfl)) (sV rfl (py_func rfl) (s_call (wn rfl) rfl rfl (pc_call Tryz.func242 rfl Tryz_nm242 rfl) (Tryz_ContainsFunc_int64 (H11.sees 0 rfl) (p := (fun k => decide (((r.Delta.getD (k).toNat 0).toNat : Int) = 0))) Tryz.func243 rfl Tryz_nm243 (fun w1 e1 i0 hi0 => Tryz_impl_shareFault_1 ((H11.to e1).box 1 rfl) (by assumption) ((H11.to e1).sees 0 rfl) ((H11.to e1).sees 1 rfl) ((H11.to e1).sees 2 rfl) (hR i0 hi0))) (fun v9 w11 r9 => ?_)))))
       obtain ⟨e11, rfl⟩ := r9
       have H12 := H11.to e11
       refine s_nil (W_if rfl (fun c2 => ?_) (fun c2 => ?_))
       ·refine W_sr (sV rfl (py_assign rfl) (s_nil (W_ret (hQ _ _ (fin1 Tryz.results183 rfl ?_)))))
        exact ⟨H12.ext, congrArg (Value.int .i64) (if_neg (by simp [shareOK, weight_any (by assumption)])).symm⟩
       ·refine W_skip (W_sr (sV rfl (py_assign rfl) (s_nil (W_ret (hQ _ _ (fin1 Tryz.results183 rfl ?_))))))
        exact ⟨H12.ext, congrArg (Value.int .i64) (if_pos (by rw [shareOK, weight_none hL (by omega) (by assumption)]; simp [hg1, hg2, hg3, hg4, hg5])).symm⟩
    ·try simp only [decide_eq_true_eq, decide_eq_false_iff_not] at hg4
     refine d_skip rfl (wog (b := false) rfl rfl rfl) rfl rfl (d_skip rfl (wog (b := false) rfl rfl rfl) rfl rfl (d_skip rfl (wog (b := false) rfl rfl rfl) rfl rfl (d_skipA rfl (wog (b := false) rfl rfl rfl) rfl rfl (d_skipA rfl (wog (b := false) rfl rfl rfl) rfl rfl (d_skip rfl (wog (b := false) rfl rfl rfl) rfl rfl (dV rfl rfl (fun zw hx => py_pickF rfl rfl) (d_end rfl (wn rfl) rfl rfl (py_assign rfl) (d_nil (W_seq (W_seq ?_))))))))))
     try have hgb := ins_iff.1 hg1
     refine W_reg (sV rfl (py_move rfl) (sV rfl (py_not rfl) (sV rfl (py_move rfl) (s_skip (wog (b := true) rfl rfl rfl) rfl rfl (s_skip (wog (b := true) rfl rfl rfl) rfl rfl (s_skip (wog (b := true) rfl rfl rfl) rfl rfl (s_skip (wog (b := true) rfl rfl rfl) rfl rfl (s_skip (wog (b := true) rfl rfl rfl) rfl rfl (s_skip (wog (b := true) rfl rfl rfl) rfl rfl (s_skip (wog (b := true) rfl rfl rfl) rfl rfl (sV rfl (py_pickT rfl rfl) (s_nil (W_ift rfl (W_sr (sV rfl (py_assign rfl) (s_nil (W_ret (hQ _ _ (fin1 Tryz.results183 rfl ?_)))))))))))))))))))
     exact ⟨H9.ext, congrArg (Value.int .i64) (if_neg (by simp [shareOK, weightsOK, -List.getD_eq_getElem?_getD, hg1, hg2, hg3, hg4])).symm⟩
   ·try simp only [decide_eq_true_eq, decide_eq_false_iff_not] at hg3
    refine d_skip rfl (wog (b := false) rfl rfl rfl) rfl rfl (d_skip rfl (wog (b := false) rfl rfl rfl) rfl rfl (d_skip rfl (wog (b := false) rfl rfl rfl) rfl rfl (d_skipA rfl (wog (b := false) rfl rfl rfl) rfl rfl (d_skipA rfl (wog (b := false) rfl rfl rfl) rfl rfl (d_skip rfl (wog (b := false) rfl rfl rfl) rfl rfl (dV rfl rfl (fun zw hx => py_pickF rfl rfl) (dV rfl rfl (fun zw hx => py_move rfl) (d_skip rfl (wog (b := false) rfl rfl rfl) rfl rfl (d_skip rfl (wog (b := false) rfl rfl rfl) rfl rfl (d_skip rfl (wog (b := false) rfl rfl rfl) rfl rfl (d_skipA rfl (wog (b := false) rfl rfl rfl) rfl rfl (d_skipA rfl (wog (b := false) rfl rfl rfl) rfl rfl (d_skip rfl (wog (b := false) rfl rfl rfl) rfl rfl (dV rfl rfl (fun zw hx => py_pickF rfl rfl) (d_end rfl (wn rfl) rfl rfl (py_assign rfl) (d_nil (W_seq (W_seq ?_))))))))))))))))))
    try have hgb := ins_iff.1 hg1
    refine W_reg (sV rfl (py_move rfl) (sV rfl (py_not rfl) (sV rfl (py_move rfl) (s_skip (wog (b := true) rfl rfl rfl) rfl rfl (s_skip (wog (b := true) rfl rfl rfl) rfl rfl (s_skip (wog (b := true) rfl rfl rfl) rfl rfl (s_skip (wog (b := true) rfl rfl rfl) rfl rfl (s_skip (wog (b := true) rfl rfl rfl) rfl rfl (s_skip (wog (b := true) rfl rfl rfl) rfl rfl (s_skip (wog (b := true) rfl rfl rfl) rfl rfl (sV rfl (py_pickT rfl rfl) (s_nil (W_ift rfl (W_sr (sV rfl (py_assign rfl) (s_nil (W_ret (hQ _ _ (fin1 Tryz.results183 rfl ?_)))))))))))))))))))
    exact ⟨H7.ext, congrArg (Value.int .i64) (if_neg (by simp [shareOK, weightsOK, -List.getD_eq_getElem?_getD, hg1, hg2, hg3])).symm⟩
  ·try simp only [decide_eq_true_eq, decide_eq_false_iff_not] at hg2
   refine d_skip rfl (wog (b := false) rfl rfl rfl) rfl rfl (d_skip rfl (wog (b := false) rfl rfl rfl) rfl rfl (d_skip rfl (wog (b := false) rfl rfl rfl) rfl rfl (d_skipA rfl (wog (b := false) rfl rfl rfl) rfl rfl (d_skipA rfl (wog (b := false) rfl rfl rfl) rfl rfl (dV rfl rfl (fun zw hx => py_pickF rfl rfl) (dV rfl rfl (fun zw hx => py_move rfl) (d_skip rfl (wog (b := false) rfl rfl rfl) rfl rfl (d_skip rfl (wog (b := false) rfl rfl rfl) rfl rfl (d_skip rfl (wog (b := false) rfl rfl rfl) rfl rfl (d_skipA rfl (wog (b := false) rfl rfl rfl) rfl rfl (d_skipA rfl (wog (b := false) rfl rfl rfl) rfl rfl (d_skip rfl (wog (b := false) rfl rfl rfl) rfl rfl (dV rfl rfl (fun zw hx => py_pickF rfl rfl) (dV rfl rfl (fun zw hx => py_move rfl) (d_skip rfl (wog (b := false) rfl rfl rfl) rfl rfl (d_skip rfl (wog (b := false) rfl rfl rfl) rfl rfl (d_skip rfl (wog (b := false) rfl rfl rfl) rfl rfl (d_skipA rfl (wog (b := false) rfl rfl rfl) rfl rfl (d_skipA rfl (wog (b := false) rfl rfl rfl) rfl rfl (d_skip rfl (wog (b := false) rfl rfl rfl) rfl rfl (dV rfl rfl (fun zw hx => py_pickF rfl rfl) (d_end rfl (wn rfl) rfl rfl (py_assign rfl) (d_nil (W_seq (W_seq ?_)))))))))))))))))))))))))
   try have hgb := ins_iff.1 hg1
   refine W_reg (sV rfl (py_move rfl) (sV rfl (py_not rfl) (sV rfl (py_move rfl) (s_skip (wog (b := true) rfl rfl rfl) rfl rfl (s_skip (wog (b := true) rfl rfl rfl) rfl rfl (s_skip (wog (b := true) rfl rfl rfl) rfl rfl (s_skip (wog (b := true) rfl rfl rfl) rfl rfl (s_skip (wog (b := true) rfl rfl rfl) rfl rfl (s_skip (wog (b := true) rfl rfl rfl) rfl rfl (s_skip (wog (b := true) rfl rfl rfl) rfl rfl (sV rfl (py_pickT rfl rfl) (s_nil (W_ift rfl (W_sr (sV rfl (py_assign rfl) (s_nil (W_ret (hQ _ _ (fin1 Tryz.results183 rfl ?_)))))))))))))))))))
   exact ⟨H5.ext, congrArg (Value.int .i64) (if_neg (by simp [shareOK, weightsOK, -List.getD_eq_getElem?_getD, hg1, hg2])).symm⟩
 ·try simp only [decide_eq_true_eq, decide_eq_false_iff_not] at hg1
  refine d_skip rfl (wog (b := false) rfl rfl rfl) rfl rfl (d_skip rfl (wog (b := false) rfl rfl rfl) rfl rfl (d_skip rfl (wog (b := false) rfl rfl rfl) rfl rfl (d_skipA rfl (wog (b := false) rfl rfl rfl) rfl rfl (dV rfl rfl (fun zw hx => py_pickF rfl rfl) (dV rfl rfl (fun zw hx => py_move rfl) (d_skip rfl (wog (b := false) rfl rfl rfl) rfl rfl (d_skip rfl (wog (b := false) rfl rfl rfl) rfl rfl (d_skip rfl (wog (b := false) rfl rfl rfl) rfl rfl (d_skipA rfl (wog (b := false) rfl rfl rfl) rfl rfl (d_skipA rfl (wog (b := false) rfl rfl rfl) rfl rfl (dV rfl rfl (fun zw hx => py_pickF rfl rfl) (dV rfl rfl (fun zw hx => py_move rfl) (d_skip rfl (wog (b := false) rfl rfl rfl) rfl rfl (d_skip rfl (wog (b := false) rfl rfl rfl) rfl rfl (d_skip rfl (wog (b := false) rfl rfl rfl) rfl rfl (d_skipA rfl (wog (b := false) rfl rfl rfl) rfl rfl (d_skipA rfl (wog (b := false) rfl rfl rfl) rfl rfl (d_skip rfl (wog (b := false) rfl rfl rfl) rfl rfl (dV rfl rfl (fun zw hx => py_pickF rfl rfl) (dV rfl rfl (fun zw hx => py_move rfl) (d_skip rfl (wog (b := false) rfl rfl rfl) rfl rfl (d_skip rfl (wog (b := false) rfl rfl rfl) rfl rfl (d_skip rfl (wog (b := false) rfl rfl rfl) rfl rfl (d_skipA rfl (wog (b := false) rfl rfl rfl) rfl rfl (d_skipA rfl (wog (b := false) rfl rfl rfl) rfl rfl (d_skip rfl (wog (b := false) rfl rfl rfl) rfl rfl (dV rfl rfl (fun zw hx => py_pickF rfl rfl) (d_end rfl (wn rfl) rfl rfl (py_assign rfl) (d_nil (W_seq (W_seq ?_)))))))))))))))))))))))))))))))
  try have hgb := ins_iff.1 hg1
  refine W_reg (sV rfl (py_move rfl) (sV rfl (py_not rfl) (sV rfl (py_move rfl) (s_skip (wog (b := true) rfl rfl rfl) rfl rfl (s_skip (wog (b := true) rfl rfl rfl) rfl rfl (s_skip (wog (b := true) rfl rfl rfl) rfl rfl (s_skip (wog (b := true) rfl rfl rfl) rfl rfl (s_skip (wog (b := true) rfl rfl rfl) rfl rfl (s_skip (wog (b := true) rfl rfl rfl) rfl rfl (s_skip (wog (b := true) rfl rfl rfl) rfl rfl (sV rfl (py_pickT rfl rfl) (s_nil (W_ift rfl (W_sr (sV rfl (py_assign rfl) (s_nil (W_ret (hQ _ _ (fin1 Tryz.results183 rfl ?_)))))))))))))))))))
  exact ⟨H4.ext, congrArg (Value.int .i64) (if_neg (by simp [shareOK, weightsOK, -List.getD_eq_getElem?_getD, hg1])).symm⟩
set_option maxHeartbeats 1000000 in
theorem Tryz_impl_Rec_bare {w : World} {r : Rec} {rA6 : Option Addr} {rC6 : Nat} {rA7 : Option Addr} {rC7 : Nat} {rA8 : Option Addr} {rC8 : Nat} (rK : r.Ok) (rS6 : Sees w [.slice rA6 r.Rows.length rC6] r.Rows) (rS7 : Sees w [.slice rA7 r.Data.length rC7] r.Data) (rS8 : Sees w [.slice rA8 r.Delta.length rC8] r.Delta) : Ret Tryz.prog 186 #[r.val rA6 rC6 rA7 rC7 rA8 rC8] w fun v w' => Ext No w w' ∧ (∃ A6 C6 A7 C7 A8 C8, v = (recOf r).val A6 C6 A7 C7 A8 C8 ∧ Sees w' [.slice A6 (recOf r).Rows.length C6] (recOf r).Rows ∧ Sees w' [.slice A7 (recOf r).Data.length C7] (recOf r).Data ∧ Sees w' [.slice A8 (recOf r).Delta.length C8] (recOf r).Delta) := by
 have rK2 := rK
 unfold Rec.Ok at rK2
 try unfold I64ok at rK2
 try unfold maxLen at rK2
 have rN2 : r.Name.size ≤ maxLen := by unfold maxLen; omega
 have rL6 := sees_len rS6
 unfold maxLen at rL6
 obtain ⟨rF6, rO6⟩ := rS6
 have rL7 := sees_len rS7
 unfold maxLen at rL7
 obtain ⟨rF7, rO7⟩ := rS7
 have rL8 := sees_len rS8
 unfold maxLen at rL8
 obtain ⟨rF8, rO8⟩ := rS8
 refine ret_Q (vs := [r.val rA6 rC6 rA7 rC7 rA8 rC8]) Tryz.func186 rfl Tryz.ntmps186 rfl (fun Q hQ hN => ?_)
 have H0 := Sep.start (w := w) (F := [seen false [.slice rA6 r.Rows.length rC6] r.Rows rF6, seen false [.slice rA7 r.Data.length rC7] r.Data rF7, seen false [.slice rA8 r.Delta.length rC8] r.Delta rF8]) (all_cons rO6 (all_cons rO7 (all_cons rO8 (by simp))))
 refine W_sr (s_box (wn rfl) rfl rfl H0 (fun b1 w1 e1 g1 H1 => ?_))
 refine s_var (wn rfl) rfl Tryz.zeroValue66 H1 (fun b2 w2 e2 g2 H2 => ?_)
 refine s_nil (W_sr (sV rfl (py_field Tryz.underlying66 rfl Tryz.sizeOf2 rfl rfl) (sV rfl (py_load Tryz.underlying2 rfl rfl (cell_atL (H2.box 0 rfl) rfl)) (sV rfl (py_field Tryz.underlying66 rfl Tryz.sizeOf2 rfl rfl) (sV rfl (py_load Tryz.underlying2 rfl rfl (cell_atL (H2.box 0 rfl) rfl)) (sV rfl (py_buildS Tryz_pl66 rfl rfl) (s_var (wn rfl) rfl Tryz.zeroValue66 H2 (fun b3 w3 e3 g3 H3 => ?_))))))))
 refine s_stoS (wn rfl) Tryz.sizeOf66 rfl rfl rfl rfl H3 2 rfl rfl (fun w4 e4 H4 => ?_)
 dsimp only [List.nil_append, List.cons_append, List.set_cons_zero, List.set_cons_succ, layL] at H4
 refine s_nil (W_seq (W_sr (sV rfl (py_field Tryz.underlying66 rfl Tryz.sizeOf2 rfl rfl) (sV rfl (py_load Tryz.underlying2 rfl rfl (cell_atL (H4.box 0 rfl) rfl)) (s_nil (W_block (W_sr (sV rfl (py_eql rfl rfl) (sV rfl (py_assign rfl) (s_nil (W_ifd rfl (fun c1 => ?_) (fun c1 => ?_))))))))))))
 ·refine W_drw (S := Ext (· ∈ [b3]) _) [(0, true), (1, true), (2, true), (3, true), (4, true), (5, true), (6, true), (7, true), (8, true), (9, false), (10, true), (11, false), (12, true), (13, false), (14, true), (15, false)] (by kernel_rfl) (by kernel_rfl) (by kernel_rfl) rfl (fun _ => Ext.refl.drawn _) (fun q1 => ?_)
  have H5 := H4.drawn q1
  refine dV rfl rfl (fun zw hx => py_field Tryz.underlying66 rfl Tryz.sizeOf9 rfl rfl) (dV rfl rfl (fun zw hx => py_load Tryz.underlying9 rfl rfl (cell_atL (hx.heapM (H5.boff 0 rfl 2 rfl rfl) (H5.box 0 rfl)) rfl)) (dV rfl rfl (fun zw hx => py_field Tryz.underlying66 rfl Tryz.sizeOf2 rfl rfl) (dV rfl rfl (fun zw hx => py_load Tryz.underlying2 rfl rfl (cell_atL (hx.heapM (H5.boff 0 rfl 2 rfl rfl) (H5.box 0 rfl)) rfl)) (dV rfl rfl (fun zw hx => py_field Tryz.underlying66 rfl Tryz.sizeOf61 rfl rfl) (dV rfl rfl (fun zw hx => py_load Tryz.underlying61 rfl rfl (cell_atL (hx.heapM (H5.boff 0 rfl 2 rfl rfl) (H5.box 0 rfl)) rfl)) (dV rfl rfl (fun zw hx => py_field Tryz.underlying66 rfl Tryz.sizeOf25 rfl rfl) (dV rfl rfl (fun zw hx => py_load Tryz.underlying25 rfl rfl (cell_atL (hx.heapM (H5.boff 0 rfl 2 rfl rfl) (H5.box 0 rfl)) rfl)) (dV rfl rfl (fun zw hx => py_field Tryz.underlying66 rfl Tryz.sizeOf9 rfl rfl) (d_sto rfl (wn rfl) Tryz.sizeOf9 rfl rfl rfl H5 2 rfl rfl (fun _ h e _ => h.trans (e.mono fun _ _ q => by simp [q])) (fun w5 e5 H6 => ?_))))))))))
  dsimp only [List.nil_append, List.cons_append, List.set_cons_zero, List.set_cons_succ, layL] at H6
  refine dV rfl rfl (fun zw hx => py_field Tryz.underlying66 rfl Tryz.sizeOf2 rfl rfl) (d_sto rfl (wn rfl) Tryz.sizeOf2 rfl rfl rfl H6 2 rfl rfl (fun _ h e _ => h.trans (e.mono fun _ _ q => by simp [q])) (fun w6 e6 H7 => ?_))
  dsimp only [List.nil_append, List.cons_append, List.set_cons_zero, List.set_cons_succ, layL] at H7
  refine dV rfl rfl (fun zw hx => py_field Tryz.underlying66 rfl Tryz.sizeOf61 rfl rfl) (d_sto rfl (wn rfl) Tryz.sizeOf61 rfl rfl rfl H7 2 rfl rfl (fun _ h e _ => h.trans (e.mono fun _ _ q => by simp [q])) (fun w7 e7 H8 => ?_))
  dsimp only [List.nil_append, List.cons_append, List.set_cons_zero, List.set_cons_succ, layL] at H8
  refine dV rfl rfl (fun zw hx => py_field Tryz.underlying66 rfl Tryz.sizeOf25 rfl rfl) (d_sto rfl (wn rfl) Tryz.sizeOf25 rfl rfl rfl H8 2 rfl rfl (fun _ h e _ => h.trans (e.mono fun _ _ q => by simp [q])) (fun w8 e8 H9 => ?_))
  dsimp only [List.nil_append, List.cons_append, List.set_cons_zero, List.set_cons_succ, layL] at H9
  refine d_nil (W_sr (sV rfl (py_loadS Tryz.underlying66 rfl Tryz.sizeOf66 rfl rfl (At.whole (H9.box 2 rfl))) (s_stoS (wn rfl) Tryz.sizeOf66 rfl rfl rfl rfl H9 1 rfl rfl (fun w9 e9 H10 => ?_))))
  dsimp only [List.nil_append, List.cons_append, List.set_cons_zero, List.set_cons_succ, layL] at H10
  refine s_nil (W_ret (hQ _ _ (finC Tryz.results186 rfl (run_loadVarS Tryz.underlying66 rfl Tryz.sizeOf66 rfl (At.whole (H10.box 1 rfl))) ?_)))
  have eR : recOf r = _ := recOf_0 c1
  refine ⟨H10.ext, ?_⟩
  rw [eR]
  exact ⟨_, _, _, _, _, _, rfl, (H10.sees 0 rfl), (H10.sees 1 rfl), ⟨[], .inr (.inl ⟨rfl, rfl, rfl⟩)⟩⟩
 ·refine W_sr (sV rfl (py_eql rfl rfl) (sV rfl (py_assign rfl) (s_nil (W_ifd rfl (fun c2 => ?_) (fun c2 => ?_)))))
  ·refine W_drw (S := Ext (· ∈ [b3]) _) [(0, true), (1, true), (2, true), (3, true), (4, true), (5, true), (6, true), (7, true), (8, true), (9, false), (10, true), (11, false), (12, true), (13, false), (14, true), (15, false)] (by kernel_rfl) (by kernel_rfl) (by kernel_rfl) rfl (fun _ => Ext.refl.drawn _) (fun q2 => ?_)
   have H11 := H4.drawn q2
   refine dV rfl rfl (fun zw hx => py_field Tryz.underlying66 rfl Tryz.sizeOf2 rfl rfl) (dV rfl rfl (fun zw hx => py_load Tryz.underlying2 rfl rfl (cell_atL (hx.heapM (H11.boff 0 rfl 2 rfl rfl) (H11.box 0 rfl)) rfl)) (dV rfl rfl (fun zw hx => py_field Tryz.underlying66 rfl Tryz.sizeOf2 rfl rfl) (dV rfl rfl (fun zw hx => py_load Tryz.underlying2 rfl rfl (cell_atL (hx.heapM (H11.boff 0 rfl 2 rfl rfl) (H11.box 0 rfl)) rfl)) (dV rfl rfl (fun zw hx => py_field Tryz.underlying66 rfl Tryz.sizeOf61 rfl rfl) (dV rfl rfl (fun zw hx => py_load Tryz.underlying61 rfl rfl (cell_atL (hx.heapM (H11.boff 0 rfl 2 rfl rfl) (H11.box 0 rfl)) rfl)) (dV rfl rfl (fun zw hx => py_field Tryz.underlying66 rfl Tryz.sizeOf61 rfl rfl) (dV rfl rfl (fun zw hx => py_load Tryz.underlying61 rfl rfl (cell_atL (hx.heapM (H11.boff 0 rfl 2 rfl rfl) (H11.box 0 rfl)) rfl)) (dV rfl rfl (fun zw hx => py_field Tryz.underlying66 rfl Tryz.sizeOf2 rfl rfl) (d_sto rfl (wn rfl) Tryz.sizeOf2 rfl rfl rfl H11 2 rfl rfl (fun _ h e _ => h.trans (e.mono fun _ _ q => by simp [q])) (fun w10 e10 H12 => ?_))))))))))
   dsimp only [List.nil_append, List.cons_append, List.set_cons_zero, List.set_cons_succ, layL] at H12
   refine dV rfl rfl (fun zw hx => py_field Tryz.underlying66 rfl Tryz.sizeOf2 rfl rfl) (d_sto rfl (wn rfl) Tryz.sizeOf2 rfl rfl rfl H12 2 rfl rfl (fun _ h e _ => h.trans (e.mono fun _ _ q => by simp [q])) (fun w11 e11 H13 => ?_))
   dsimp only [List.nil_append, List.cons_append, List.set_cons_zero, List.set_cons_succ, layL] at H13
   refine dV rfl rfl (fun zw hx => py_field Tryz.underlying66 rfl Tryz.sizeOf61 rfl rfl) (d_sto rfl (wn rfl) Tryz.sizeOf61 rfl rfl rfl H13 2 rfl rfl (fun _ h e _ => h.trans (e.mono fun _ _ q => by simp [q])) (fun w12 e12 H14 => ?_))
   dsimp only [List.nil_append, List.cons_append, List.set_cons_zero, List.set_cons_succ, layL] at H14
   refine dV rfl rfl (fun zw hx => py_field Tryz.underlying66 rfl Tryz.sizeOf61 rfl rfl) (d_sto rfl (wn rfl) Tryz.sizeOf61 rfl rfl rfl H14 2 rfl rfl (fun _ h e _ => h.trans (e.mono fun _ _ q => by simp [q])) (fun w13 e13 H15 => ?_))
   dsimp only [List.nil_append, List.cons_append, List.set_cons_zero, List.set_cons_succ, layL] at H15
   refine d_nil (W_sr (sV rfl (py_loadS Tryz.underlying66 rfl Tryz.sizeOf66 rfl rfl (At.whole (H15.box 2 rfl))) (s_stoS (wn rfl) Tryz.sizeOf66 rfl rfl rfl rfl H15 1 rfl rfl (fun w14 e14 H16 => ?_))))
   dsimp only [List.nil_append, List.cons_append, List.set_cons_zero, List.set_cons_succ, layL] at H16
   refine s_nil (W_ret (hQ _ _ (finC Tryz.results186 rfl (run_loadVarS Tryz.underlying66 rfl Tryz.sizeOf66 rfl (At.whole (H16.box 1 rfl))) ?_)))
   have eR : recOf r = _ := recOf_1 c1 c2
   refine ⟨H16.ext, ?_⟩
   rw [eR]
   exact ⟨_, _, _, _, _, _, rfl, ⟨[], .inr (.inl ⟨rfl, rfl, rfl⟩)⟩, (H16.sees 1 rfl), (H16.sees 2 rfl)⟩
  ·refine W_sr (sV rfl (py_eql rfl rfl) (sV rfl (py_assign rfl) (s_nil (W_ifd rfl (fun c3 => ?_) (fun c3 => ?_)))))
   ·refine W_reg (sV rfl (py_field Tryz.underlying66 rfl Tryz.sizeOf2 rfl rfl) (sV rfl (py_load Tryz.underlying2 rfl rfl (cell_atL (H4.box 0 rfl) rfl)) (sV rfl (py_field Tryz.underlying66 rfl Tryz.sizeOf2 rfl rfl) (s_sto (wn rfl) Tryz.sizeOf2 rfl rfl rfl H4 2 rfl rfl (fun w15 e15 H17 => ?_)))))
    dsimp only [List.nil_append, List.cons_append, List.set_cons_zero, List.set_cons_succ, layL] at H17
    refine s_nil (W_sr (sV rfl (py_loadS Tryz.underlying66 rfl Tryz.sizeOf66 rfl rfl (At.whole (H17.box 2 rfl))) (s_stoS (wn rfl) Tryz.sizeOf66 rfl rfl rfl rfl H17 1 rfl rfl (fun w16 e16 H18 => ?_))))
    dsimp only [List.nil_append, List.cons_append, List.set_cons_zero, List.set_cons_succ, layL] at H18
    refine s_nil (W_ret (hQ _ _ (finC Tryz.results186 rfl (run_loadVarS Tryz.underlying66 rfl Tryz.sizeOf66 rfl (At.whole (H18.box 1 rfl))) ?_)))
    have eR : recOf r = _ := recOf_2 c1 c2 c3
    refine ⟨H18.ext, ?_⟩
    rw [eR]
    exact ⟨_, _, _, _, _, _, rfl, ⟨[], .inr (.inl ⟨rfl, rfl, rfl⟩)⟩, ⟨[], .inr (.inl ⟨rfl, rfl, rfl⟩)⟩, ⟨[], .inr (.inl ⟨rfl, rfl, rfl⟩)⟩⟩
   ·refine W_sr (sV rfl (py_eql rfl rfl) (sV rfl (py_assign rfl) (s_nil (W_ifd rfl (fun c4 => ?_) (fun c4 => ?_)))))
    ·refine W_drw (S := Ext (· ∈ [b3]) _) [(0, true), (1, true), (2, true), (3, true), (4, true), (5, true), (6, true), (7, true), (8, true), (9, true), (10, true), (11, false), (12, true), (13, false), (14, true), (15, false), (16, true), (17, false), (18, true), (19, false)] (by kernel_rfl) (by kernel_rfl) (by kernel_rfl) rfl (fun _ => Ext.refl.drawn _) (fun q3 => ?_)
     have H19 := H4.drawn q3
     refine dV rfl rfl (fun zw hx => py_field Tryz.underlying66 rfl Tryz.sizeOf2 rfl rfl) (dV rfl rfl (fun zw hx => py_load Tryz.underlying2 rfl rfl (cell_atL (hx.heapM (H19.boff 0 rfl 2 rfl rfl) (H19.box 0 rfl)) rfl)) (dV rfl rfl (fun zw hx => py_field Tryz.underlying66 rfl Tryz.sizeOf2 rfl rfl) (dV rfl rfl (fun zw hx => py_load Tryz.underlying2 rfl rfl (cell_atL (hx.heapM (H19.boff 0 rfl 2 rfl rfl) (H19.box 0 rfl)) rfl)) (dV rfl rfl (fun zw hx => py_field Tryz.underlying66 rfl Tryz.sizeOf25 rfl rfl) (dV rfl rfl (fun zw hx => py_load Tryz.underlying25 rfl rfl (cell_atL (hx.heapM (H19.boff 0 rfl 2 rfl rfl) (H19.box 0 rfl)) rfl)) (dV rfl rfl (fun zw hx => py_field Tryz.underlying66 rfl Tryz.sizeOf61 rfl rfl) (dV rfl rfl (fun zw hx => py_load Tryz.underlying61 rfl rfl (cell_atL (hx.heapM (H19.boff 0 rfl 2 rfl rfl) (H19.box 0 rfl)) rfl)) (dV rfl rfl (fun zw hx => py_field Tryz.underlying66 rfl Tryz.sizeOf61 rfl rfl) (dV rfl rfl (fun zw hx => py_load Tryz.underlying61 rfl rfl (cell_atL (hx.heapM (H19.boff 0 rfl 2 rfl rfl) (H19.box 0 rfl)) rfl)) (dV rfl rfl (fun zw hx => py_field Tryz.underlying66 rfl Tryz.sizeOf2 rfl rfl) (d_sto rfl (wn rfl) Tryz.sizeOf2 rfl rfl rfl H19 2 rfl rfl (fun _ h e _ => h.trans (e.mono fun _ _ q => by simp [q])) (fun w17 e17 H20 => ?_))))))))))))
     dsimp only [List.nil_append, List.cons_append, List.set_cons_zero, List.set_cons_succ, layL] at H20
     refine dV rfl rfl (fun zw hx => py_field Tryz.underlying66 rfl Tryz.sizeOf2 rfl rfl) (d_sto rfl (wn rfl) Tryz.sizeOf2 rfl rfl rfl H20 2 rfl rfl (fun _ h e _ => h.trans (e.mono fun _ _ q => by simp [q])) (fun w18 e18 H21 => ?_))
     dsimp only [List.nil_append, List.cons_append, List.set_cons_zero, List.set_cons_succ, layL] at H21
     refine dV rfl rfl (fun zw hx => py_field Tryz.underlying66 rfl Tryz.sizeOf25 rfl rfl) (d_sto rfl (wn rfl) Tryz.sizeOf25 rfl rfl rfl H21 2 rfl rfl (fun _ h e _ => h.trans (e.mono fun _ _ q => by simp [q])) (fun w19 e19 H22 => ?_))
     dsimp only [List.nil_append, List.cons_append, List.set_cons_zero, List.set_cons_succ, layL] at H22
     refine dV rfl rfl (fun zw hx => py_field Tryz.underlying66 rfl Tryz.sizeOf61 rfl rfl) (d_sto rfl (wn rfl) Tryz.sizeOf61 rfl rfl rfl H22 2 rfl rfl (fun _ h e _ => h.trans (e.mono fun _ _ q => by simp [q])) (fun w20 e20 H23 => ?_))
     dsimp only [List.nil_append, List.cons_append, List.set_cons_zero, List.set_cons_succ, layL] at H23
     refine dV rfl rfl (fun zw hx => py_field Tryz.underlying66 rfl Tryz.sizeOf61 rfl rfl) (d_sto rfl (wn rfl) Tryz.sizeOf61 rfl rfl rfl H23 2 rfl rfl (fun _ h e _ => h.trans (e.mono fun _ _ q => by simp [q])) (fun w21 e21 H24 => ?_))
     dsimp only [List.nil_append, List.cons_append, List.set_cons_zero, List.set_cons_succ, layL] at H24
     refine d_nil (W_sr (sV rfl (py_loadS Tryz.underlying66 rfl Tryz.sizeOf66 rfl rfl (At.whole (H24.box 2 rfl))) (s_stoS (wn rfl) Tryz.sizeOf66 rfl rfl rfl rfl H24 1 rfl rfl (fun w22 e22 H25 => ?_))))
     dsimp only [List.nil_append, List.cons_append, List.set_cons_zero, List.set_cons_succ, layL] at H25
     refine s_nil (W_ret (hQ _ _ (finC Tryz.results186 rfl (run_loadVarS Tryz.underlying66 rfl Tryz.sizeOf66 rfl (At.whole (H25.box 1 rfl))) ?_)))
     have eR : recOf r = _ := recOf_3 c1 c2 c3 c4
     refine ⟨H25.ext, ?_⟩
     rw [eR]
     exact ⟨_, _, _, _, _, _, rfl, (H25.sees 0 rfl), (H25.sees 1 rfl), (H25.sees 2 rfl)⟩
    ·refine W_skip (W_sr (sV rfl (py_loadS Tryz.underlying66 rfl Tryz.sizeOf66 rfl rfl (At.whole (H4.box 2 rfl))) (s_stoS (wn rfl) Tryz.sizeOf66 rfl rfl rfl rfl H4 1 rfl rfl (fun w23 e23 H26 => ?_))))
     dsimp only [List.nil_append, List.cons_append, List.set_cons_zero, List.set_cons_succ, layL] at H26
     refine s_nil (W_ret (hQ _ _ (finC Tryz.results186 rfl (run_loadVarS Tryz.underlying66 rfl Tryz.sizeOf66 rfl (At.whole (H26.box 1 rfl))) ?_)))
     have eR : recOf r = _ := recOf_4 c1 c2 c3 c4
     refine ⟨H26.ext, ?_⟩
     rw [eR]
     exact ⟨_, _, _, _, _, _, rfl, ⟨[], .inr (.inl ⟨rfl, rfl, rfl⟩)⟩, ⟨[], .inr (.inl ⟨rfl, rfl, rfl⟩)⟩, ⟨[], .inr (.inl ⟨rfl, rfl, rfl⟩)⟩⟩
theorem Tryz_impl_sameRec {w : World} {a : Rec} {aA6 : Option Addr} {aC6 : Nat} {aA7 : Option Addr} {aC7 : Nat} {aA8 : Option Addr} {aC8 : Nat} {b : Rec} {bA6 : Option Addr} {bC6 : Nat} {bA7 : Option Addr} {bC7 : Nat} {bA8 : Option Addr} {bC8 : Nat} (aK : a.Ok) (aS6 : Sees w [.slice aA6 a.Rows.length aC6] a.Rows) (aS7 : Sees w [.slice aA7 a.Data.length aC7] a.Data) (aS8 : Sees w [.slice aA8 a.Delta.length aC8] a.Delta) (bK : b.Ok) (bS6 : Sees w [.slice bA6 b.Rows.length bC6] b.Rows) (bS7 : Sees w [.slice bA7 b.Data.length bC7] b.Data) (bS8 : Sees w [.slice bA8 b.Delta.length bC8] b.Delta) : Ret Tryz.prog 185 #[a.val aA6 aC6 aA7 aC7 aA8 aC8, b.val bA6 bC6 bA7 bC7 bA8 bC8] w fun v w' => Ext No w w' ∧ (v = .bool (decide (a = b))) := by
 have aK2 := aK
 unfold Rec.Ok at aK2
 try unfold I64ok at aK2
 try unfold maxLen at aK2
 have aN2 : a.Name.size ≤ maxLen := by unfold maxLen; omega
 have aL6 := sees_len aS6
 unfold maxLen at aL6
 obtain ⟨aF6, aO6⟩ := aS6
 have aL7 := sees_len aS7
 unfold maxLen at aL7
 obtain ⟨aF7, aO7⟩ := aS7
 have aL8 := sees_len aS8
 unfold maxLen at aL8
 obtain ⟨aF8, aO8⟩ := aS8
 have bK2 := bK
 unfold Rec.Ok at bK2
 try unfold I64ok at bK2
 try unfold maxLen at bK2
 have bN2 : b.Name.size ≤ maxLen := by unfold maxLen; omega
 have bL6 := sees_len bS6
 unfold maxLen at bL6
 obtain ⟨bF6, bO6⟩ := bS6
 have bL7 := sees_len bS7
 unfold maxLen at bL7
 obtain ⟨bF7, bO7⟩ := bS7
 have bL8 := sees_len bS8
 unfold maxLen at bL8
 obtain ⟨bF8, bO8⟩ := bS8
 refine ret_Q (vs := [a.val aA6 aC6 aA7 aC7 aA8 aC8, b.val bA6 bC6 bA7 bC7 bA8 bC8]) Tryz.func185 rfl Tryz.ntmps185 rfl (fun Q hQ hN => ?_)
 have H0 := Sep.start (w := w) (F := [seen false [.slice aA6 a.Rows.length aC6] a.Rows aF6, seen false [.slice aA7 a.Data.length aC7] a.Data aF7, seen false [.slice aA8 a.Delta.length aC8] a.Delta aF8, seen false [.slice bA6 b.Rows.length bC6] b.Rows bF6, seen false [.slice bA7 b.Data.length bC7] b.Data bF7, seen false [.slice bA8 b.Delta.length bC8] b.Delta bF8]) (all_cons aO6 (all_cons aO7 (all_cons aO8 (all_cons bO6 (all_cons bO7 (all_cons bO8 (by simp)))))))
 refine W_sr (s_box (wn rfl) rfl rfl H0 (fun b1 w1 e1 g1 H1 => ?_))
 refine s_box (wn rfl) rfl rfl H1 (fun b2 w2 e2 g2 H2 => ?_)
 refine sV rfl (py_assign rfl) (s_nil (W_sr (sV rfl (py_field Tryz.underlying66 rfl Tryz.sizeOf2 rfl rfl) (sV rfl (py_load Tryz.underlying2 rfl rfl (cell_atL (H2.box 0 rfl) rfl)) (sV rfl (py_field Tryz.underlying66 rfl Tryz.sizeOf2 rfl rfl) (sV rfl (py_load Tryz.underlying2 rfl rfl (cell_atL (H2.box 1 rfl) rfl)) (sV rfl (py_eql rfl rfl) (sV rfl (py_move rfl) (s_grp 5 (j := 5) (want := true) (t := 15) rfl rfl rfl rfl (fun hg1 kk1 => s_val (wgE rfl rfl rfl hg1) rfl rfl (py_field Tryz.underlying66 rfl Tryz.sizeOf2 rfl rfl) (s_val (wgE rfl rfl rfl hg1) rfl rfl (py_load Tryz.underlying2 rfl rfl (cell_atL (H2.box 0 rfl) rfl)) (s_val (wgE rfl rfl rfl hg1) rfl rfl (py_field Tryz.underlying66 rfl Tryz.sizeOf2 rfl rfl) (s_val (wgE rfl rfl rfl hg1) rfl rfl (py_load Tryz.underlying2 rfl rfl (cell_atL (H2.box 1 rfl) rfl)) (s_val (wgE rfl rfl rfl hg1) rfl rfl (py_eql rfl rfl) (kk1 _ _ (kx rfl (kx rfl (kx rfl (kx rfl (kx rfl k0))))) rfl Ext.refl)))))) (fun w3 e3 => ?_))))))))))
 have H3 := H2.to e3
 refine sV rfl (py_band rfl rfl) (sV rfl (py_move rfl) (s_grp 5 (j := 12) (want := true) (t := 22) rfl rfl rfl rfl (fun hg2 kk2 => s_val (wgE rfl rfl rfl hg2) rfl rfl (py_field Tryz.underlying66 rfl Tryz.sizeOf9 rfl rfl) (s_val (wgE rfl rfl rfl hg2) rfl rfl (py_load Tryz.underlying9 rfl rfl (cell_atL (H3.box 0 rfl) rfl)) (s_val (wgE rfl rfl rfl hg2) rfl rfl (py_field Tryz.underlying66 rfl Tryz.sizeOf9 rfl rfl) (s_val (wgE rfl rfl rfl hg2) rfl rfl (py_load Tryz.underlying9 rfl rfl (cell_atL (H3.box 1 rfl) rfl)) (s_val (wgE rfl rfl rfl hg2) rfl rfl (py_seql rfl rfl) (kk2 _ _ (kx rfl (kx rfl (kx rfl (kx rfl (kx rfl k0))))) rfl Ext.refl)))))) (fun w4 e4 => ?_)))
 have H4 := H3.to e4
 refine sV rfl (py_band rfl rfl) (sV rfl (py_move rfl) (s_grp 5 (j := 19) (want := true) (t := 29) rfl rfl rfl rfl (fun hg3 kk3 => s_val (wgE rfl rfl rfl hg3) rfl rfl (py_field Tryz.underlying66 rfl Tryz.sizeOf2 rfl rfl) (s_val (wgE rfl rfl rfl hg3) rfl rfl (py_load Tryz.underlying2 rfl rfl (cell_atL (H4.box 0 rfl) rfl)) (s_val (wgE rfl rfl rfl hg3) rfl rfl (py_field Tryz.underlying66 rfl Tryz.sizeOf2 rfl rfl) (s_val (wgE rfl rfl rfl hg3) rfl rfl (py_load Tryz.underlying2 rfl rfl (cell_atL (H4.box 1 rfl) rfl)) (s_val (wgE rfl rfl rfl hg3) rfl rfl (py_eql rfl rfl) (kk3 _ _ (kx rfl (kx rfl (kx rfl (kx rfl (kx rfl k0))))) rfl Ext.refl)))))) (fun w5 e5 => ?_)))
 have H5 := H4.to e5
 refine sV rfl (py_band rfl rfl) (sV rfl (py_move rfl) (s_grp 5 (j := 26) (want := true) (t := 36) rfl rfl rfl rfl (fun hg4 kk4 => s_val (wgE rfl rfl rfl hg4) rfl rfl (py_field Tryz.underlying66 rfl Tryz.sizeOf2 rfl rfl) (s_val (wgE rfl rfl rfl hg4) rfl rfl (py_load Tryz.underlying2 rfl rfl (cell_atL (H5.box 0 rfl) rfl)) (s_val (wgE rfl rfl rfl hg4) rfl rfl (py_field Tryz.underlying66 rfl Tryz.sizeOf2 rfl rfl) (s_val (wgE rfl rfl rfl hg4) rfl rfl (py_load Tryz.underlying2 rfl rfl (cell_atL (H5.box 1 rfl) rfl)) (s_val (wgE rfl rfl rfl hg4) rfl rfl (py_eql rfl rfl) (kk4 _ _ (kx rfl (kx rfl (kx rfl (kx rfl (kx rfl k0))))) rfl Ext.refl)))))) (fun w6 e6 => ?_)))
 have H6 := H5.to e6
 refine sV rfl (py_band rfl rfl) (sV rfl (py_move rfl) (s_grp 5 (j := 33) (want := true) (t := 43) rfl rfl rfl rfl (fun hg5 kk5 => s_val (wgE rfl rfl rfl hg5) rfl rfl (py_field Tryz.underlying66 rfl Tryz.sizeOf2 rfl rfl) (s_val (wgE rfl rfl rfl hg5) rfl rfl (py_load Tryz.underlying2 rfl rfl (cell_atL (H6.box 0 rfl) rfl)) (s_val (wgE rfl rfl rfl hg5) rfl rfl (py_field Tryz.underlying66 rfl Tryz.sizeOf2 rfl rfl) (s_val (wgE rfl rfl rfl hg5) rfl rfl (py_load Tryz.underlying2 rfl rfl (cell_atL (H6.box 1 rfl) rfl)) (s_val (wgE rfl rfl rfl hg5) rfl rfl (py_eql rfl rfl) (kk5 _ _ (kx rfl (kx rfl (kx rfl (kx rfl (kx rfl k0))))) rfl Ext.refl)))))) (fun w7 e7 => ?_)))
 have H7 := H6.to e7
 refine sV rfl (py_band rfl rfl) (sV rfl (py_move rfl) (s_grp 5 (j := 40) (want := true) (t := 50) rfl rfl rfl rfl (fun hg6 kk6 => s_val (wgE rfl rfl rfl hg6) rfl rfl (py_field Tryz.underlying66 rfl Tryz.sizeOf25 rfl rfl) (s_val (wgE rfl rfl rfl hg6) rfl rfl (py_load Tryz.underlying25 rfl rfl (cell_atL (H7.box 0 rfl) rfl)) (s_val (wgE rfl rfl rfl hg6) rfl rfl (py_field Tryz.underlying66 rfl Tryz.sizeOf25 rfl rfl) (s_val (wgE rfl rfl rfl hg6) rfl rfl (py_load Tryz.underlying25 rfl rfl (cell_atL (H7.box 1 rfl) rfl)) (s_callv (wgE rfl rfl rfl hg6) rfl rfl (pc_call Tryz.func244 rfl Tryz_nm244 rfl) (Tryz_slices_Equal_int64_int64 (H7.sees 0 rfl) (H7.sees 3 rfl)) (fun w9 e9 => kk6 _ _ (kx rfl (kx rfl (kx rfl (kx rfl (kx rfl k0))))) rfl (Ext.refl.trans e9))))))) (fun w8 e8 => ?_)))
 have H8 := H7.to e8
 refine sV rfl (py_band rfl rfl) (sV rfl (py_move rfl) (s_grp 5 (j := 47) (want := true) (t := 57) rfl rfl rfl rfl (fun hg7 kk7 => s_val (wgE rfl rfl rfl hg7) rfl rfl (py_field Tryz.underlying66 rfl Tryz.sizeOf61 rfl rfl) (s_val (wgE rfl rfl rfl hg7) rfl rfl (py_load Tryz.underlying61 rfl rfl (cell_atL (H8.box 0 rfl) rfl)) (s_val (wgE rfl rfl rfl hg7) rfl rfl (py_field Tryz.underlying66 rfl Tryz.sizeOf61 rfl rfl) (s_val (wgE rfl rfl rfl hg7) rfl rfl (py_load Tryz.underlying61 rfl rfl (cell_atL (H8.box 1 rfl) rfl)) (s_callv (wgE rfl rfl rfl hg7) rfl rfl (pc_call Tryz.func163 rfl Tryz_nm163 rfl) (Tryz_bytesEq (H8.sees 1 rfl) (H8.sees 4 rfl)) (fun w11 e11 => kk7 _ _ (kx rfl (kx rfl (kx rfl (kx rfl (kx rfl k0))))) rfl (Ext.refl.trans e11))))))) (fun w10 e10 => ?_)))
 have H9 := H8.to e10
 refine sV rfl (py_band rfl rfl) (sV rfl (py_move rfl) (s_grp 5 (j := 54) (want := true) (t := 64) rfl rfl rfl rfl (fun hg8 kk8 => s_val (wgE rfl rfl rfl hg8) rfl rfl (py_field Tryz.underlying66 rfl Tryz.sizeOf61 rfl rfl) (s_val (wgE rfl rfl rfl hg8) rfl rfl (py_load Tryz.underlying61 rfl rfl (cell_atL (H9.box 0 rfl) rfl)) (s_val (wgE rfl rfl rfl hg8) rfl rfl (py_field Tryz.underlying66 rfl Tryz.sizeOf61 rfl rfl) (s_val (wgE rfl rfl rfl hg8) rfl rfl (py_load Tryz.underlying61 rfl rfl (cell_atL (H9.box 1 rfl) rfl)) (s_callv (wgE rfl rfl rfl hg8) rfl rfl (pc_call Tryz.func163 rfl Tryz_nm163 rfl) (Tryz_bytesEq (H9.sees 2 rfl) (H9.sees 5 rfl)) (fun w13 e13 => kk8 _ _ (kx rfl (kx rfl (kx rfl (kx rfl (kx rfl k0))))) rfl (Ext.refl.trans e13))))))) (fun w12 e12 => ?_)))
 have H10 := H9.to e12
 refine sV rfl (py_band rfl rfl) (sV rfl (py_assign rfl) (s_nil (W_ret (hQ _ _ (fin1 Tryz.results185 rfl ?_)))))
 exact ⟨H10.ext, congrArg Value.bool (by rw [← same_rec]; simp only [Bool.and_assoc])⟩
set_option maxHeartbeats 1000000 in
theorem Tryz_impl_recFault {w : World} {s : Shape} {r : Rec} {rA6 : Option Addr} {rC6 : Nat} {rA7 : Option Addr} {rC7 : Nat} {rA8 : Option Addr} {rC8 : Nat} (rK : r.Ok) (rS6 : Sees w [.slice rA6 r.Rows.length rC6] r.Rows) (rS7 : Sees w [.slice rA7 r.Data.length rC7] r.Data) (rS8 : Sees w [.slice rA8 r.Delta.length rC8] r.Delta) (hs : s.ok = true) : Ret Tryz.prog 111 #[s.v, r.val rA6 rC6 rA7 rC7 rA8 rC8] w fun v w' => Ext No w w' ∧ (v = .int .i64 (recF s r)) := by
 have rK2 := rK
 unfold Rec.Ok at rK2
 try unfold I64ok at rK2
 try unfold maxLen at rK2
 have rN2 : r.Name.size ≤ maxLen := by unfold maxLen; omega
 have rL6 := sees_len rS6
 unfold maxLen at rL6
 obtain ⟨rF6, rO6⟩ := rS6
 have rL7 := sees_len rS7
 unfold maxLen at rL7
 obtain ⟨rF7, rO7⟩ := rS7
 have rL8 := sees_len rS8
 unfold maxLen at rL8
 obtain ⟨rF8, rO8⟩ := rS8
 have sbd := shape_bd hs
 refine ret_Q (vs := [s.v, r.val rA6 rC6 rA7 rC7 rA8 rC8]) Tryz.func111 rfl Tryz.ntmps111 rfl (fun Q hQ hN => ?_)
 have H0 := Sep.start (w := w) (F := [seen false [.slice rA6 r.Rows.length rC6] r.Rows rF6, seen false [.slice rA7 r.Data.length rC7] r.Data rF7, seen false [.slice rA8 r.Delta.length rC8] r.Delta rF8]) (all_cons rO6 (all_cons rO7 (all_cons rO8 (by simp))))
 refine W_sr (s_box (wn rfl) rfl rfl H0 (fun b1 w1 e1 g1 H1 => ?_))
 refine s_box (wn rfl) rfl rfl H1 (fun b2 w2 e2 g2 H2 => ?_)
 refine sV rfl (py_assign rfl) (s_nil (W_sr (sV rfl (py_assign rfl) (s_nil (W_cutS (γ := Unit) H2 [(3, _)] ⟨rfl, trivial⟩ (fun _ => [(5, .int .i64 (kindF s r))]) (fun _ => ins r.Kind 1 4 = true ∧ ins r.Seq 1 1000000000 = true) ?_ (fun _ w3 H3 ⟨hK, hS⟩ => ?_))))))
 ·refine W_block (W_sr (sV rfl (py_field Tryz.underlying66 rfl Tryz.sizeOf2 rfl rfl) (sV rfl (py_load Tryz.underlying2 rfl rfl (cell_atL (H2.box 1 rfl) rfl)) (s_call (wn rfl) rfl rfl (pc_call Tryz.func154 rfl Tryz_nm154 rfl) Tryz_impl_inside (fun v1 w4 r1 => ?_)))))
  obtain ⟨e3, rfl⟩ := r1
  have H4 := H2.to e3
  refine sV rfl (py_not rfl) (sV rfl (py_assign rfl) (s_nil (W_if rfl (fun c1 => ?_) (fun c1 => ?_))))
  ·refine W_sr (sV rfl (py_assign rfl) (s_nil (W_ret (hQ _ _ (fin1 Tryz.results111 rfl ?_)))))
   exact ⟨H4.ext, congrArg (Value.int .i64) (recF_kind (not_true c1)).symm⟩
  ·refine W_sr (sV rfl (py_field Tryz.underlying66 rfl Tryz.sizeOf2 rfl rfl) (sV rfl (py_load Tryz.underlying2 rfl rfl (cell_atL (H4.box 1 rfl) rfl)) (s_call (wn rfl) rfl rfl (pc_call Tryz.func154 rfl Tryz_nm154 rfl) Tryz_impl_inside (fun v2 w5 r2 => ?_))))
   obtain ⟨e4, rfl⟩ := r2
   have H5 := H4.to e4
   refine sV rfl (py_not rfl) (sV rfl (py_assign rfl) (s_nil (W_if rfl (fun c2 => ?_) (fun c2 => ?_))))
   ·refine W_sr (sV rfl (py_assign rfl) (s_nil (W_ret (hQ _ _ (fin1 Tryz.results111 rfl ?_)))))
    exact ⟨H5.ext, congrArg (Value.int .i64) (recF_seq (not_false c1) (not_true c2)).symm⟩
   ·refine W_sr (sV rfl (py_field Tryz.underlying66 rfl Tryz.sizeOf2 rfl rfl) (sV rfl (py_load Tryz.underlying2 rfl rfl (cell_atL (H5.box 1 rfl) rfl)) (sV rfl (py_eql rfl rfl) (sV rfl (py_assign rfl) (s_nil (W_ifd rfl (fun c3 => ?_) (fun c3 => ?_)))))))
    ·refine W_reg (sV rfl (py_loadS Tryz.underlying33 rfl Tryz.sizeOf33 rfl rfl (At.whole (H5.box 0 rfl))) (sV rfl (py_loadS Tryz.underlying66 rfl Tryz.sizeOf66 rfl rfl (At.whole (H5.box 1 rfl))) (s_call (wn rfl) rfl rfl (pc_call Tryz.func182 rfl Tryz_nm182 rfl) (Tryz_impl_itemFault (by assumption) (H5.sees 0 rfl) (H5.sees 1 rfl) (H5.sees 2 rfl) (by assumption)) (fun v3 w6 r3 => ?_))))
     obtain ⟨e5, rfl⟩ := r3
     have H6 := H5.to e5
     refine sV rfl (py_assign rfl) (s_nil ?_)
     have hk1 := ins_iff.1 (not_false c1)
     exact ⟨(), ⟨eqI (kindF_item c3).symm, rfl, trivial⟩, H6, not_false c1, not_false c2⟩
    ·refine W_sr (sV rfl (py_field Tryz.underlying66 rfl Tryz.sizeOf2 rfl rfl) (sV rfl (py_load Tryz.underlying2 rfl rfl (cell_atL (H5.box 1 rfl) rfl)) (sV rfl (py_eql rfl rfl) (sV rfl (py_assign rfl) (s_nil (W_ifd rfl (fun c4 => ?_) (fun c4 => ?_)))))))
     ·refine W_reg (sV rfl (py_loadS Tryz.underlying33 rfl Tryz.sizeOf33 rfl rfl (At.whole (H5.box 0 rfl))) (sV rfl (py_loadS Tryz.underlying66 rfl Tryz.sizeOf66 rfl rfl (At.whole (H5.box 1 rfl))) (s_call (wn rfl) rfl rfl (pc_call Tryz.func183 rfl Tryz_nm183 rfl) (Tryz_impl_shareFault (by assumption) (H5.sees 0 rfl) (H5.sees 1 rfl) (H5.sees 2 rfl) (by assumption)) (fun v4 w7 r4 => ?_))))
      obtain ⟨e6, rfl⟩ := r4
      have H7 := H5.to e6
      refine sV rfl (py_assign rfl) (s_nil ?_)
      have hk1 := ins_iff.1 (not_false c1)
      exact ⟨(), ⟨eqI (kindF_share (by omega)).symm, rfl, trivial⟩, H7, not_false c1, not_false c2⟩
     ·refine W_sr (sV rfl (py_field Tryz.underlying66 rfl Tryz.sizeOf2 rfl rfl) (sV rfl (py_load Tryz.underlying2 rfl rfl (cell_atL (H5.box 1 rfl) rfl)) (sV rfl (py_eql rfl rfl) (sV rfl (py_assign rfl) (s_nil (W_ifd rfl (fun c5 => ?_) (fun c5 => ?_)))))))
      ·refine W_sr (sV rfl (py_loadS Tryz.underlying33 rfl Tryz.sizeOf33 rfl rfl (At.whole (H5.box 0 rfl))) (sV rfl (py_field Tryz.underlying66 rfl Tryz.sizeOf2 rfl rfl) (sV rfl (py_load Tryz.underlying2 rfl rfl (cell_atL (H5.box 1 rfl) rfl)) (s_call (wn rfl) rfl rfl (pc_call Tryz.func94 rfl Tryz_nm94 rfl) (Tryz_impl_Shape_isGroup (by assumption)) (fun v5 w8 r5 => ?_)))))
       obtain ⟨e7, rfl⟩ := r5
       have H8 := H5.to e7
       refine sV rfl (py_not rfl) (s_nil (W_if rfl (fun c6 => ?_) (fun c6 => ?_)))
       ·refine W_reg (sV rfl (py_assign rfl) (s_nil ?_))
        have hk1 := ins_iff.1 (not_false c1)
        exact ⟨(), ⟨eqI (kindF_done_no (by omega) (not_true c6)).symm, rfl, trivial⟩, H8, not_false c1, not_false c2⟩
       ·refine W_skip ?_
        have hk1 := ins_iff.1 (not_false c1)
        exact ⟨(), ⟨eqI (kindF_done_ok (by omega) (not_false c6)).symm, rfl, trivial⟩, H8, not_false c1, not_false c2⟩
      ·refine W_seq (W_drw (S := Ext No _) [(0, true), (1, true), (2, true), (3, false), (4, true), (5, true), (6, true), (7, true), (8, true), (9, false), (10, true), (11, true), (12, true), (13, true), (14, true), (16, true), (15, false), (17, false), (18, true), (19, true), (20, true), (21, true), (22, true), (24, true), (23, false), (25, false), (26, true), (27, true), (28, false)] (by kernel_rfl) (by kernel_rfl) (by kernel_rfl) rfl (fun _ => Ext.refl.drawn _) (fun q1 => ?_))
       have H9 := H5.drawn q1
       refine dV rfl rfl (fun zw hx => py_loadS Tryz.underlying33 rfl Tryz.sizeOf33 rfl rfl (At.whole (hx.heap (H9.box 0 rfl)))) (dV rfl rfl (fun zw hx => py_field Tryz.underlying66 rfl Tryz.sizeOf2 rfl rfl) (dV rfl rfl (fun zw hx => py_load Tryz.underlying2 rfl rfl (cell_atL (hx.heap (H9.box 1 rfl)) rfl)) (d_call rfl (wn rfl) rfl rfl (pc_call Tryz.func184 rfl Tryz_nm184 rfl) (Tryz_impl_Shape_isData (by assumption)) (fun hS _ _ r _ => hS.trans r.1.no) (fun v6 w9 r6 => ?_))))
       obtain ⟨e8, rfl⟩ := r6
       have H10 := H9.to e8
       refine dV rfl rfl (fun zw hx => py_not rfl) (dV rfl rfl (fun zw hx => py_move rfl) (d_case (t := 45) rfl (fun hg1 => ?_) (fun hg1 => ?_)))
       ·try simp only [decide_eq_true_eq, decide_eq_false_iff_not] at hg1
        refine d_skip rfl (wog (b := true) rfl rfl rfl) rfl rfl (d_skip rfl (wog (b := true) rfl rfl rfl) rfl rfl (d_skip rfl (wog (b := true) rfl rfl rfl) rfl rfl (d_skipA rfl (wog (b := true) rfl rfl rfl) rfl rfl (d_skip rfl (wog (b := true) rfl rfl rfl) rfl rfl (dV rfl rfl (fun zw hx => py_pickT rfl rfl) (dV rfl rfl (fun zw hx => py_move rfl) (d_skip rfl (wog (b := true) rfl rfl rfl) rfl rfl (d_skip rfl (wog (b := true) rfl rfl rfl) rfl rfl (d_skip rfl (wog (b := true) rfl rfl rfl) rfl rfl (d_skipA rfl (wog (b := true) rfl rfl rfl) rfl rfl (d_skipA rfl (wog (b := true) rfl rfl rfl) rfl rfl (d_skip rfl (wog (b := true) rfl rfl rfl) rfl rfl (dV rfl rfl (fun zw hx => py_pickT rfl rfl) (dV rfl rfl (fun zw hx => py_move rfl) (d_skip rfl (wog (b := true) rfl rfl rfl) rfl rfl (d_skip rfl (wog (b := true) rfl rfl rfl) rfl rfl (d_skip rfl (wog (b := true) rfl rfl rfl) rfl rfl (d_skipA rfl (wog (b := true) rfl rfl rfl) rfl rfl (d_skipA rfl (wog (b := true) rfl rfl rfl) rfl rfl (d_skip rfl (wog (b := true) rfl rfl rfl) rfl rfl (dV rfl rfl (fun zw hx => py_pickT rfl rfl) (d_end rfl (wn rfl) rfl rfl (py_assign rfl) (d_nil (W_ift rfl (W_reg (sV rfl (py_assign rfl) (s_nil ?_)))))))))))))))))))))))))))
        have hk1 := ins_iff.1 (not_false c1)
        exact ⟨(), ⟨eqI (kindF_move_no (by omega) (by simp_all [moveOK])).symm, rfl, trivial⟩, H10, not_false c1, not_false c2⟩
       ·try simp only [decide_eq_true_eq, decide_eq_false_iff_not] at hg1
        refine d_val rfl (wg rfl rfl rfl) rfl rfl (fun zw hx => py_loadS Tryz.underlying33 rfl Tryz.sizeOf33 rfl rfl (At.whole (hx.heap (H9.box 0 rfl)))) (d_val rfl (wg rfl rfl rfl) rfl rfl (fun zw hx => py_field Tryz.underlying66 rfl Tryz.sizeOf2 rfl rfl) (d_val rfl (wg rfl rfl rfl) rfl rfl (fun zw hx => py_load Tryz.underlying2 rfl rfl (cell_atL (hx.heap (H9.box 1 rfl)) rfl)) (d_call rfl (wg rfl rfl rfl) rfl rfl (pc_call Tryz.func120 rfl Tryz_nm120 rfl) (Tryz_impl_Shape_isRow (by assumption)) (fun hS _ _ r _ => hS.trans r.1.no) (fun v7 w10 r7 => ?_))))
        obtain ⟨e9, rfl⟩ := r7
        have H11 := H10.to e9
        refine d_val rfl (wg rfl rfl rfl) rfl rfl (fun zw hx => py_not rfl) (dV rfl rfl (fun zw hx => py_pickF rfl rfl) (dV rfl rfl (fun zw hx => py_move rfl) (d_case (t := 52) rfl (fun hg2 => ?_) (fun hg2 => ?_))))
        ·try simp only [decide_eq_true_eq, decide_eq_false_iff_not] at hg2
         refine d_skip rfl (wog (b := true) rfl rfl rfl) rfl rfl (d_skip rfl (wog (b := true) rfl rfl rfl) rfl rfl (d_skip rfl (wog (b := true) rfl rfl rfl) rfl rfl (d_skipA rfl (wog (b := true) rfl rfl rfl) rfl rfl (d_skipA rfl (wog (b := true) rfl rfl rfl) rfl rfl (d_skip rfl (wog (b := true) rfl rfl rfl) rfl rfl (dV rfl rfl (fun zw hx => py_pickT rfl rfl) (dV rfl rfl (fun zw hx => py_move rfl) (d_skip rfl (wog (b := true) rfl rfl rfl) rfl rfl (d_skip rfl (wog (b := true) rfl rfl rfl) rfl rfl (d_skip rfl (wog (b := true) rfl rfl rfl) rfl rfl (d_skipA rfl (wog (b := true) rfl rfl rfl) rfl rfl (d_skipA rfl (wog (b := true) rfl rfl rfl) rfl rfl (d_skip rfl (wog (b := true) rfl rfl rfl) rfl rfl (dV rfl rfl (fun zw hx => py_pickT rfl rfl) (d_end rfl (wn rfl) rfl rfl (py_assign rfl) (d_nil (W_ift rfl (W_reg (sV rfl (py_assign rfl) (s_nil ?_))))))))))))))))))))
         have hk1 := ins_iff.1 (not_false c1)
         exact ⟨(), ⟨eqI (kindF_move_no (by omega) (by simp_all [moveOK])).symm, rfl, trivial⟩, H11, not_false c1, not_false c2⟩
        ·try simp only [decide_eq_true_eq, decide_eq_false_iff_not] at hg2
         refine d_val rfl (wg rfl rfl rfl) rfl rfl (fun zw hx => py_field Tryz.underlying66 rfl Tryz.sizeOf61 rfl rfl) (d_val rfl (wg rfl rfl rfl) rfl rfl (fun zw hx => py_load Tryz.underlying61 rfl rfl (cell_atL (hx.heap (H9.box 1 rfl)) rfl)) (d_val rfl (wg rfl rfl rfl) rfl rfl (fun zw hx => py_loadS Tryz.underlying33 rfl Tryz.sizeOf33 rfl rfl (At.whole (hx.heap (H9.box 0 rfl)))) (d_call rfl (wg rfl rfl rfl) rfl rfl (pc_call Tryz.func121 rfl Tryz_nm121 rfl) (Tryz_size_byte (H11.sees 1 rfl)) (fun hS _ _ r _ => hS.trans r.1.no) (fun v8 w11 r8 => ?_))))
         obtain ⟨e10, rfl⟩ := r8
         have H12 := H11.to e10
         refine d_call rfl (wg rfl rfl rfl) rfl rfl (pc_call Tryz.func122 rfl Tryz_nm122 rfl) (Tryz_impl_Shape_rowLength (by assumption)) (fun hS _ _ r _ => hS.trans r.1.no) (fun v9 w12 r9 => ?_)
         obtain ⟨e11, rfl⟩ := r9
         have H13 := H12.to e11
         refine d_val rfl (wg rfl rfl rfl) rfl rfl (fun zw hx => py_neq rfl rfl) (dV rfl rfl (fun zw hx => py_pickF rfl rfl) (dV rfl rfl (fun zw hx => py_move rfl) (d_case (t := 60) rfl (fun hg3 => ?_) (fun hg3 => ?_))))
         ·try simp only [decide_eq_true_eq, decide_eq_false_iff_not] at hg3
          refine d_skip rfl (wog (b := true) rfl rfl rfl) rfl rfl (d_skip rfl (wog (b := true) rfl rfl rfl) rfl rfl (d_skip rfl (wog (b := true) rfl rfl rfl) rfl rfl (d_skipA rfl (wog (b := true) rfl rfl rfl) rfl rfl (d_skipA rfl (wog (b := true) rfl rfl rfl) rfl rfl (d_skip rfl (wog (b := true) rfl rfl rfl) rfl rfl (dV rfl rfl (fun zw hx => py_pickT rfl rfl) (d_end rfl (wn rfl) rfl rfl (py_assign rfl) (d_nil (W_ift rfl (W_reg (sV rfl (py_assign rfl) (s_nil ?_))))))))))))
          have hk1 := ins_iff.1 (not_false c1)
          exact ⟨(), ⟨eqI (kindF_move_no (by omega) (by simp_all [moveOK])).symm, rfl, trivial⟩, H13, not_false c1, not_false c2⟩
         ·try simp only [decide_eq_true_eq, decide_eq_false_iff_not] at hg3
          refine d_val rfl (wg rfl rfl rfl) rfl rfl (fun zw hx => py_field Tryz.underlying66 rfl Tryz.sizeOf61 rfl rfl) (d_val rfl (wg rfl rfl rfl) rfl rfl (fun zw hx => py_load Tryz.underlying61 rfl rfl (cell_atL (hx.heap (H9.box 1 rfl)) rfl)) (d_val rfl (wg rfl rfl rfl) rfl rfl (fun zw hx => py_loadS Tryz.underlying33 rfl Tryz.sizeOf33 rfl rfl (At.whole (hx.heap (H9.box 0 rfl)))) (d_call rfl (wg rfl rfl rfl) rfl rfl (pc_call Tryz.func121 rfl Tryz_nm121 rfl) (Tryz_size_byte (H13.sees 2 rfl)) (fun hS _ _ r _ => hS.trans r.1.no) (fun v10 w13 r10 => ?_))))
          obtain ⟨e12, rfl⟩ := r10
          have H14 := H13.to e12
          refine d_call rfl (wg rfl rfl rfl) rfl rfl (pc_call Tryz.func122 rfl Tryz_nm122 rfl) (Tryz_impl_Shape_rowLength (by assumption)) (fun hS _ _ r _ => hS.trans r.1.no) (fun v11 w14 r11 => ?_)
          obtain ⟨e13, rfl⟩ := r11
          have H15 := H14.to e13
          refine d_val rfl (wg rfl rfl rfl) rfl rfl (fun zw hx => py_neq rfl rfl) (dV rfl rfl (fun zw hx => py_pickF rfl rfl) (d_end rfl (wn rfl) rfl rfl (py_assign rfl) (d_nil (W_ifd rfl (fun c7 => ?_) (fun c7 => ?_)))))
          ·refine W_reg (sV rfl (py_assign rfl) (s_nil ?_))
           have hk1 := ins_iff.1 (not_false c1)
           exact ⟨(), ⟨eqI (kindF_move_no (by omega) (by simp_all [moveOK])).symm, rfl, trivial⟩, H15, not_false c1, not_false c2⟩
          ·refine W_skip ?_
           have hk1 := ins_iff.1 (not_false c1)
           exact ⟨(), ⟨eqI (kindF_move_ok (by omega) (by simp_all [moveOK])).symm, rfl, trivial⟩, H15, not_false c1, not_false c2⟩
 ·dsimp only [List.cons_append, List.nil_append]
  refine W_seq (W_seq (W_drw (S := Ext No _) [(0, true), (1, true), (2, true), (3, true), (4, true), (5, false), (6, false), (7, true), (8, false)] (by kernel_rfl) (by kernel_rfl) (by kernel_rfl) rfl (fun _ => Ext.refl.drawn _) (fun q2 => ?_)))
  have H16 := H3.drawn q2
  refine dV rfl rfl (fun zw hx => py_move rfl) (dV rfl rfl (fun zw hx => py_eql rfl rfl) (dV rfl rfl (fun zw hx => py_move rfl) (d_case (t := 70) rfl (fun hg4 => ?_) (fun hg4 => ?_))))
  ·try simp only [decide_eq_true_eq, decide_eq_false_iff_not] at hg4
   refine d_val rfl (wg rfl rfl rfl) rfl rfl (fun zw hx => py_loadS Tryz.underlying66 rfl Tryz.sizeOf66 rfl rfl (At.whole (hx.heap (H16.box 1 rfl)))) (d_val rfl (wg rfl rfl rfl) rfl rfl (fun zw hx => py_loadS Tryz.underlying66 rfl Tryz.sizeOf66 rfl rfl (At.whole (hx.heap (H16.box 1 rfl)))) (d_call rfl (wg rfl rfl rfl) rfl rfl (pc_call Tryz.func186 rfl Tryz_nm186 rfl) (Tryz_impl_Rec_bare (by assumption) (H16.sees 0 rfl) (H16.sees 1 rfl) (H16.sees 2 rfl)) (fun hS _ _ r _ => hS.trans r.1.no) (fun v12 w15 r12 => ?_)))
   obtain ⟨e14, bA1, bA2, bA3, bA4, bA5, bA6, rfl, bS1, bS2, bS3⟩ := r12
   have H17 := H16.to e14
   refine d_call rfl (wg rfl rfl rfl) rfl rfl (pc_call Tryz.func185 rfl Tryz_nm185 rfl) (Tryz_impl_sameRec (by assumption) (H17.sees 0 rfl) (H17.sees 1 rfl) (H17.sees 2 rfl) (recOf_ok (by assumption)) bS1 bS2 bS3) (fun hS _ _ r _ => hS.trans r.1.no) (fun v13 w16 r13 => ?_)
   obtain ⟨e15, rfl⟩ := r13
   have H18 := H17.to e15
   refine d_val rfl (wg rfl rfl rfl) rfl rfl (fun zw hx => py_not rfl) (d_end rfl (wn rfl) rfl rfl (py_pickT rfl rfl) (d_nil (W_if rfl (fun c8 => ?_) (fun c8 => ?_))))
   ·refine W_reg (sV rfl (py_assign rfl) (s_nil (W_sr (sV rfl (py_move rfl) (sV rfl (py_assign rfl) (s_nil (W_ret (hQ _ _ (fin1 Tryz.results111 rfl ?_)))))))))
    exact ⟨H18.ext, congrArg (Value.int .i64) ((recF_form hK hS (by omega) (by rw [← recOf_same (ins_iff.1 hK)]; exact not_true c8)).trans rfl).symm⟩
   ·refine W_skip (W_sr (sV rfl (py_move rfl) (sV rfl (py_assign rfl) (s_nil (W_ret (hQ _ _ (fin1 Tryz.results111 rfl ?_)))))))
    exact ⟨H18.ext, congrArg (Value.int .i64) ((recF_ok hK hS (by omega) (by rw [← recOf_same (ins_iff.1 hK)]; exact not_false c8)).trans (by omega)).symm⟩
  ·try simp only [decide_eq_true_eq, decide_eq_false_iff_not] at hg4
   refine d_skip rfl (wog (b := false) rfl rfl rfl) rfl rfl (d_skip rfl (wog (b := false) rfl rfl rfl) rfl rfl (d_skipA rfl (wog (b := false) rfl rfl rfl) rfl rfl (d_skipA rfl (wog (b := false) rfl rfl rfl) rfl rfl (d_skip rfl (wog (b := false) rfl rfl rfl) rfl rfl (d_end rfl (wn rfl) rfl rfl (py_pickF rfl rfl) (d_nil (W_iff rfl (W_skip (W_sr (sV rfl (py_move rfl) (sV rfl (py_assign rfl) (s_nil (W_ret (hQ _ _ (fin1 Tryz.results111 rfl ?_)))))))))))))))
   exact ⟨H16.ext, congrArg (Value.int .i64) (recF_bad hK hS (by omega)).symm⟩
end Go.Wk
namespace Go.Wk
open Rp (sz own)
section
variable {s : Shape} {r : Rec}
theorem rest_ok1 (h : r.Ok) : (⟨r.Kind, r.Seq, ⟨#[]⟩, 0, r.Group, r.Row, [], [], r.Delta⟩ : Rec).Ok := by
  unfold Rec.Ok I64ok at h ⊢
  have : (⟨#[]⟩ : ByteArray).size ≤ maxLen := Nat.zero_le _
  simp only; omega
theorem rest_ok2 (h : r.Ok) : (⟨r.Kind, r.Seq, r.Name, r.Length, 0, 0, r.Rows, [], []⟩ : Rec).Ok := by
  unfold Rec.Ok I64ok at h ⊢
  simp only; omega
theorem rest_ok3 (h : r.Ok) : (⟨r.Kind, r.Seq, r.Name, r.Length, 0, r.Row, r.Rows, r.Data, r.Delta⟩ : Rec).Ok := by
  unfold Rec.Ok I64ok at h ⊢
  simp only; omega
theorem rest_ok4 (h : r.Ok) : (⟨r.Kind, r.Seq, r.Name, r.Length, 0, 0, [], [], []⟩ : Rec).Ok := by
  unfold Rec.Ok I64ok at h ⊢
  simp only; omega
theorem rest_bare1 (h : r.Kind = 1) : emptyR ⟨r.Kind, r.Seq, ⟨#[]⟩, 0, r.Group, r.Row, [], [], r.Delta⟩ = bareOK r := by rw [bareOK, if_pos h]; simp [emptyR, noName]
theorem rest_bare2 (h : r.Kind = 2) : emptyR ⟨r.Kind, r.Seq, r.Name, r.Length, 0, 0, r.Rows, [], []⟩ = bareOK r := by rw [bareOK, if_neg (by omega), if_pos h]; simp [emptyR, noName]
theorem rest_bare3 (h : r.Kind = 3) : emptyR ⟨r.Kind, r.Seq, r.Name, r.Length, 0, r.Row, r.Rows, r.Data, r.Delta⟩ = bareOK r := by rw [bareOK, if_neg (by omega), if_neg (by omega), if_pos h]; simp [emptyR, noName, Bool.and_assoc]
theorem rest_bare4 (h : r.Kind = 4) : emptyR ⟨r.Kind, r.Seq, r.Name, r.Length, 0, 0, [], [], []⟩ = bareOK r := by rw [bareOK, if_neg (by omega), if_neg (by omega), if_neg (by omega)]; simp [emptyR, noName]
end
end Go.Wk
namespace Go.Wk
section
variable {z : Wld} {s : Shape} {g : List Drive} {d : Drive}
theorem all_of_any {α : Type} [Inhabited α] {xs : List α} {p : α → Bool} (h : (xs.any fun b => !p b) = false) : ((List.range xs.length).all fun i => p (xs.getD i default)) = true :=
  all_yes fun i hi => by simpa using any_noD (d := default) h i hi
theorem not_all_of_any {α : Type} [Inhabited α] {xs : List α} {p : α → Bool} (h : (xs.any fun b => !p b) = true) : ((List.range xs.length).all fun i => p (xs.getD i default)) = false := by
  obtain ⟨i, hi, h⟩ := any_getD (d := default) h
  exact all_no i hi (by simpa using h)
theorem driveOK_len (h : ¬ (d.Blocks.length : Int) = s.Rows) : driveOK s d = false := by rw [driveOK, decide_eq_false h]; rfl
theorem driveOK_bad (h : (d.Blocks.any fun b => !blockOK b) = true) : driveOK s d = false := by rw [driveOK, not_all_of_any h, Bool.and_false]
theorem driveOK_yes (h : (d.Blocks.length : Int) = s.Rows) (h2 : (d.Blocks.any fun b => !blockOK b) = false) : driveOK s d = true := by rw [driveOK, decide_eq_true h, all_of_any h2]; rfl
theorem driveOK_all (h : (d.Blocks.length : Int) = s.Rows) (h2 : ∀ i, i < d.Blocks.length → blockOK (d.Blocks.getD i default) = true) : driveOK s d = true := by rw [driveOK, decide_eq_true h, all_yes h2]; rfl
theorem driveOK_at (i : Nat) (hi : i < d.Blocks.length) (h2 : blockOK (d.Blocks.getD i default) = false) : driveOK s d = false := by rw [driveOK, all_no i hi h2, Bool.and_false]
theorem groupOK_len (h : ¬ (g.length : Int) = s.Data + s.Spare) : groupOK s g = false := by rw [groupOK, decide_eq_false h]; rfl
theorem groupOK_at (k : Nat) (hk : k < g.length) (h : driveOK s (g.getD k default) = false) : groupOK s g = false := by rw [groupOK, all_no k hk h, Bool.and_false]
theorem groupOK_yes (h : (g.length : Int) = s.Data + s.Spare) (h2 : ∀ i, i < g.length → driveOK s (g.getD i default) = true) : groupOK s g = true := by rw [groupOK, decide_eq_true h, all_yes h2]; rfl
theorem groupsOK_len (h : ¬ (z.Groups.length : Int) = z.Shape.Groups + z.Shape.Column) : groupsOK z = false := by rw [groupsOK, decide_eq_false h]; rfl
theorem groupsOK_at (k : Nat) (hk : k < z.Groups.length) (h : groupOK z.Shape (z.Groups.getD k []) = false) : groupsOK z = false := by rw [groupsOK, all_no k hk h, Bool.and_false]
theorem groupsOK_yes (h : (z.Groups.length : Int) = z.Shape.Groups + z.Shape.Column) (h2 : ∀ i, i < z.Groups.length → groupOK z.Shape (z.Groups.getD i []) = true) : groupsOK z = true := by rw [groupsOK, decide_eq_true h, all_yes h2]; rfl
end
end Go.Wk
namespace Go.Wk
section
variable {z : Wld}
theorem onOK_apart (h : (List.range z.On.length).all (apartAt z.On (z.Shape.Groups + z.Shape.Column - 1)) = false) : onOK z = false := by rw [onOK, apartL, h]; rfl
theorem onOK_rest (h : (List.range z.On.length).all (apartAt z.On (z.Shape.Groups + z.Shape.Column - 1)) = true) {b : Bool} (hb : b = (decide ((z.On.length : Int) ≤ z.Shape.Cap) && (decide (z.On.length = 0) || !z.Down))) : onOK z = b := by rw [onOK, apartL, h, hb]; simp [Bool.and_assoc]
theorem tapesF_many (h : z.Tapes.any manyRecs = true) : tapesF z = 2 := by rw [tapesF, if_pos h]
theorem tapesF_rec (h : z.Tapes.any manyRecs = false) {k k2 : Nat} (hk : k < z.Tapes.length) (hkz : tapeF z.Shape z.Tapes k = 0) (hk2 : k2 < (z.Tapes.getD k default).Recs.length) (h2 : recsF z.Shape (z.Tapes.getD k default).Recs k2 = 0)
    (hr : recF z.Shape ((z.Tapes.getD k default).Recs.getD k2 default) ≠ 0) : tapesF z = recF z.Shape ((z.Tapes.getD k default).Recs.getD k2 default) := by
  have e := tapeF_hit hk hkz hk2 h2 hr
  rw [tapesF, if_neg (by simp [h]), if_pos (by rw [e]; exact hr), e]
theorem tapesF_full (h : z.Tapes.any manyRecs = false) (h2 : tapeF z.Shape z.Tapes z.Tapes.length = 0) (h3 : z.Tapes.any wipedFull = true) : tapesF z = 1 := by rw [tapesF, if_neg (by simp [h]), if_neg (by omega), if_pos h3]
theorem tapesF_ok (h : z.Tapes.any manyRecs = false) (h2 : tapeF z.Shape z.Tapes z.Tapes.length = 0) (h3 : z.Tapes.any wipedFull = false) : tapesF z = 0 := by rw [tapesF, if_neg (by simp [h]), if_neg (by omega), if_neg (by simp [h3])]
end
end Go.Wk
namespace Go.Wk
section
variable {z : Wld} {b : Block}
theorem blockOK_no (h : (!ins b.Stamp 0 1000000000 || decide ((b.Bytes.length : Int) ≠ 4)) = true) : blockOK b = false := by
  rw [blockOK]
  simp only [Bool.or_eq_true, decide_eq_true_eq] at h
  rcases h with h | h
  · rw [not_true h]; rfl
  · rw [decide_eq_false (by omega), Bool.and_false]
theorem blockOK_yes (h : (!ins b.Stamp 0 1000000000 || decide ((b.Bytes.length : Int) ≠ 4)) = false) : blockOK b = true := by
  rw [Bool.or_eq_false_iff] at h
  have h2 := of_decide_eq_false h.2
  rw [blockOK, not_false h.1, decide_eq_true (by omega)]; rfl
theorem any_two {α : Type} [Inhabited α] {xs : List α} {p : α → Bool} (h : xs.length = 2) (h2 : p (xs.getD 0 default) = true ∨ p (xs.getD 1 default) = true) : xs.any p = true := by
  rcases h2 with h2 | h2
  · exact any_at 0 (by omega) h2
  · exact any_at 1 (by omega) h2
theorem any_neither {α : Type} [Inhabited α] {xs : List α} {p : α → Bool} (h : xs.length = 2) (h0 : p (xs.getD 0 default) = false) (h1 : p (xs.getD 1 default) = false) : xs.any p = false :=
  any_none fun i hi => by
    have : i = 0 ∨ i = 1 := by omega
    rcases this with rfl | rfl
    · exact h0
    · exact h1
theorem fine_eq : (groupsOK z && (apartL z.On (z.Shape.Groups + z.Shape.Column - 1) && (decide ((z.On.length : Int) ≤ z.Shape.Cap) && ((decide (z.On.length = 0) || !z.Down) && decide (z.Tapes.length = 2))))) = (groupsOK z && onOK z && decide (z.Tapes.length = 2)) := by
  rw [onOK]; simp only [Bool.and_assoc]
end
end Go.Wk
namespace Go.Wk
theorem at_cell {w : World} {b o : Nat} {cs : List Value} (h : At w b o cs) (j : Nat) {v : Value} (hj : cs[j]? = some v) : w.cell? ⟨b, o + j, none⟩ = some v := h j v hj
end Go.Wk
namespace Go.Wk
open Go.Proofs Rp
set_option maxRecDepth 10000
set_option maxHeartbeats 1000000 in
theorem Tryz_spec_RecFault {w : World} {s : Shape} {r : Rec} {rA6 : Option Addr} {rC6 : Nat} {rA7 : Option Addr} {rC7 : Nat} {rA8 : Option Addr} {rC8 : Nat} (rK : r.Ok) (rS6 : Sees w [.slice rA6 r.Rows.length rC6] r.Rows) (rS7 : Sees w [.slice rA7 r.Data.length rC7] r.Data) (rS8 : Sees w [.slice rA8 r.Delta.length rC8] r.Delta) : Ret Tryz.prog 108 #[s.v, r.val rA6 rC6 rA7 rC7 rA8 rC8] w fun v w' => Ext No w w' ∧ (v = .int .i64 (if s.fault ≠ 0 then s.fault else recF s r)) := by
 have rK2 := rK
 unfold Rec.Ok at rK2
 try unfold I64ok at rK2
 try unfold maxLen at rK2
 have rN2 : r.Name.size ≤ maxLen := by unfold maxLen; omega
 have rL6 := sees_len rS6
 unfold maxLen at rL6
 obtain ⟨rF6, rO6⟩ := rS6
 have rL7 := sees_len rS7
 unfold maxLen at rL7
 obtain ⟨rF7, rO7⟩ := rS7
 have rL8 := sees_len rS8
 unfold maxLen at rL8
 obtain ⟨rF8, rO8⟩ := rS8
 refine ret_Q (vs := [s.v, r.val rA6 rC6 rA7 rC7 rA8 rC8]) Tryz.func108 rfl Tryz.ntmps108 rfl (fun Q hQ hN => ?_)
 have H0 := Sep.start (w := w) (F := [seen false [.slice rA6 r.Rows.length rC6] r.Rows rF6, seen false [.slice rA7 r.Data.length rC7] r.Data rF7, seen false [.slice rA8 r.Delta.length rC8] r.Delta rF8]) (all_cons rO6 (all_cons rO7 (all_cons rO8 (by simp))))
 refine W_sr (s_box (wn rfl) rfl rfl H0 (fun b1 w1 e1 g1 H1 => ?_))
 refine s_box (wn rfl) rfl rfl H1 (fun b2 w2 e2 g2 H2 => ?_)
 refine sV rfl (py_assign rfl) (s_nil (W_seq (W_sr (sV rfl (py_loadS Tryz.underlying33 rfl Tryz.sizeOf33 rfl rfl (At.whole (H2.box 0 rfl))) (s_call (wn rfl) rfl rfl (pc_call Tryz.func146 rfl Tryz_nm146 rfl) Tryz_spec_ShapeFault (fun v1 w3 r1 => ?_))))))
 obtain ⟨e3, rfl⟩ := r1
 have H3 := H2.to e3
 refine sV rfl (py_assign rfl) (s_nil (W_sr (sV rfl (py_move rfl) (sV rfl (py_neq rfl rfl) (s_nil (W_ifd rfl (fun c1 => ?_) (fun c1 => ?_)))))))
 ·refine W_sr (sV rfl (py_move rfl) (sV rfl (py_assign rfl) (s_nil (W_ret (hQ _ _ (fin1 Tryz.results108 rfl ?_))))))
  exact ⟨H3.ext, congrArg (Value.int .i64) (if_pos (by omega)).symm⟩
 ·refine W_skip (W_seq (W_seq ?_))
  have hs := shapeFault_ok (s := s) (by omega)
  have sbd := shape_bd hs
  refine W_reg (sV rfl (py_field Tryz.underlying66 rfl Tryz.sizeOf2 rfl rfl) (sV rfl (py_load Tryz.underlying2 rfl rfl (cell_atL (H3.box 1 rfl) rfl)) (s_call (wn rfl) rfl rfl (pc_call Tryz.func149 rfl Tryz_nm149 rfl) Tryz_spec_l1In (fun v2 w4 r2 => ?_))))
  obtain ⟨e4, rfl⟩ := r2
  have H4 := H3.to e4
  refine sV rfl (py_not rfl) (s_nil (W_if rfl (fun c2 => ?_) (fun c2 => ?_)))
  ·refine W_sr (sV rfl (py_assign rfl) (s_nil (W_ret (hQ _ _ (fin1 Tryz.results108 rfl ?_)))))
   exact ⟨H4.ext, congrArg (Value.int .i64) ((if_neg (by omega)).trans (recF_kind (not_true c2))).symm⟩
  ·refine W_skip (W_seq (W_sr (sV rfl (py_field Tryz.underlying66 rfl Tryz.sizeOf2 rfl rfl) (sV rfl (py_load Tryz.underlying2 rfl rfl (cell_atL (H4.box 1 rfl) rfl)) (s_call (wn rfl) rfl rfl (pc_call Tryz.func149 rfl Tryz_nm149 rfl) Tryz_spec_l1In (fun v3 w5 r3 => ?_))))))
   obtain ⟨e5, rfl⟩ := r3
   have H5 := H4.to e5
   refine sV rfl (py_not rfl) (s_nil (W_if rfl (fun c3 => ?_) (fun c3 => ?_)))
   ·refine W_sr (sV rfl (py_assign rfl) (s_nil (W_ret (hQ _ _ (fin1 Tryz.results108 rfl ?_)))))
    exact ⟨H5.ext, congrArg (Value.int .i64) ((if_neg (by omega)).trans (recF_seq (not_false c2) (not_true c3))).symm⟩
   ·refine W_skip (W_sr (sV rfl (py_loadS Tryz.underlying66 rfl Tryz.sizeOf66 rfl rfl (At.whole (H5.box 1 rfl))) (s_var (wn rfl) rfl Tryz.zeroValue66 H5 (fun b3 w6 e6 g3 H6 => ?_))))
    refine s_stoS (wn rfl) Tryz.sizeOf66 rfl rfl rfl rfl H6 2 rfl rfl (fun w7 e7 H7 => ?_)
    dsimp only [List.nil_append, List.cons_append, List.set_cons_zero, List.set_cons_succ, layL] at H7
    refine s_nil (W_seq (W_sr (sV rfl (py_field Tryz.underlying66 rfl Tryz.sizeOf2 rfl rfl) (sV rfl (py_load Tryz.underlying2 rfl rfl (cell_atL (H7.box 1 rfl) rfl)) (s_nil (W_block (W_seq ?_)))))))
    have hk1 := ins_iff.1 (not_false c2)
    refine W_reg (sV rfl (py_eql rfl rfl) (sV rfl (py_assign rfl) (s_nil (W_ifd rfl (fun c4 => ?_) (fun c4 => ?_)))))
    ·refine W_seq (W_sr (sV rfl (py_field Tryz.underlying66 rfl Tryz.sizeOf9 rfl rfl) (sV rfl (py_load Tryz.underlying9 rfl rfl (cell_atL (H7.box 1 rfl) rfl)) (s_call (wn rfl) rfl rfl (pc_call Tryz.func175 rfl Tryz_nm175 rfl) (Tryz_spec_NameFault (by assumption)) (fun v4 w8 r4 => ?_)))))
     obtain ⟨e8, rfl⟩ := r4
     have H8 := H7.to e8
     refine sV rfl (py_assign rfl) (s_nil (W_sr (sV rfl (py_move rfl) (sV rfl (py_neq rfl rfl) (s_nil (W_ifd rfl (fun c5 => ?_) (fun c5 => ?_)))))))
     ·refine W_sr (sV rfl (py_move rfl) (sV rfl (py_assign rfl) (s_nil (W_ret (hQ _ _ (fin1 Tryz.results108 rfl ?_))))))
      have kq := (kindF_item (s := s) (by omega)).trans (itemF_name (by omega))
      have kF := recF_bad (s := s) (not_false c2) (not_false c3) (by omega)
      exact ⟨H8.ext, congrArg (Value.int .i64) ((if_neg (by omega)).trans (kF.trans kq)).symm⟩
     ·refine W_skip (W_seq (W_sr (sV rfl (py_loadS Tryz.underlying33 rfl Tryz.sizeOf33 rfl rfl (At.whole (H8.box 0 rfl))) (sV rfl (py_loadS Tryz.underlying66 rfl Tryz.sizeOf66 rfl rfl (At.whole (H8.box 1 rfl))) (s_call (wn rfl) rfl rfl (pc_call Tryz.func176 rfl Tryz_nm176 rfl) (Tryz_spec_l5Item (by assumption) (H8.sees 0 rfl) (H8.sees 1 rfl) (H8.sees 2 rfl) (by assumption)) (fun v5 w9 r5 => ?_))))))
      obtain ⟨e9, rfl⟩ := r5
      have H9 := H8.to e9
      refine sV rfl (py_not rfl) (s_nil (W_if rfl (fun c6 => ?_) (fun c6 => ?_)))
      ·refine W_sr (sV rfl (py_assign rfl) (s_nil (W_ret (hQ _ _ (fin1 Tryz.results108 rfl ?_)))))
       have kq := (kindF_item (s := s) (by omega)).trans (itemF_bad (by omega) (not_true c6))
       have kF := recF_bad (s := s) (not_false c2) (not_false c3) (by omega)
       exact ⟨H9.ext, congrArg (Value.int .i64) ((if_neg (by omega)).trans (kF.trans kq)).symm⟩
      ·refine W_skip (W_sr (sV rfl (py_field Tryz.underlying66 rfl Tryz.sizeOf9 rfl rfl) (s_sto (wn rfl) Tryz.sizeOf9 rfl rfl rfl H9 2 rfl rfl (fun w10 e10 H10 => ?_))))
       dsimp only [List.nil_append, List.cons_append, List.set_cons_zero, List.set_cons_succ, layL] at H10
       refine s_nil (W_sr (sV rfl (py_field Tryz.underlying66 rfl Tryz.sizeOf2 rfl rfl) (s_sto (wn rfl) Tryz.sizeOf2 rfl rfl rfl H10 2 rfl rfl (fun w11 e11 H11 => ?_))))
       dsimp only [List.nil_append, List.cons_append, List.set_cons_zero, List.set_cons_succ, layL] at H11
       refine s_nil (W_sr (sV rfl (py_field Tryz.underlying66 rfl Tryz.sizeOf25 rfl rfl) (s_sto (wn rfl) Tryz.sizeOf25 rfl rfl rfl H11 2 rfl rfl (fun w12 e12 H12 => ?_))))
       dsimp only [List.nil_append, List.cons_append, List.set_cons_zero, List.set_cons_succ, layL] at H12
       refine s_nil (W_reg (sV rfl (py_field Tryz.underlying66 rfl Tryz.sizeOf61 rfl rfl) (s_sto (wn rfl) Tryz.sizeOf61 rfl rfl rfl H12 2 rfl rfl (fun w13 e13 H13 => ?_))))
       dsimp only [List.nil_append, List.cons_append, List.set_cons_zero, List.set_cons_succ, layL] at H13
       refine s_nil (W_seq (W_sr (sV rfl (py_loadS Tryz.underlying66 rfl Tryz.sizeOf66 rfl rfl (At.whole (H13.box 2 rfl))) (s_call (wn rfl) rfl rfl (pc_call Tryz.func180 rfl Tryz_nm180 rfl) (Tryz_spec_l5Empty (r := ⟨r.Kind, r.Seq, ⟨#[]⟩, 0, r.Group, r.Row, [], [], r.Delta⟩) (rest_ok1 rK) ⟨[], .inr (.inl ⟨rfl, rfl, rfl⟩)⟩ ⟨[], .inr (.inl ⟨rfl, rfl, rfl⟩)⟩ (H13.sees 2 rfl)) (fun v6 w14 r6 => ?_)))))
       obtain ⟨e14, rfl⟩ := r6
       have H14 := H13.to e14
       refine sV rfl (py_not rfl) (s_nil (W_if rfl (fun c7 => ?_) (fun c7 => ?_)))
       ·refine W_sr (sV rfl (py_assign rfl) (s_nil (W_ret (hQ _ _ (fin1 Tryz.results108 rfl ?_)))))
        have kq := (kindF_item (s := s) (by omega)).trans (itemF_ok (by omega) (not_false c6))
        exact ⟨H14.ext, congrArg (Value.int .i64) ((if_neg (by omega)).trans (recF_form (not_false c2) (not_false c3) kq (by rw [← rest_bare1 (by omega)]; exact not_true c7))).symm⟩
       ·refine W_skip (W_sr (sV rfl (py_assign rfl) (s_nil (W_ret (hQ _ _ (fin1 Tryz.results108 rfl ?_))))))
        have kq := (kindF_item (s := s) (by omega)).trans (itemF_ok (by omega) (not_false c6))
        exact ⟨H14.ext, congrArg (Value.int .i64) ((if_neg (by omega)).trans (recF_ok (not_false c2) (not_false c3) kq (by rw [← rest_bare1 (by omega)]; exact not_false c7))).symm⟩
    ·refine W_sr (sV rfl (py_eql rfl rfl) (sV rfl (py_assign rfl) (s_nil (W_ifd rfl (fun c8 => ?_) (fun c8 => ?_)))))
     ·refine W_seq (W_seq (W_drw (S := Ext No _) [(0, true), (1, true), (2, true), (3, true), (4, true), (5, false), (6, true), (7, true), (8, true), (9, true), (10, true), (11, true), (12, true), (13, false), (14, true), (15, true), (16, true), (17, true), (18, true), (19, true), (20, true), (21, false), (22, true), (23, true), (24, true), (25, true), (26, true), (27, true), (28, true), (29, false), (30, true), (31, false)] (by kernel_rfl) (by kernel_rfl) (by kernel_rfl) rfl (fun _ => Ext.refl.drawn _) (fun q1 => ?_)))
      have H15 := H7.drawn q1
      refine dV rfl rfl (fun zw hx => py_field Tryz.underlying66 rfl Tryz.sizeOf2 rfl rfl) (dV rfl rfl (fun zw hx => py_load Tryz.underlying2 rfl rfl (cell_atL (hx.heap (H15.box 1 rfl)) rfl)) (dV rfl rfl (fun zw hx => py_field Tryz.underlying33 rfl Tryz.sizeOf2 rfl rfl) (dV rfl rfl (fun zw hx => py_load Tryz.underlying2 rfl rfl (cell_atL (hx.heap (H15.box 0 rfl)) rfl)) (dV rfl rfl (fun zw hx => py_sub rfl rfl (in64 ⟨by omega, by omega⟩)) (d_call rfl (wn rfl) rfl rfl (pc_call Tryz.func149 rfl Tryz_nm149 rfl) Tryz_spec_l1In (fun hS _ _ r _ => hS.trans r.1.no) (fun v7 w15 r7 => ?_))))))
      obtain ⟨e15, rfl⟩ := r7
      have H16 := H15.to e15
      refine dV rfl rfl (fun zw hx => py_not rfl) (dV rfl rfl (fun zw hx => py_move rfl) (d_case (t := 49) rfl (fun hg1 => ?_) (fun hg1 => ?_)))
      ·try simp only [decide_eq_true_eq, decide_eq_false_iff_not] at hg1
       refine d_skip rfl (wog (b := true) rfl rfl rfl) rfl rfl (d_skip rfl (wog (b := true) rfl rfl rfl) rfl rfl (d_skip rfl (wog (b := true) rfl rfl rfl) rfl rfl (d_skip rfl (wog (b := true) rfl rfl rfl) rfl rfl (d_skip rfl (wog (b := true) rfl rfl rfl) rfl rfl (d_skipA rfl (wog (b := true) rfl rfl rfl) rfl rfl (d_skip rfl (wog (b := true) rfl rfl rfl) rfl rfl (dV rfl rfl (fun zw hx => py_pickT rfl rfl) (dV rfl rfl (fun zw hx => py_move rfl) (d_skip rfl (wog (b := true) rfl rfl rfl) rfl rfl (d_skip rfl (wog (b := true) rfl rfl rfl) rfl rfl (d_skip rfl (wog (b := true) rfl rfl rfl) rfl rfl (d_skip rfl (wog (b := true) rfl rfl rfl) rfl rfl (d_skipA rfl (wog (b := true) rfl rfl rfl) rfl rfl (d_skip rfl (wog (b := true) rfl rfl rfl) rfl rfl (dV rfl rfl (fun zw hx => py_pickT rfl rfl) (dV rfl rfl (fun zw hx => py_move rfl) (d_skip rfl (wog (b := true) rfl rfl rfl) rfl rfl (d_skip rfl (wog (b := true) rfl rfl rfl) rfl rfl (d_skip rfl (wog (b := true) rfl rfl rfl) rfl rfl (d_skip rfl (wog (b := true) rfl rfl rfl) rfl rfl (d_skipA rfl (wog (b := true) rfl rfl rfl) rfl rfl (d_skip rfl (wog (b := true) rfl rfl rfl) rfl rfl (d_end rfl (wn rfl) rfl rfl (py_pickT rfl rfl) (d_nil (W_ift rfl (W_sr (sV rfl (py_assign rfl) (s_nil (W_ret (hQ _ _ (fin1 Tryz.results108 rfl ?_)))))))))))))))))))))))))))))))
       have kq := kindF_move_no (s := s) (by omega) (by simp_all [moveOK])
       have kF := recF_bad (s := s) (not_false c2) (not_false c3) (by omega)
       exact ⟨H16.ext, congrArg (Value.int .i64) ((if_neg (by omega)).trans (kF.trans kq)).symm⟩
      ·try simp only [decide_eq_true_eq, decide_eq_false_iff_not] at hg1
       refine d_val rfl (wg rfl rfl rfl) rfl rfl (fun zw hx => py_field Tryz.underlying66 rfl Tryz.sizeOf2 rfl rfl) (d_val rfl (wg rfl rfl rfl) rfl rfl (fun zw hx => py_load Tryz.underlying2 rfl rfl (cell_atL (hx.heap (H15.box 1 rfl)) rfl)) (d_val rfl (wg rfl rfl rfl) rfl rfl (fun zw hx => py_field Tryz.underlying33 rfl Tryz.sizeOf2 rfl rfl) (d_val rfl (wg rfl rfl rfl) rfl rfl (fun zw hx => py_load Tryz.underlying2 rfl rfl (cell_atL (hx.heap (H15.box 0 rfl)) rfl)) (d_val rfl (wg rfl rfl rfl) rfl rfl (fun zw hx => py_sub rfl rfl (in64 ⟨by omega, by omega⟩)) (d_call rfl (wg rfl rfl rfl) rfl rfl (pc_call Tryz.func149 rfl Tryz_nm149 rfl) Tryz_spec_l1In (fun hS _ _ r _ => hS.trans r.1.no) (fun v8 w16 r8 => ?_))))))
       obtain ⟨e16, rfl⟩ := r8
       have H17 := H16.to e16
       refine d_val rfl (wg rfl rfl rfl) rfl rfl (fun zw hx => py_not rfl) (dV rfl rfl (fun zw hx => py_pickF rfl rfl) (dV rfl rfl (fun zw hx => py_move rfl) (d_case (t := 58) rfl (fun hg2 => ?_) (fun hg2 => ?_))))
       ·try simp only [decide_eq_true_eq, decide_eq_false_iff_not] at hg2
        refine d_skip rfl (wog (b := true) rfl rfl rfl) rfl rfl (d_skip rfl (wog (b := true) rfl rfl rfl) rfl rfl (d_skip rfl (wog (b := true) rfl rfl rfl) rfl rfl (d_skip rfl (wog (b := true) rfl rfl rfl) rfl rfl (d_skipA rfl (wog (b := true) rfl rfl rfl) rfl rfl (d_skip rfl (wog (b := true) rfl rfl rfl) rfl rfl (dV rfl rfl (fun zw hx => py_pickT rfl rfl) (dV rfl rfl (fun zw hx => py_move rfl) (d_skip rfl (wog (b := true) rfl rfl rfl) rfl rfl (d_skip rfl (wog (b := true) rfl rfl rfl) rfl rfl (d_skip rfl (wog (b := true) rfl rfl rfl) rfl rfl (d_skip rfl (wog (b := true) rfl rfl rfl) rfl rfl (d_skipA rfl (wog (b := true) rfl rfl rfl) rfl rfl (d_skip rfl (wog (b := true) rfl rfl rfl) rfl rfl (d_end rfl (wn rfl) rfl rfl (py_pickT rfl rfl) (d_nil (W_ift rfl (W_sr (sV rfl (py_assign rfl) (s_nil (W_ret (hQ _ _ (fin1 Tryz.results108 rfl ?_))))))))))))))))))))))
        have kq := kindF_move_no (s := s) (by omega) (by simp_all [moveOK])
        have kF := recF_bad (s := s) (not_false c2) (not_false c3) (by omega)
        exact ⟨H17.ext, congrArg (Value.int .i64) ((if_neg (by omega)).trans (kF.trans kq)).symm⟩
       ·try simp only [decide_eq_true_eq, decide_eq_false_iff_not] at hg2
        refine d_val rfl (wg rfl rfl rfl) rfl rfl (fun zw hx => py_field Tryz.underlying66 rfl Tryz.sizeOf61 rfl rfl) (d_val rfl (wg rfl rfl rfl) rfl rfl (fun zw hx => py_load Tryz.underlying61 rfl rfl (cell_atL (hx.heap (H15.box 1 rfl)) rfl)) (d_val rfl (wg rfl rfl rfl) rfl rfl (fun zw hx => py_len Tryz.underlying61 rfl) (d_val rfl (wg rfl rfl rfl) rfl rfl (fun zw hx => py_loadS Tryz.underlying33 rfl Tryz.sizeOf33 rfl rfl (At.whole (hx.heap (H15.box 0 rfl)))) (d_call rfl (wg rfl rfl rfl) rfl rfl (pc_call Tryz.func177 rfl Tryz_nm177 rfl) (Tryz_spec_l4Wide (by assumption)) (fun hS _ _ r _ => hS.trans r.1.no) (fun v9 w17 r9 => ?_)))))
        obtain ⟨e17, rfl⟩ := r9
        have H18 := H17.to e17
        refine d_val rfl (wg rfl rfl rfl) rfl rfl (fun zw hx => py_neq rfl rfl) (dV rfl rfl (fun zw hx => py_pickF rfl rfl) (dV rfl rfl (fun zw hx => py_move rfl) (d_case (t := 66) rfl (fun hg3 => ?_) (fun hg3 => ?_))))
        ·try simp only [decide_eq_true_eq, decide_eq_false_iff_not] at hg3
         refine d_skip rfl (wog (b := true) rfl rfl rfl) rfl rfl (d_skip rfl (wog (b := true) rfl rfl rfl) rfl rfl (d_skip rfl (wog (b := true) rfl rfl rfl) rfl rfl (d_skip rfl (wog (b := true) rfl rfl rfl) rfl rfl (d_skipA rfl (wog (b := true) rfl rfl rfl) rfl rfl (d_skip rfl (wog (b := true) rfl rfl rfl) rfl rfl (d_end rfl (wn rfl) rfl rfl (py_pickT rfl rfl) (d_nil (W_ift rfl (W_sr (sV rfl (py_assign rfl) (s_nil (W_ret (hQ _ _ (fin1 Tryz.results108 rfl ?_))))))))))))))
         have kq := kindF_move_no (s := s) (by omega) (by simp_all [moveOK])
         have kF := recF_bad (s := s) (not_false c2) (not_false c3) (by omega)
         exact ⟨H18.ext, congrArg (Value.int .i64) ((if_neg (by omega)).trans (kF.trans kq)).symm⟩
        ·try simp only [decide_eq_true_eq, decide_eq_false_iff_not] at hg3
         refine d_val rfl (wg rfl rfl rfl) rfl rfl (fun zw hx => py_field Tryz.underlying66 rfl Tryz.sizeOf61 rfl rfl) (d_val rfl (wg rfl rfl rfl) rfl rfl (fun zw hx => py_load Tryz.underlying61 rfl rfl (cell_atL (hx.heap (H15.box 1 rfl)) rfl)) (d_val rfl (wg rfl rfl rfl) rfl rfl (fun zw hx => py_len Tryz.underlying61 rfl) (d_val rfl (wg rfl rfl rfl) rfl rfl (fun zw hx => py_loadS Tryz.underlying33 rfl Tryz.sizeOf33 rfl rfl (At.whole (hx.heap (H15.box 0 rfl)))) (d_call rfl (wg rfl rfl rfl) rfl rfl (pc_call Tryz.func177 rfl Tryz_nm177 rfl) (Tryz_spec_l4Wide (by assumption)) (fun hS _ _ r _ => hS.trans r.1.no) (fun v10 w18 r10 => ?_)))))
         obtain ⟨e18, rfl⟩ := r10
         have H19 := H18.to e18
         refine d_val rfl (wg rfl rfl rfl) rfl rfl (fun zw hx => py_neq rfl rfl) (d_end rfl (wn rfl) rfl rfl (py_pickF rfl rfl) (d_nil (W_ifd rfl (fun c9 => ?_) (fun c9 => ?_))))
         ·refine W_sr (sV rfl (py_assign rfl) (s_nil (W_ret (hQ _ _ (fin1 Tryz.results108 rfl ?_)))))
          have kq := kindF_move_no (s := s) (by omega) (by simp_all [moveOK])
          have kF := recF_bad (s := s) (not_false c2) (not_false c3) (by omega)
          exact ⟨H19.ext, congrArg (Value.int .i64) ((if_neg (by omega)).trans (kF.trans kq)).symm⟩
         ·refine W_skip (W_sr (sV rfl (py_field Tryz.underlying66 rfl Tryz.sizeOf2 rfl rfl) (s_sto (wn rfl) Tryz.sizeOf2 rfl rfl rfl H19 2 rfl rfl (fun w19 e19 H20 => ?_))))
          dsimp only [List.nil_append, List.cons_append, List.set_cons_zero, List.set_cons_succ, layL] at H20
          refine s_nil (W_sr (sV rfl (py_field Tryz.underlying66 rfl Tryz.sizeOf2 rfl rfl) (s_sto (wn rfl) Tryz.sizeOf2 rfl rfl rfl H20 2 rfl rfl (fun w20 e20 H21 => ?_))))
          dsimp only [List.nil_append, List.cons_append, List.set_cons_zero, List.set_cons_succ, layL] at H21
          refine s_nil (W_sr (sV rfl (py_field Tryz.underlying66 rfl Tryz.sizeOf61 rfl rfl) (s_sto (wn rfl) Tryz.sizeOf61 rfl rfl rfl H21 2 rfl rfl (fun w21 e21 H22 => ?_))))
          dsimp only [List.nil_append, List.cons_append, List.set_cons_zero, List.set_cons_succ, layL] at H22
          refine s_nil (W_reg (sV rfl (py_field Tryz.underlying66 rfl Tryz.sizeOf61 rfl rfl) (s_sto (wn rfl) Tryz.sizeOf61 rfl rfl rfl H22 2 rfl rfl (fun w22 e22 H23 => ?_))))
          dsimp only [List.nil_append, List.cons_append, List.set_cons_zero, List.set_cons_succ, layL] at H23
          refine s_nil (W_seq (W_sr (sV rfl (py_loadS Tryz.underlying66 rfl Tryz.sizeOf66 rfl rfl (At.whole (H23.box 2 rfl))) (s_call (wn rfl) rfl rfl (pc_call Tryz.func180 rfl Tryz_nm180 rfl) (Tryz_spec_l5Empty (r := ⟨r.Kind, r.Seq, r.Name, r.Length, 0, 0, r.Rows, [], []⟩) (rest_ok2 rK) (H23.sees 0 rfl) ⟨[], .inr (.inl ⟨rfl, rfl, rfl⟩)⟩ ⟨[], .inr (.inl ⟨rfl, rfl, rfl⟩)⟩) (fun v11 w23 r11 => ?_)))))
          obtain ⟨e23, rfl⟩ := r11
          have H24 := H23.to e23
          refine sV rfl (py_not rfl) (s_nil (W_if rfl (fun c10 => ?_) (fun c10 => ?_)))
          ·refine W_sr (sV rfl (py_assign rfl) (s_nil (W_ret (hQ _ _ (fin1 Tryz.results108 rfl ?_)))))
           have kq := kindF_move_ok (s := s) (by omega) (by simp_all [moveOK])
           exact ⟨H24.ext, congrArg (Value.int .i64) ((if_neg (by omega)).trans (recF_form (not_false c2) (not_false c3) kq (by rw [← rest_bare2 (by omega)]; exact not_true c10))).symm⟩
          ·refine W_skip (W_sr (sV rfl (py_assign rfl) (s_nil (W_ret (hQ _ _ (fin1 Tryz.results108 rfl ?_))))))
           have kq := kindF_move_ok (s := s) (by omega) (by simp_all [moveOK])
           exact ⟨H24.ext, congrArg (Value.int .i64) ((if_neg (by omega)).trans (recF_ok (not_false c2) (not_false c3) kq (by rw [← rest_bare2 (by omega)]; exact not_false c10))).symm⟩
     ·refine W_sr (sV rfl (py_eql rfl rfl) (sV rfl (py_assign rfl) (s_nil (W_ifd rfl (fun c11 => ?_) (fun c11 => ?_)))))
      ·refine W_seq (W_seq (W_drw (S := Ext No _) [(0, true), (1, true), (2, true), (3, false), (4, true), (5, false), (6, false)] (by kernel_rfl) (by kernel_rfl) (by kernel_rfl) rfl (fun _ => Ext.refl.drawn _) (fun q2 => ?_)))
       have H25 := H7.drawn q2
       refine dV rfl rfl (fun zw hx => py_field Tryz.underlying66 rfl Tryz.sizeOf2 rfl rfl) (dV rfl rfl (fun zw hx => py_load Tryz.underlying2 rfl rfl (cell_atL (hx.heap (H25.box 1 rfl)) rfl)) (dV rfl rfl (fun zw hx => py_loadS Tryz.underlying33 rfl Tryz.sizeOf33 rfl rfl (At.whole (hx.heap (H25.box 0 rfl)))) (d_call rfl (wn rfl) rfl rfl (pc_call Tryz.func83 rfl Tryz_nm83 rfl) (Tryz_spec_l5All (by assumption)) (fun hS _ _ r _ => hS.trans r.1.no) (fun v12 w24 r12 => ?_))))
       obtain ⟨e24, rfl⟩ := r12
       have H26 := H25.to e24
       refine dV rfl rfl (fun zw hx => py_sub rfl rfl (in64 ⟨by omega, by omega⟩)) (d_call rfl (wn rfl) rfl rfl (pc_call Tryz.func149 rfl Tryz_nm149 rfl) Tryz_spec_l1In (fun hS _ _ r _ => hS.trans r.1.no) (fun v13 w25 r13 => ?_))
       obtain ⟨e25, rfl⟩ := r13
       have H27 := H26.to e25
       refine d_end rfl (wn rfl) rfl rfl (py_not rfl) (d_nil (W_if rfl (fun c12 => ?_) (fun c12 => ?_)))
       ·refine W_sr (sV rfl (py_assign rfl) (s_nil (W_ret (hQ _ _ (fin1 Tryz.results108 rfl ?_)))))
        have kq := kindF_done_no (s := s) (by omega) (not_true c12)
        have kF := recF_bad (s := s) (not_false c2) (not_false c3) (by omega)
        exact ⟨H27.ext, congrArg (Value.int .i64) ((if_neg (by omega)).trans (kF.trans kq)).symm⟩
       ·refine W_skip (W_reg (sV rfl (py_field Tryz.underlying66 rfl Tryz.sizeOf2 rfl rfl) (s_sto (wn rfl) Tryz.sizeOf2 rfl rfl rfl H27 2 rfl rfl (fun w26 e26 H28 => ?_))))
        dsimp only [List.nil_append, List.cons_append, List.set_cons_zero, List.set_cons_succ, layL] at H28
        refine s_nil (W_seq (W_sr (sV rfl (py_loadS Tryz.underlying66 rfl Tryz.sizeOf66 rfl rfl (At.whole (H28.box 2 rfl))) (s_call (wn rfl) rfl rfl (pc_call Tryz.func180 rfl Tryz_nm180 rfl) (Tryz_spec_l5Empty (r := ⟨r.Kind, r.Seq, r.Name, r.Length, 0, r.Row, r.Rows, r.Data, r.Delta⟩) (rest_ok3 rK) (H28.sees 0 rfl) (H28.sees 1 rfl) (H28.sees 2 rfl)) (fun v14 w27 r14 => ?_)))))
        obtain ⟨e27, rfl⟩ := r14
        have H29 := H28.to e27
        refine sV rfl (py_not rfl) (s_nil (W_if rfl (fun c13 => ?_) (fun c13 => ?_)))
        ·refine W_sr (sV rfl (py_assign rfl) (s_nil (W_ret (hQ _ _ (fin1 Tryz.results108 rfl ?_)))))
         have kq := kindF_done_ok (s := s) (by omega) (not_false c12)
         exact ⟨H29.ext, congrArg (Value.int .i64) ((if_neg (by omega)).trans (recF_form (not_false c2) (not_false c3) kq (by rw [← rest_bare3 (by omega)]; exact not_true c13))).symm⟩
        ·refine W_skip (W_sr (sV rfl (py_assign rfl) (s_nil (W_ret (hQ _ _ (fin1 Tryz.results108 rfl ?_))))))
         have kq := kindF_done_ok (s := s) (by omega) (not_false c12)
         exact ⟨H29.ext, congrArg (Value.int .i64) ((if_neg (by omega)).trans (recF_ok (not_false c2) (not_false c3) kq (by rw [← rest_bare3 (by omega)]; exact not_false c13))).symm⟩
      ·refine W_sr (sV rfl (py_eql rfl rfl) (sV rfl (py_assign rfl) (s_nil (W_ifd rfl (fun c14 => ?_) (fun c14 => ?_)))))
       ·refine W_seq (W_seq (W_drw (S := Ext No _) [(0, true), (1, true), (2, true), (3, false), (4, true), (5, false), (6, true), (7, true), (8, true), (9, true), (10, true), (11, true), (12, true), (13, false), (14, true), (15, true), (16, true), (17, true), (18, true), (19, true), (20, false), (21, true), (22, false), (23, true), (24, true), (25, true), (26, true), (27, true), (28, true), (29, true), (30, false), (31, true), (32, true), (33, true), (34, true), (35, true), (36, false), (37, true), (38, false)] (by kernel_rfl) (by kernel_rfl) (by kernel_rfl) rfl (fun _ => Ext.refl.drawn _) (fun q3 => ?_)))
        have H30 := H7.drawn q3
        refine dV rfl rfl (fun zw hx => py_field Tryz.underlying66 rfl Tryz.sizeOf2 rfl rfl) (dV rfl rfl (fun zw hx => py_load Tryz.underlying2 rfl rfl (cell_atL (hx.heap (H30.box 1 rfl)) rfl)) (dV rfl rfl (fun zw hx => py_loadS Tryz.underlying33 rfl Tryz.sizeOf33 rfl rfl (At.whole (hx.heap (H30.box 0 rfl)))) (d_call rfl (wn rfl) rfl rfl (pc_call Tryz.func83 rfl Tryz_nm83 rfl) (Tryz_spec_l5All (by assumption)) (fun hS _ _ r _ => hS.trans r.1.no) (fun v15 w28 r15 => ?_))))
        obtain ⟨e28, rfl⟩ := r15
        have H31 := H30.to e28
        refine dV rfl rfl (fun zw hx => py_sub rfl rfl (in64 ⟨by omega, by omega⟩)) (d_call rfl (wn rfl) rfl rfl (pc_call Tryz.func149 rfl Tryz_nm149 rfl) Tryz_spec_l1In (fun hS _ _ r _ => hS.trans r.1.no) (fun v16 w29 r16 => ?_))
        obtain ⟨e29, rfl⟩ := r16
        have H32 := H31.to e29
        refine dV rfl rfl (fun zw hx => py_not rfl) (dV rfl rfl (fun zw hx => py_move rfl) (d_case (t := 97) rfl (fun hg4 => ?_) (fun hg4 => ?_)))
        ·try simp only [decide_eq_true_eq, decide_eq_false_iff_not] at hg4
         refine d_skip rfl (wog (b := true) rfl rfl rfl) rfl rfl (d_skip rfl (wog (b := true) rfl rfl rfl) rfl rfl (d_skip rfl (wog (b := true) rfl rfl rfl) rfl rfl (d_skip rfl (wog (b := true) rfl rfl rfl) rfl rfl (d_skip rfl (wog (b := true) rfl rfl rfl) rfl rfl (d_skipA rfl (wog (b := true) rfl rfl rfl) rfl rfl (d_skip rfl (wog (b := true) rfl rfl rfl) rfl rfl (dV rfl rfl (fun zw hx => py_pickT rfl rfl) (dV rfl rfl (fun zw hx => py_move rfl) (d_skip rfl (wog (b := true) rfl rfl rfl) rfl rfl (d_skip rfl (wog (b := true) rfl rfl rfl) rfl rfl (d_skip rfl (wog (b := true) rfl rfl rfl) rfl rfl (d_skipA rfl (wog (b := true) rfl rfl rfl) rfl rfl (d_skip rfl (wog (b := true) rfl rfl rfl) rfl rfl (d_skipA rfl (wog (b := true) rfl rfl rfl) rfl rfl (d_skip rfl (wog (b := true) rfl rfl rfl) rfl rfl (dV rfl rfl (fun zw hx => py_pickT rfl rfl) (dV rfl rfl (fun zw hx => py_move rfl) (d_skip rfl (wog (b := true) rfl rfl rfl) rfl rfl (d_skip rfl (wog (b := true) rfl rfl rfl) rfl rfl (d_skip rfl (wog (b := true) rfl rfl rfl) rfl rfl (d_skip rfl (wog (b := true) rfl rfl rfl) rfl rfl (d_skipA rfl (wog (b := true) rfl rfl rfl) rfl rfl (d_skip rfl (wog (b := true) rfl rfl rfl) rfl rfl (dV rfl rfl (fun zw hx => py_pickT rfl rfl) (dV rfl rfl (fun zw hx => py_move rfl) (d_skip rfl (wog (b := true) rfl rfl rfl) rfl rfl (d_skip rfl (wog (b := true) rfl rfl rfl) rfl rfl (d_skipA rfl (wog (b := true) rfl rfl rfl) rfl rfl (d_skip rfl (wog (b := true) rfl rfl rfl) rfl rfl (d_end rfl (wn rfl) rfl rfl (py_pickT rfl rfl) (d_nil (W_ift rfl (W_sr (sV rfl (py_assign rfl) (s_nil (W_ret (hQ _ _ (fin1 Tryz.results108 rfl ?_))))))))))))))))))))))))))))))))))))))
         have kq := (kindF_share (s := s) (by omega)).trans (if_neg (by simp_all [shareOK]))
         have kF := recF_bad (s := s) (not_false c2) (not_false c3) (by omega)
         exact ⟨H32.ext, congrArg (Value.int .i64) ((if_neg (by omega)).trans (kF.trans kq)).symm⟩
        ·try simp only [decide_eq_true_eq, decide_eq_false_iff_not] at hg4
         refine d_val rfl (wg rfl rfl rfl) rfl rfl (fun zw hx => py_field Tryz.underlying66 rfl Tryz.sizeOf2 rfl rfl) (d_val rfl (wg rfl rfl rfl) rfl rfl (fun zw hx => py_load Tryz.underlying2 rfl rfl (cell_atL (hx.heap (H30.box 1 rfl)) rfl)) (d_val rfl (wg rfl rfl rfl) rfl rfl (fun zw hx => py_field Tryz.underlying33 rfl Tryz.sizeOf2 rfl rfl) (d_val rfl (wg rfl rfl rfl) rfl rfl (fun zw hx => py_load Tryz.underlying2 rfl rfl (cell_atL (hx.heap (H30.box 0 rfl)) rfl)) (d_val rfl (wg rfl rfl rfl) rfl rfl (fun zw hx => py_sub rfl rfl (in64 ⟨by omega, by omega⟩)) (d_call rfl (wg rfl rfl rfl) rfl rfl (pc_call Tryz.func149 rfl Tryz_nm149 rfl) Tryz_spec_l1In (fun hS _ _ r _ => hS.trans r.1.no) (fun v17 w30 r17 => ?_))))))
         obtain ⟨e30, rfl⟩ := r17
         have H33 := H32.to e30
         refine d_val rfl (wg rfl rfl rfl) rfl rfl (fun zw hx => py_not rfl) (dV rfl rfl (fun zw hx => py_pickF rfl rfl) (dV rfl rfl (fun zw hx => py_move rfl) (d_case (t := 106) rfl (fun hg5 => ?_) (fun hg5 => ?_))))
         ·try simp only [decide_eq_true_eq, decide_eq_false_iff_not] at hg5
          refine d_skip rfl (wog (b := true) rfl rfl rfl) rfl rfl (d_skip rfl (wog (b := true) rfl rfl rfl) rfl rfl (d_skip rfl (wog (b := true) rfl rfl rfl) rfl rfl (d_skipA rfl (wog (b := true) rfl rfl rfl) rfl rfl (d_skip rfl (wog (b := true) rfl rfl rfl) rfl rfl (d_skipA rfl (wog (b := true) rfl rfl rfl) rfl rfl (d_skip rfl (wog (b := true) rfl rfl rfl) rfl rfl (dV rfl rfl (fun zw hx => py_pickT rfl rfl) (dV rfl rfl (fun zw hx => py_move rfl) (d_skip rfl (wog (b := true) rfl rfl rfl) rfl rfl (d_skip rfl (wog (b := true) rfl rfl rfl) rfl rfl (d_skip rfl (wog (b := true) rfl rfl rfl) rfl rfl (d_skip rfl (wog (b := true) rfl rfl rfl) rfl rfl (d_skipA rfl (wog (b := true) rfl rfl rfl) rfl rfl (d_skip rfl (wog (b := true) rfl rfl rfl) rfl rfl (dV rfl rfl (fun zw hx => py_pickT rfl rfl) (dV rfl rfl (fun zw hx => py_move rfl) (d_skip rfl (wog (b := true) rfl rfl rfl) rfl rfl (d_skip rfl (wog (b := true) rfl rfl rfl) rfl rfl (d_skipA rfl (wog (b := true) rfl rfl rfl) rfl rfl (d_skip rfl (wog (b := true) rfl rfl rfl) rfl rfl (d_end rfl (wn rfl) rfl rfl (py_pickT rfl rfl) (d_nil (W_ift rfl (W_sr (sV rfl (py_assign rfl) (s_nil (W_ret (hQ _ _ (fin1 Tryz.results108 rfl ?_)))))))))))))))))))))))))))))
          have kq := (kindF_share (s := s) (by omega)).trans (if_neg (by simp_all [shareOK]))
          have kF := recF_bad (s := s) (not_false c2) (not_false c3) (by omega)
          exact ⟨H33.ext, congrArg (Value.int .i64) ((if_neg (by omega)).trans (kF.trans kq)).symm⟩
         ·try simp only [decide_eq_true_eq, decide_eq_false_iff_not] at hg5
          refine d_val rfl (wg rfl rfl rfl) rfl rfl (fun zw hx => py_field Tryz.underlying66 rfl Tryz.sizeOf25 rfl rfl) (d_val rfl (wg rfl rfl rfl) rfl rfl (fun zw hx => py_load Tryz.underlying25 rfl rfl (cell_atL (hx.heap (H30.box 1 rfl)) rfl)) (d_val rfl (wg rfl rfl rfl) rfl rfl (fun zw hx => py_loadS Tryz.underlying33 rfl Tryz.sizeOf33 rfl rfl (At.whole (hx.heap (H30.box 0 rfl)))) (d_call rfl (wg rfl rfl rfl) rfl rfl (pc_call Tryz.func83 rfl Tryz_nm83 rfl) (Tryz_spec_l5All (by assumption)) (fun hS _ _ r _ => hS.trans r.1.no) (fun v18 w31 r18 => ?_))))
          obtain ⟨e31, rfl⟩ := r18
          have H34 := H33.to e31
          refine d_val rfl (wg rfl rfl rfl) rfl rfl (fun zw hx => py_sub rfl rfl (in64 ⟨by omega, by omega⟩)) (d_call rfl (wg rfl rfl rfl) rfl rfl (pc_call Tryz.func178 rfl Tryz_nm178 rfl) (Tryz_spec_l2Rise (H34.sees 0 rfl) (by omega)) (fun hS _ _ r _ => hS.trans r.1.no) (fun v19 w32 r19 => ?_))
          obtain ⟨e32, rfl⟩ := r19
          have H35 := H34.to e32
          refine d_val rfl (wg rfl rfl rfl) rfl rfl (fun zw hx => py_not rfl) (dV rfl rfl (fun zw hx => py_pickF rfl rfl) (dV rfl rfl (fun zw hx => py_move rfl) (d_case (t := 115) rfl (fun hg6 => ?_) (fun hg6 => ?_))))
          ·try simp only [decide_eq_true_eq, decide_eq_false_iff_not] at hg6
           refine d_skip rfl (wog (b := true) rfl rfl rfl) rfl rfl (d_skip rfl (wog (b := true) rfl rfl rfl) rfl rfl (d_skip rfl (wog (b := true) rfl rfl rfl) rfl rfl (d_skip rfl (wog (b := true) rfl rfl rfl) rfl rfl (d_skipA rfl (wog (b := true) rfl rfl rfl) rfl rfl (d_skip rfl (wog (b := true) rfl rfl rfl) rfl rfl (dV rfl rfl (fun zw hx => py_pickT rfl rfl) (dV rfl rfl (fun zw hx => py_move rfl) (d_skip rfl (wog (b := true) rfl rfl rfl) rfl rfl (d_skip rfl (wog (b := true) rfl rfl rfl) rfl rfl (d_skipA rfl (wog (b := true) rfl rfl rfl) rfl rfl (d_skip rfl (wog (b := true) rfl rfl rfl) rfl rfl (d_end rfl (wn rfl) rfl rfl (py_pickT rfl rfl) (d_nil (W_ift rfl (W_sr (sV rfl (py_assign rfl) (s_nil (W_ret (hQ _ _ (fin1 Tryz.results108 rfl ?_))))))))))))))))))))
           have kq := (kindF_share (s := s) (by omega)).trans (if_neg (by simp_all [shareOK]))
           have kF := recF_bad (s := s) (not_false c2) (not_false c3) (by omega)
           exact ⟨H35.ext, congrArg (Value.int .i64) ((if_neg (by omega)).trans (kF.trans kq)).symm⟩
          ·try simp only [decide_eq_true_eq, decide_eq_false_iff_not] at hg6
           refine d_val rfl (wg rfl rfl rfl) rfl rfl (fun zw hx => py_field Tryz.underlying66 rfl Tryz.sizeOf61 rfl rfl) (d_val rfl (wg rfl rfl rfl) rfl rfl (fun zw hx => py_load Tryz.underlying61 rfl rfl (cell_atL (hx.heap (H30.box 1 rfl)) rfl)) (d_val rfl (wg rfl rfl rfl) rfl rfl (fun zw hx => py_len Tryz.underlying61 rfl) (d_val rfl (wg rfl rfl rfl) rfl rfl (fun zw hx => py_loadS Tryz.underlying33 rfl Tryz.sizeOf33 rfl rfl (At.whole (hx.heap (H30.box 0 rfl)))) (d_call rfl (wg rfl rfl rfl) rfl rfl (pc_call Tryz.func177 rfl Tryz_nm177 rfl) (Tryz_spec_l4Wide (by assumption)) (fun hS _ _ r _ => hS.trans r.1.no) (fun v20 w33 r20 => ?_)))))
           obtain ⟨e33, rfl⟩ := r20
           have H36 := H35.to e33
           refine d_val rfl (wg rfl rfl rfl) rfl rfl (fun zw hx => py_neq rfl rfl) (dV rfl rfl (fun zw hx => py_pickF rfl rfl) (dV rfl rfl (fun zw hx => py_move rfl) (d_case (t := 123) rfl (fun hg7 => ?_) (fun hg7 => ?_))))
           ·try simp only [decide_eq_true_eq, decide_eq_false_iff_not] at hg7
            refine d_skip rfl (wog (b := true) rfl rfl rfl) rfl rfl (d_skip rfl (wog (b := true) rfl rfl rfl) rfl rfl (d_skipA rfl (wog (b := true) rfl rfl rfl) rfl rfl (d_skip rfl (wog (b := true) rfl rfl rfl) rfl rfl (d_end rfl (wn rfl) rfl rfl (py_pickT rfl rfl) (d_nil (W_ift rfl (W_sr (sV rfl (py_assign rfl) (s_nil (W_ret (hQ _ _ (fin1 Tryz.results108 rfl ?_))))))))))))
            have kq := (kindF_share (s := s) (by omega)).trans (if_neg (by simp_all [shareOK]))
            have kF := recF_bad (s := s) (not_false c2) (not_false c3) (by omega)
            exact ⟨H36.ext, congrArg (Value.int .i64) ((if_neg (by omega)).trans (kF.trans kq)).symm⟩
           ·have hgr := ins_iff.1 (not_false hg4)
            have hrr : ∀ i, i < r.Rows.length → 0 ≤ r.Rows.getD i 0 ∧ r.Rows.getD i 0 < s.Groups + s.Column := fun i hi => by have := rises_get (not_false hg6) i hi; omega
            refine d_val rfl (wg rfl rfl rfl) rfl rfl (fun zw hx => py_loadS Tryz.underlying33 rfl Tryz.sizeOf33 rfl rfl (At.whole (hx.heap (H30.box 0 rfl)))) (d_val rfl (wg rfl rfl rfl) rfl rfl (fun zw hx => py_loadS Tryz.underlying66 rfl Tryz.sizeOf66 rfl rfl (At.whole (hx.heap (H30.box 1 rfl)))) (d_call rfl (wg rfl rfl rfl) rfl rfl (pc_call Tryz.func179 rfl Tryz_nm179 rfl) (Tryz_spec_l5Weights (by assumption) (H36.sees 0 rfl) (H36.sees 1 rfl) (H36.sees 2 rfl) (by assumption) (by omega) hrr) (fun hS _ _ r _ => hS.trans r.1.no) (fun v21 w34 r21 => ?_)))
            obtain ⟨e34, rfl⟩ := r21
            have H37 := H36.to e34
            refine d_val rfl (wg rfl rfl rfl) rfl rfl (fun zw hx => py_not rfl) (d_end rfl (wn rfl) rfl rfl (py_pickF rfl rfl) (d_nil (W_if rfl (fun c15 => ?_) (fun c15 => ?_))))
            ·refine W_sr (sV rfl (py_assign rfl) (s_nil (W_ret (hQ _ _ (fin1 Tryz.results108 rfl ?_)))))
             have kq := (kindF_share (s := s) (by omega)).trans (if_neg (by simp_all [shareOK]))
             have kF := recF_bad (s := s) (not_false c2) (not_false c3) (by omega)
             exact ⟨H37.ext, congrArg (Value.int .i64) ((if_neg (by omega)).trans (kF.trans kq)).symm⟩
            ·refine W_skip (W_sr (sV rfl (py_field Tryz.underlying66 rfl Tryz.sizeOf61 rfl rfl) (s_sto (wn rfl) Tryz.sizeOf61 rfl rfl rfl H37 2 rfl rfl (fun w35 e35 H38 => ?_))))
             dsimp only [List.nil_append, List.cons_append, List.set_cons_zero, List.set_cons_succ, layL] at H38
             refine s_nil (W_sr (sV rfl (py_field Tryz.underlying66 rfl Tryz.sizeOf2 rfl rfl) (s_sto (wn rfl) Tryz.sizeOf2 rfl rfl rfl H38 2 rfl rfl (fun w36 e36 H39 => ?_))))
             dsimp only [List.nil_append, List.cons_append, List.set_cons_zero, List.set_cons_succ, layL] at H39
             refine s_nil (W_sr (sV rfl (py_field Tryz.underlying66 rfl Tryz.sizeOf2 rfl rfl) (s_sto (wn rfl) Tryz.sizeOf2 rfl rfl rfl H39 2 rfl rfl (fun w37 e37 H40 => ?_))))
             dsimp only [List.nil_append, List.cons_append, List.set_cons_zero, List.set_cons_succ, layL] at H40
             refine s_nil (W_sr (sV rfl (py_field Tryz.underlying66 rfl Tryz.sizeOf25 rfl rfl) (s_sto (wn rfl) Tryz.sizeOf25 rfl rfl rfl H40 2 rfl rfl (fun w38 e38 H41 => ?_))))
             dsimp only [List.nil_append, List.cons_append, List.set_cons_zero, List.set_cons_succ, layL] at H41
             refine s_nil (W_reg (sV rfl (py_field Tryz.underlying66 rfl Tryz.sizeOf61 rfl rfl) (s_sto (wn rfl) Tryz.sizeOf61 rfl rfl rfl H41 2 rfl rfl (fun w39 e39 H42 => ?_))))
             dsimp only [List.nil_append, List.cons_append, List.set_cons_zero, List.set_cons_succ, layL] at H42
             refine s_nil (W_seq (W_sr (sV rfl (py_loadS Tryz.underlying66 rfl Tryz.sizeOf66 rfl rfl (At.whole (H42.box 2 rfl))) (s_call (wn rfl) rfl rfl (pc_call Tryz.func180 rfl Tryz_nm180 rfl) (Tryz_spec_l5Empty (r := ⟨r.Kind, r.Seq, r.Name, r.Length, 0, 0, [], [], []⟩) (rest_ok4 rK) ⟨[], .inr (.inl ⟨rfl, rfl, rfl⟩)⟩ ⟨[], .inr (.inl ⟨rfl, rfl, rfl⟩)⟩ ⟨[], .inr (.inl ⟨rfl, rfl, rfl⟩)⟩) (fun v22 w40 r22 => ?_)))))
             obtain ⟨e40, rfl⟩ := r22
             have H43 := H42.to e40
             refine sV rfl (py_not rfl) (s_nil (W_if rfl (fun c16 => ?_) (fun c16 => ?_)))
             ·refine W_sr (sV rfl (py_assign rfl) (s_nil (W_ret (hQ _ _ (fin1 Tryz.results108 rfl ?_)))))
              have kq := (kindF_share (s := s) (by omega)).trans (if_pos (by simp_all [shareOK]))
              exact ⟨H43.ext, congrArg (Value.int .i64) ((if_neg (by omega)).trans (recF_form (not_false c2) (not_false c3) kq (by rw [← rest_bare4 (by omega)]; exact not_true c16))).symm⟩
             ·refine W_skip (W_sr (sV rfl (py_assign rfl) (s_nil (W_ret (hQ _ _ (fin1 Tryz.results108 rfl ?_))))))
              have kq := (kindF_share (s := s) (by omega)).trans (if_pos (by simp_all [shareOK]))
              exact ⟨H43.ext, congrArg (Value.int .i64) ((if_neg (by omega)).trans (recF_ok (not_false c2) (not_false c3) kq (by rw [← rest_bare4 (by omega)]; exact not_false c16))).symm⟩
       ·exfalso; omega
theorem Tryz_impl_blockOK {w : World} {b : Block} {bA1 : Option Addr} {bC1 : Nat} (bK : b.Ok) (bS1 : Sees w [.slice bA1 b.Bytes.length bC1] b.Bytes) : Ret Tryz.prog 219 #[b.val bA1 bC1] w fun v w' => Ext No w w' ∧ (v = .bool (blockOK b)) := by
 have bK2 := bK
 unfold Block.Ok at bK2
 try unfold I64ok at bK2
 try unfold maxLen at bK2
 have bL1 := sees_len bS1
 unfold maxLen at bL1
 obtain ⟨bF1, bO1⟩ := bS1
 refine ret_Q (vs := [b.val bA1 bC1]) Tryz.func219 rfl Tryz.ntmps219 rfl (fun Q hQ hN => ?_)
 have H0 := Sep.start (w := w) (F := [seen false [.slice bA1 b.Bytes.length bC1] b.Bytes bF1]) (all_cons bO1 (by simp))
 refine W_sr (s_box (wn rfl) rfl rfl H0 (fun b1 w1 e1 g1 H1 => ?_))
 refine sV rfl (py_assign rfl) (s_nil (W_sr (sV rfl (py_field Tryz.underlying152 rfl Tryz.sizeOf2 rfl rfl) (sV rfl (py_load Tryz.underlying2 rfl rfl (cell_atL (H1.box 0 rfl) rfl)) (s_call (wn rfl) rfl rfl (pc_call Tryz.func154 rfl Tryz_nm154 rfl) Tryz_impl_inside (fun v1 w2 r1 => ?_))))))
 obtain ⟨e2, rfl⟩ := r1
 have H2 := H1.to e2
 refine sV rfl (py_move rfl) (s_grp 4 (j := 3) (want := true) (t := 10) rfl rfl rfl rfl (fun hg1 kk1 => s_val (wgE rfl rfl rfl hg1) rfl rfl (py_field Tryz.underlying152 rfl Tryz.sizeOf61 rfl rfl) (s_val (wgE rfl rfl rfl hg1) rfl rfl (py_load Tryz.underlying61 rfl rfl (cell_atL (H2.box 0 rfl) rfl)) (s_val (wgE rfl rfl rfl hg1) rfl rfl (py_len Tryz.underlying61 rfl) (s_val (wgE rfl rfl rfl hg1) rfl rfl (py_eql rfl rfl) (kk1 _ _ (kx rfl (kx rfl (kx rfl (kx rfl k0)))) rfl Ext.refl))))) (fun w3 e3 => ?_))
 have H3 := H2.to e3
 refine sV rfl (py_band rfl rfl) (sV rfl (py_assign rfl) (s_nil (W_ret (hQ _ _ (fin1 Tryz.results219 rfl ?_)))))
 exact ⟨H3.ext, congrArg Value.bool (by simp only [blockOK]; congr 1; exact decide_eq_decide.2 (by omega))⟩
theorem Tryz_impl_groupsOK_1 {w : World} {b : Block} {bA1 : Option Addr} {bC1 : Nat} (bK : b.Ok) (bS1 : Sees w [.slice bA1 b.Bytes.length bC1] b.Bytes) : Ret Tryz.prog 218 #[b.val bA1 bC1] w fun v w' => Ext No w w' ∧ (v = .bool (!blockOK b)) := by
 have bK2 := bK
 unfold Block.Ok at bK2
 try unfold I64ok at bK2
 try unfold maxLen at bK2
 have bL1 := sees_len bS1
 unfold maxLen at bL1
 obtain ⟨bF1, bO1⟩ := bS1
 refine ret_Q (vs := [b.val bA1 bC1]) Tryz.func218 rfl Tryz.ntmps218 rfl (fun Q hQ hN => ?_)
 have H0 := Sep.start (w := w) (F := [seen false [.slice bA1 b.Bytes.length bC1] b.Bytes bF1]) (all_cons bO1 (by simp))
 refine W_sr (s_box (wn rfl) rfl rfl H0 (fun b1 w1 e1 g1 H1 => ?_))
 refine sV rfl (py_assign rfl) (s_nil (W_sr (sV rfl (py_loadS Tryz.underlying152 rfl Tryz.sizeOf152 rfl rfl (At.whole (H1.box 0 rfl))) (s_call (wn rfl) rfl rfl (pc_call Tryz.func219 rfl Tryz_nm219 rfl) (Tryz_impl_blockOK (by assumption) (H1.sees 0 rfl)) (fun v1 w2 r1 => ?_)))))
 obtain ⟨e2, rfl⟩ := r1
 have H2 := H1.to e2
 refine sV rfl (py_not rfl) (sV rfl (py_assign rfl) (s_nil (W_ret (hQ _ _ (fin1 Tryz.results218 rfl ?_)))))
 exact ⟨H2.ext, rfl⟩
set_option maxHeartbeats 1000000 in
theorem Tryz_impl_groupsOK {w : World} {z : Wld} {zA9 : Option Addr} {zC9 : Nat} {zA10 : Option Addr} {zC10 : Nat} {zA11 : Option Addr} {zC11 : Nat} (zK : z.Ok) (zS9 : Sees w [.slice zA9 z.Groups.length zC9] z.Groups) (zS10 : Sees w [.slice zA10 z.On.length zC10] z.On) (zS11 : Sees w [.slice zA11 z.Tapes.length zC11] z.Tapes) (hs : z.Shape.ok = true) : Ret Tryz.prog 151 #[z.val zA9 zC9 zA10 zC10 zA11 zC11] w fun v w' => Ext No w w' ∧ (v = .bool (groupsOK z)) := by
 have zK2 := zK
 unfold Wld.Ok Shape.Ok at zK2
 try unfold I64ok at zK2
 try unfold maxLen at zK2
 have zL9 := sees_len zS9
 unfold maxLen at zL9
 obtain ⟨zF9, zO9⟩ := zS9
 have zL10 := sees_len zS10
 unfold maxLen at zL10
 obtain ⟨zF10, zO10⟩ := zS10
 have zL11 := sees_len zS11
 unfold maxLen at zL11
 obtain ⟨zF11, zO11⟩ := zS11
 have sbd := shape_bd hs
 refine ret_Q (vs := [z.val zA9 zC9 zA10 zC10 zA11 zC11]) Tryz.func151 rfl Tryz.ntmps151 rfl (fun Q hQ hN => ?_)
 have H0 := Sep.start (w := w) (F := [seen false [.slice zA9 z.Groups.length zC9] z.Groups zF9, seen false [.slice zA10 z.On.length zC10] z.On zF10, seen false [.slice zA11 z.Tapes.length zC11] z.Tapes zF11]) (all_cons zO9 (all_cons zO10 (all_cons zO11 (by simp))))
 refine W_sr (s_box (wn rfl) rfl rfl H0 (fun b1 w1 e1 g1 H1 => ?_))
 refine sV rfl (py_assign rfl) (s_nil (W_sr (sV rfl (py_field Tryz.underlying37 rfl Tryz.sizeOf33 rfl rfl) (sV rfl (py_loadS Tryz.underlying33 rfl Tryz.sizeOf33 rfl rfl (At.sub (H1.box 0 rfl) 9)) (s_var (wn rfl) rfl Tryz.zeroValue33 H1 (fun b2 w2 e2 g2 H2 => ?_))))))
 refine s_stoS (wn rfl) Tryz.sizeOf33 rfl rfl rfl rfl H2 1 rfl rfl (fun w3 e3 H3 => ?_)
 dsimp only [List.nil_append, List.cons_append, List.set_cons_zero, List.set_cons_succ, layL] at H3
 refine s_nil (W_seq (W_seq (W_drw (S := Ext No _) [(0, true), (1, true), (3, true), (2, false), (4, false), (5, false)] (by kernel_rfl) (by kernel_rfl) (by kernel_rfl) rfl (fun _ => Ext.refl.drawn _) (fun q1 => ?_))))
 have H4 := H3.drawn q1
 refine dV rfl rfl (fun zw hx => py_field Tryz.underlying37 rfl Tryz.sizeOf34 rfl rfl) (dV rfl rfl (fun zw hx => py_load Tryz.underlying34 rfl rfl (cell_atL (hx.heap (H4.box 0 rfl)) rfl)) (dV rfl rfl (fun zw hx => py_loadS Tryz.underlying33 rfl Tryz.sizeOf33 rfl rfl (At.whole (hx.heap (H4.box 1 rfl)))) (d_call rfl (wn rfl) rfl rfl (pc_call Tryz.func213 rfl Tryz_nm213 rfl) (Tryz_size_ListDrive (H4.sees 0 rfl)) (fun hS _ _ r _ => hS.trans r.1.no) (fun v1 w4 r1 => ?_))))
 obtain ⟨e4, rfl⟩ := r1
 have H5 := H4.to e4
 refine d_call rfl (wn rfl) rfl rfl (pc_call Tryz.func86 rfl Tryz_nm86 rfl) (Tryz_impl_Shape_all (by assumption)) (fun hS _ _ r _ => hS.trans r.1.no) (fun v2 w5 r2 => ?_)
 obtain ⟨e5, rfl⟩ := r2
 have H6 := H5.to e5
 refine d_end rfl (wn rfl) rfl rfl (py_neq rfl rfl) (d_nil (W_ifd rfl (fun c1 => ?_) (fun c1 => ?_)))
 ·refine W_sr (sV rfl (py_assign rfl) (s_nil (W_ret (hQ _ _ (fin1 Tryz.results151 rfl ?_)))))
  exact ⟨H6.ext, congrArg Value.bool (groupsOK_len (by omega)).symm⟩
 ·refine W_skip (W_seq (W_sr (sV rfl (py_field Tryz.underlying37 rfl Tryz.sizeOf34 rfl rfl) (sV rfl (py_load Tryz.underlying34 rfl rfl (cell_atL (H6.box 0 rfl) rfl)) (sV rfl (py_len Tryz.underlying34 rfl) (sV rfl (py_move rfl) (s_nil (W_block (W_loopS (γ := Nat) H6 [(3, _), (17, _), (18, _)] ⟨rfl, rfl, rfl, trivial⟩ (fun k => [(19, .int .i64 k)]) (fun k => k ≤ z.Groups.length ∧ (∀ i, i < k → groupOK z.Shape (z.Groups.getD i []) = true)) (fun k => z.Groups.length - k) 0 ⟨rfl, trivial⟩ ⟨by omega, fun i hi => by omega⟩ (fun k w6 H7 ⟨hk, he⟩ => ?_))))))))))
  dsimp only [List.cons_append, List.nil_append]
  refine W_sr (sV rfl (py_lss rfl rfl) (s_nil (W_seq (W_ifd rfl (fun c2 => ?_) (fun c2 => ?_)))))
  ·refine W_skip (W_seq (W_block (W_seq ?_)))
   obtain ⟨eb1, eo1, ea1, ek1, ef1, ee1, ec1, eO1, eH1⟩ := elem_sl (H7.seen 0 rfl) k (by omega)
   have eP1 := H7.look1 0 rfl eO1 eH1
   refine W_reg (sV rfl (py_elz Tryz.underlying34 Tryz.sizeOf147 rfl rfl ee1 k (by omega) (by omega)) (sV rfl (py_load Tryz.underlying147 rfl rfl ec1) (sV rfl (py_assign rfl) (s_nil (W_seq (W_seq (W_drw (S := Ext No _) [(0, true), (2, true), (1, false), (3, false), (4, false)] (by kernel_rfl) (by kernel_rfl) (by kernel_rfl) rfl (fun _ => Ext.refl.drawn _) (fun q2 => ?_))))))))
   have H8 := eP1.drawn q2
   refine dV rfl rfl (fun zw hx => py_move rfl) (dV rfl rfl (fun zw hx => py_loadS Tryz.underlying33 rfl Tryz.sizeOf33 rfl rfl (At.whole (hx.heap (H8.box 1 rfl)))) (d_call rfl (wn rfl) rfl rfl (pc_call Tryz.func214 rfl Tryz_nm214 rfl) (Tryz_size_Drive (H8.sees 3 rfl)) (fun hS _ _ r _ => hS.trans r.1.no) (fun v3 w7 r3 => ?_)))
   obtain ⟨e6, rfl⟩ := r3
   have H9 := H8.to e6
   refine d_call rfl (wn rfl) rfl rfl (pc_call Tryz.func215 rfl Tryz_nm215 rfl) (Tryz_impl_Shape_drives (by assumption)) (fun hS _ _ r _ => hS.trans r.1.no) (fun v4 w8 r4 => ?_)
   obtain ⟨e7, rfl⟩ := r4
   have H10 := H9.to e7
   refine d_end rfl (wn rfl) rfl rfl (py_neq rfl rfl) (d_nil (W_ifd rfl (fun c3 => ?_) (fun c3 => ?_)))
   ·refine W_sr (sV rfl (py_assign rfl) (s_nil (W_ret (hQ _ _ (fin1 Tryz.results151 rfl ?_)))))
    exact ⟨H10.ext, congrArg Value.bool (groupsOK_at k (by omega) (groupOK_len (by omega))).symm⟩
   ·refine W_skip (W_sr (sV rfl (py_move rfl) (sV rfl (py_len Tryz.underlying147 rfl) (sV rfl (py_move rfl) (s_nil (W_block (W_loopS (γ := Nat) H10 [(3, _), (17, _), (18, _), (19, _), (28, _), (29, _)] ⟨rfl, rfl, rfl, rfl, rfl, rfl, trivial⟩ (fun k2 => [(30, .int .i64 k2)]) (fun k2 => k2 ≤ (z.Groups.getD k []).length ∧ (∀ i, i < k2 → driveOK z.Shape ((z.Groups.getD k []).getD i default) = true)) (fun k2 => (z.Groups.getD k []).length - k2) 0 ⟨rfl, trivial⟩ ⟨by omega, fun i hi => by omega⟩ (fun k2 w9 H11 ⟨hk2, hek2⟩ => ?_))))))))
    dsimp only [List.cons_append, List.nil_append]
    refine W_sr (sV rfl (py_lss rfl rfl) (s_nil (W_seq (W_ifd rfl (fun c4 => ?_) (fun c4 => ?_)))))
    ·refine W_skip (W_seq (W_block (W_seq ?_)))
     obtain ⟨eb2, eo2, es1, ef2, ee2, ec2, eO2, eH2, em1⟩ := elem_st (H11.seen 3 rfl) k2 (by omega)
     obtain ⟨ea2, ek2, eg1, rfl, eq1, eK1, eo3⟩ := own_Drive eO2
     have eP2 := H11.look1 3 rfl eo3 (fun b hb => eH2 b (by rw [eq1]; simp [hb]))
     have eL1 := own_len_le eo3
     unfold maxLen at eL1
     refine W_reg (sV rfl (py_elz Tryz.underlying147 Tryz.sizeOf150 rfl rfl ee2 k2 (by omega) (by omega)) (sV rfl (py_loadS Tryz.underlying150 rfl Tryz.sizeOf150 rfl rfl ec2) (s_var (wn rfl) rfl Tryz.zeroValue150 eP2 (fun b3 w10 e8 g3 H12 => ?_))))
     refine s_stoS (wn rfl) Tryz.sizeOf150 rfl rfl rfl rfl H12 2 rfl rfl (fun w11 e9 H13 => ?_)
     dsimp only [List.nil_append, List.cons_append, List.set_cons_zero, List.set_cons_succ, layL] at H13
     refine s_nil (W_seq (W_drw (S := Ext No _) [(0, true), (1, true), (3, true), (4, true), (2, false), (5, true), (6, true), (7, true), (8, true), (9, false), (10, false)] (by kernel_rfl) (by kernel_rfl) (by kernel_rfl) rfl (fun _ => Ext.refl.drawn _) (fun q3 => ?_)))
     have H14 := H13.drawn q3
     refine dV rfl rfl (fun zw hx => py_field Tryz.underlying150 rfl Tryz.sizeOf148 rfl rfl) (dV rfl rfl (fun zw hx => py_load Tryz.underlying148 rfl rfl (cell_atL (hx.heap (H14.box 2 rfl)) rfl)) (dV rfl rfl (fun zw hx => py_field Tryz.underlying33 rfl Tryz.sizeOf2 rfl rfl) (dV rfl rfl (fun zw hx => py_load Tryz.underlying2 rfl rfl (cell_atL (hx.heap (H14.box 1 rfl)) rfl)) (d_call rfl (wn rfl) rfl rfl (pc_call Tryz.func216 rfl Tryz_nm216 rfl) (Tryz_size_Block (H14.sees 4 rfl)) (fun hS _ _ r _ => hS.trans r.1.no) (fun v5 w12 r5 => ?_)))))
     obtain ⟨e10, rfl⟩ := r5
     have H15 := H14.to e10
     refine dV rfl rfl (fun zw hx => py_neq rfl rfl) (dV rfl rfl (fun zw hx => py_move rfl) (d_case (t := 40) rfl (fun hg1 => ?_) (fun hg1 => ?_)))
     ·try simp only [decide_eq_true_eq, decide_eq_false_iff_not] at hg1
      refine d_skip rfl (wog (b := true) rfl rfl rfl) rfl rfl (d_skip rfl (wog (b := true) rfl rfl rfl) rfl rfl (d_skipA rfl (wog (b := true) rfl rfl rfl) rfl rfl (d_end rfl (wn rfl) rfl rfl (py_pickT rfl rfl) (d_nil (W_ift rfl (W_sr (sV rfl (py_assign rfl) (s_nil (W_ret (hQ _ _ (fin1 Tryz.results151 rfl ?_)))))))))))
      exact ⟨H15.ext, congrArg Value.bool (groupsOK_at k (by omega) (groupOK_at k2 (by omega) (driveOK_len (by omega)))).symm⟩
     ·try simp only [decide_eq_true_eq, decide_eq_false_iff_not] at hg1
      refine d_val rfl (wg rfl rfl rfl) rfl rfl (fun zw hx => py_field Tryz.underlying150 rfl Tryz.sizeOf148 rfl rfl) (d_val rfl (wg rfl rfl rfl) rfl rfl (fun zw hx => py_load Tryz.underlying148 rfl rfl (cell_atL (hx.heap (H14.box 2 rfl)) rfl)) (d_call rfl (wg rfl rfl rfl) rfl rfl (pc_call Tryz.func217 rfl Tryz_nm217 rfl) (Tryz_ContainsFunc_Block (H15.sees 4 rfl) (p := (fun b => !blockOK b)) Tryz.func218 rfl Tryz_nm218 (fun w1 e1 i0 hi0 _ _ K0 o0_1 => Tryz_impl_groupsOK_1 K0 o0_1)) (fun hS _ _ r _ => hS.trans r.1.no) (fun v6 w13 r6 => ?_)))
      obtain ⟨e11, rfl⟩ := r6
      have H16 := H15.to e11
      refine d_end rfl (wn rfl) rfl rfl (py_pickF rfl rfl) (d_nil (W_if rfl (fun c5 => ?_) (fun c5 => ?_)))
      ·refine W_sr (sV rfl (py_assign rfl) (s_nil (W_ret (hQ _ _ (fin1 Tryz.results151 rfl ?_)))))
       exact ⟨H16.ext, congrArg Value.bool (groupsOK_at k (by omega) (groupOK_at k2 (by omega) (driveOK_bad c5))).symm⟩
      ·refine W_skip (W_reg (sV rfl (py_add rfl rfl (in64 ⟨by omega, by omega⟩)) (sV rfl (py_move rfl) (s_nil (⟨k2 + 1, ⟨rfl, rfl, rfl, rfl, rfl, rfl, rfl, trivial⟩, ⟨((H16.ftake 4).dtake 2), by omega, fun i hi => ?_⟩, by dsimp only; omega⟩)))))
       by_cases e : i = k2
       ·subst e
        exact driveOK_yes (by omega) c5
       ·exact hek2 i (by omega)
    ·refine W_exit (W_reg (sV rfl (py_add rfl rfl (in64 ⟨by omega, by omega⟩)) (sV rfl (py_move rfl) (s_nil (⟨k + 1, ⟨rfl, rfl, rfl, rfl, trivial⟩, ⟨(H11.ftake 3), by omega, fun i hi => ?_⟩, by dsimp only; omega⟩)))))
     by_cases e : i = k
     ·subst e
      exact groupOK_yes (by omega) (fun i hi => hek2 i (by omega))
     ·exact he i (by omega)
  ·refine W_exit (W_sr (sV rfl (py_assign rfl) (s_nil (W_ret (hQ _ _ (fin1 Tryz.results151 rfl ?_))))))
   exact ⟨H7.ext, congrArg Value.bool (groupsOK_yes (by omega) (fun i hi => he i (by omega))).symm⟩
theorem Tryz_impl_onOK {w : World} {z : Wld} {zA9 : Option Addr} {zC9 : Nat} {zA10 : Option Addr} {zC10 : Nat} {zA11 : Option Addr} {zC11 : Nat} (zK : z.Ok) (zS9 : Sees w [.slice zA9 z.Groups.length zC9] z.Groups) (zS10 : Sees w [.slice zA10 z.On.length zC10] z.On) (zS11 : Sees w [.slice zA11 z.Tapes.length zC11] z.Tapes) (hs : z.Shape.ok = true) : Ret Tryz.prog 152 #[z.val zA9 zC9 zA10 zC10 zA11 zC11] w fun v w' => Ext No w w' ∧ (v = .bool (onOK z)) := by
 have zK2 := zK
 unfold Wld.Ok Shape.Ok at zK2
 try unfold I64ok at zK2
 try unfold maxLen at zK2
 have zL9 := sees_len zS9
 unfold maxLen at zL9
 obtain ⟨zF9, zO9⟩ := zS9
 have zL10 := sees_len zS10
 unfold maxLen at zL10
 obtain ⟨zF10, zO10⟩ := zS10
 have zL11 := sees_len zS11
 unfold maxLen at zL11
 obtain ⟨zF11, zO11⟩ := zS11
 have sbd := shape_bd hs
 refine ret_Q (vs := [z.val zA9 zC9 zA10 zC10 zA11 zC11]) Tryz.func152 rfl Tryz.ntmps152 rfl (fun Q hQ hN => ?_)
 have H0 := Sep.start (w := w) (F := [seen false [.slice zA9 z.Groups.length zC9] z.Groups zF9, seen false [.slice zA10 z.On.length zC10] z.On zF10, seen false [.slice zA11 z.Tapes.length zC11] z.Tapes zF11]) (all_cons zO9 (all_cons zO10 (all_cons zO11 (by simp))))
 refine W_sr (s_box (wn rfl) rfl rfl H0 (fun b1 w1 e1 g1 H1 => ?_))
 refine sV rfl (py_assign rfl) (s_nil (W_seq (W_sr (sV rfl (py_field Tryz.underlying37 rfl Tryz.sizeOf25 rfl rfl) (sV rfl (py_load Tryz.underlying25 rfl rfl (cell_atL (H1.box 0 rfl) rfl)) (sV rfl (py_len Tryz.underlying25 rfl) (sV rfl (py_move rfl) (s_nil (W_block (W_loopS (γ := Nat) H1 [(1, _), (6, _), (7, _)] ⟨rfl, rfl, rfl, trivial⟩ (fun k => [(8, .int .i64 k)]) (fun k => k ≤ z.On.length ∧ (∀ i, i < k → apartAt z.On (z.Shape.Groups + z.Shape.Column - 1) i = true)) (fun k => z.On.length - k) 0 ⟨rfl, trivial⟩ ⟨by omega, fun i hi => by omega⟩ (fun k w2 H2 ⟨hk, he⟩ => ?_)))))))))))
 dsimp only [List.cons_append, List.nil_append]
 refine W_sr (sV rfl (py_lss rfl rfl) (s_nil (W_seq (W_ifd rfl (fun c1 => ?_) (fun c1 => ?_)))))
 ·refine W_skip (W_seq (W_block (W_seq ?_)))
  obtain ⟨eb1, eo1, ee1, ec1⟩ := elem_int (H2.seen 1 rfl) k (by omega)
  have eI1 := elem_i64 (H2.seen 1 rfl) k (by omega)
  refine W_reg (sV rfl (py_move rfl) (sV rfl (py_elz Tryz.underlying25 Tryz.sizeOf2 rfl rfl ee1 k (by omega) (by omega)) (sV rfl (py_load Tryz.underlying2 rfl rfl ec1) (sV rfl (py_assign rfl) (sV rfl (py_assign rfl) (s_nil (W_sr (sV rfl (py_field Tryz.underlying37 rfl Tryz.sizeOf33 rfl rfl) (sV rfl (py_loadS Tryz.underlying33 rfl Tryz.sizeOf33 rfl rfl (At.sub (H2.box 0 rfl) 9)) (sV rfl (py_move rfl) (s_call (wn rfl) rfl rfl (pc_call Tryz.func94 rfl Tryz_nm94 rfl) (Tryz_impl_Shape_isGroup (by assumption)) (fun v1 w3 r1 => ?_))))))))))))
  obtain ⟨e2, rfl⟩ := r1
  have H3 := H2.to e2
  refine sV rfl (py_not rfl) (sV rfl (py_move rfl) (s_case (t := 18) rfl (fun hg1 => ?_) (fun hg1 => ?_)))
  ·try simp only [decide_eq_true_eq, decide_eq_false_iff_not] at hg1
   refine s_skip (wog (b := true) rfl rfl rfl) rfl rfl (s_skip (wog (b := true) rfl rfl rfl) rfl rfl (s_skip (wog (b := true) rfl rfl rfl) rfl rfl (s_skip (wog (b := true) rfl rfl rfl) rfl rfl (s_skip (wog (b := true) rfl rfl rfl) rfl rfl (s_skip (wog (b := true) rfl rfl rfl) rfl rfl (sV rfl (py_pickT rfl rfl) (s_nil (W_ift rfl (W_sr (sV rfl (py_assign rfl) (s_nil (W_ret (hQ _ _ (fin1 Tryz.results152 rfl ?_))))))))))))))
   exact ⟨H3.ext, congrArg Value.bool (onOK_apart (all_no k (by omega) (by simp only [apartAt, cut_take] at *; simp_all))).symm⟩
  ·try simp only [decide_eq_true_eq, decide_eq_false_iff_not] at hg1
   refine s_val (wg rfl rfl rfl) rfl rfl (py_field Tryz.underlying37 rfl Tryz.sizeOf25 rfl rfl) (s_val (wg rfl rfl rfl) rfl rfl (py_load Tryz.underlying25 rfl rfl (cell_atL (H3.box 0 rfl) rfl)) (s_val (wg rfl rfl rfl) rfl rfl (py_move rfl) ?_))
   have sc1 := own_le_cap (H3.seen 1 rfl)
   obtain ⟨sf1, so1, ss1⟩ := own_cutL (H3.seen 1 rfl) (0) (k) _ (by omega) (by omega) (by omega) (Nat.le_refl _)
   have H4 := H3.look1 1 rfl so1 ss1
   have sl1 := cut_len (xs := z.On) (l := 0) (h := k) (by omega)
   refine s_val (wg rfl rfl rfl) rfl rfl (py_slcHN Tryz.underlying25 Tryz.sizeOf2 rfl rfl (k) (by omega) (by omega) sl1) ((s_val (wg rfl rfl rfl) rfl rfl (py_move rfl) (s_call (wg rfl rfl rfl) rfl rfl (pc_call Tryz.func220 rfl Tryz_nm220 rfl) (Tryz_slices_Contains_int64_int64 (H4.sees 3 rfl)) (fun v2 w4 r2 => ?_))))
   obtain ⟨e3, rfl⟩ := r2
   have H5 := H4.to e3
   refine sV rfl (py_pickF rfl rfl) (s_nil (W_if rfl (fun c2 => ?_) (fun c2 => ?_)))
   ·refine W_sr (sV rfl (py_assign rfl) (s_nil (W_ret (hQ _ _ (fin1 Tryz.results152 rfl ?_)))))
    exact ⟨H5.ext, congrArg Value.bool (onOK_apart (all_no k (by omega) (by simp only [apartAt, cut_take] at *; simp_all))).symm⟩
   ·refine W_skip (W_reg (sV rfl (py_add rfl rfl (in64 ⟨by omega, by omega⟩)) (sV rfl (py_move rfl) (s_nil (⟨k + 1, ⟨rfl, rfl, rfl, rfl, trivial⟩, ⟨(H5.ftake 3), by omega, fun i hi => ?_⟩, by dsimp only; omega⟩)))))
    by_cases e : i = k
    ·subst e
     simp only [apartAt, cut_take] at *; simp_all
    ·exact he i (by omega)
 ·refine W_exit (W_seq (W_drw (S := Ext No _) [(0, true), (1, true), (3, true), (4, true), (5, true), (2, false), (6, true), (7, true), (8, true), (9, true), (10, true), (11, true), (12, true), (13, true), (14, true), (15, true), (16, true), (17, true), (18, false)] (by kernel_rfl) (by kernel_rfl) (by kernel_rfl) rfl (fun _ => Ext.refl.drawn _) (fun q1 => ?_)))
  have H6 := H2.drawn q1
  refine dV rfl rfl (fun zw hx => py_field Tryz.underlying37 rfl Tryz.sizeOf25 rfl rfl) (dV rfl rfl (fun zw hx => py_load Tryz.underlying25 rfl rfl (cell_atL (hx.heap (H6.box 0 rfl)) rfl)) (dV rfl rfl (fun zw hx => py_field Tryz.underlying37 rfl Tryz.sizeOf33 rfl rfl) (dV rfl rfl (fun zw hx => py_field Tryz.underlying33 rfl Tryz.sizeOf2 rfl rfl) (dV rfl rfl (fun zw hx => py_load Tryz.underlying2 rfl rfl (cell_atL (hx.heap (H6.box 0 rfl)) rfl)) (d_call rfl (wn rfl) rfl rfl (pc_call Tryz.func155 rfl Tryz_nm155 rfl) (Tryz_size_int64 (H6.sees 1 rfl)) (fun hS _ _ r _ => hS.trans r.1.no) (fun v3 w5 r3 => ?_))))))
  obtain ⟨e4, rfl⟩ := r3
  have H7 := H6.to e4
  refine dV rfl rfl (fun zw hx => py_leq rfl rfl) (dV rfl rfl (fun zw hx => py_move rfl) (d_case (t := 34) rfl (fun hg2 => ?_) (fun hg2 => ?_)))
  ·try simp only [decide_eq_true_eq, decide_eq_false_iff_not] at hg2
   refine d_val rfl (wg rfl rfl rfl) rfl rfl (fun zw hx => py_field Tryz.underlying37 rfl Tryz.sizeOf25 rfl rfl) (d_val rfl (wg rfl rfl rfl) rfl rfl (fun zw hx => py_load Tryz.underlying25 rfl rfl (cell_atL (hx.heap (H6.box 0 rfl)) rfl)) (d_val rfl (wg rfl rfl rfl) rfl rfl (fun zw hx => py_len Tryz.underlying25 rfl) (d_val rfl (wg rfl rfl rfl) rfl rfl (fun zw hx => py_eql rfl rfl) (d_val rfl (wg rfl rfl rfl) rfl rfl (fun zw hx => py_move rfl) (d_case (t := 39) rfl (fun hg3 => ?_) (fun hg3 => ?_))))))
   ·try simp only [decide_eq_true_eq, decide_eq_false_iff_not] at hg3
    refine d_skip rfl (wog (b := true) rfl rfl rfl) rfl rfl (d_skip rfl (wog (b := true) rfl rfl rfl) rfl rfl (d_skip rfl (wog (b := true) rfl rfl rfl) rfl rfl (d_val rfl (wg rfl rfl rfl) rfl rfl (fun zw hx => py_pickT rfl rfl) (dV rfl rfl (fun zw hx => py_pickT rfl rfl) (d_end rfl (wn rfl) rfl rfl (py_assign rfl) (d_nil (W_ret (hQ _ _ (fin1 Tryz.results152 rfl ?_)))))))))
    exact ⟨H7.ext, congrArg Value.bool (onOK_rest (all_yes fun i hi => he i (by omega)) (by simp_all)).symm⟩
   ·try simp only [decide_eq_true_eq, decide_eq_false_iff_not] at hg3
    refine d_val rfl (wg rfl rfl rfl) rfl rfl (fun zw hx => py_field Tryz.underlying37 rfl Tryz.sizeOf4 rfl rfl) (d_val rfl (wg rfl rfl rfl) rfl rfl (fun zw hx => py_load Tryz.underlying4 rfl rfl (cell_atL (hx.heap (H6.box 0 rfl)) rfl)) (d_val rfl (wg rfl rfl rfl) rfl rfl (fun zw hx => py_not rfl) (d_val rfl (wg rfl rfl rfl) rfl rfl (fun zw hx => py_pickF rfl rfl) (dV rfl rfl (fun zw hx => py_pickT rfl rfl) (d_end rfl (wn rfl) rfl rfl (py_assign rfl) (d_nil (W_ret (hQ _ _ (fin1 Tryz.results152 rfl ?_)))))))))
    exact ⟨H7.ext, congrArg Value.bool (onOK_rest (all_yes fun i hi => he i (by omega)) (by simp_all)).symm⟩
  ·try simp only [decide_eq_true_eq, decide_eq_false_iff_not] at hg2
   refine d_skip rfl (wog (b := false) rfl rfl rfl) rfl rfl (d_skip rfl (wog (b := false) rfl rfl rfl) rfl rfl (d_skip rfl (wog (b := false) rfl rfl rfl) rfl rfl (d_skip rfl (wog (b := false) rfl rfl rfl) rfl rfl (d_skip rfl (wog (b := false) rfl rfl rfl) rfl rfl (d_skip rfl (wou rfl rfl rfl) rfl rfl (d_skip rfl (wou rfl rfl rfl) rfl rfl (d_skip rfl (wou rfl rfl rfl) rfl rfl (d_skip rfl (wog (b := false) rfl rfl rfl) rfl rfl (dV rfl rfl (fun zw hx => py_pickF rfl rfl) (d_end rfl (wn rfl) rfl rfl (py_assign rfl) (d_nil (W_ret (hQ _ _ (fin1 Tryz.results152 rfl ?_))))))))))))))
   exact ⟨H7.ext, congrArg Value.bool (onOK_rest (all_yes fun i hi => he i (by omega)) (by rw [decide_eq_false (by omega)]; rfl)).symm⟩
theorem Tryz_impl_tapesFault_1 {w : World} {t : Tape} {tA1 : Option Addr} {tC1 : Nat} (tK : t.Ok) (tS1 : Sees w [.slice tA1 t.Recs.length tC1] t.Recs) : Ret Tryz.prog 222 #[t.val tA1 tC1] w fun v w' => Ext No w w' ∧ (v = .bool (manyRecs t)) := by
 have tK2 := tK
 unfold Tape.Ok at tK2
 try unfold I64ok at tK2
 try unfold maxLen at tK2
 have tL1 := sees_len tS1
 unfold maxLen at tL1
 obtain ⟨tF1, tO1⟩ := tS1
 refine ret_Q (vs := [t.val tA1 tC1]) Tryz.func222 rfl Tryz.ntmps222 rfl (fun Q hQ hN => ?_)
 have H0 := Sep.start (w := w) (F := [seen false [.slice tA1 t.Recs.length tC1] t.Recs tF1]) (all_cons tO1 (by simp))
 refine W_sr (s_box (wn rfl) rfl rfl H0 (fun b1 w1 e1 g1 H1 => ?_))
 refine sV rfl (py_assign rfl) (s_nil (W_sr (sV rfl (py_field Tryz.underlying155 rfl Tryz.sizeOf82 rfl rfl) (sV rfl (py_load Tryz.underlying82 rfl rfl (cell_atL (H1.box 0 rfl) rfl)) (sV rfl (py_len Tryz.underlying82 rfl) (sV rfl (py_gtr rfl rfl) (sV rfl (py_assign rfl) (s_nil (W_ret (hQ _ _ (fin1 Tryz.results222 rfl ?_)))))))))))
 exact ⟨H1.ext, rfl⟩
theorem Tryz_impl_tapesFault_2 {w : World} {t : Tape} {tA1 : Option Addr} {tC1 : Nat} (tK : t.Ok) (tS1 : Sees w [.slice tA1 t.Recs.length tC1] t.Recs) : Ret Tryz.prog 223 #[t.val tA1 tC1] w fun v w' => Ext No w w' ∧ (v = .bool (wipedFull t)) := by
 have tK2 := tK
 unfold Tape.Ok at tK2
 try unfold I64ok at tK2
 try unfold maxLen at tK2
 have tL1 := sees_len tS1
 unfold maxLen at tL1
 obtain ⟨tF1, tO1⟩ := tS1
 refine ret_Q (vs := [t.val tA1 tC1]) Tryz.func223 rfl Tryz.ntmps223 rfl (fun Q hQ hN => ?_)
 have H0 := Sep.start (w := w) (F := [seen false [.slice tA1 t.Recs.length tC1] t.Recs tF1]) (all_cons tO1 (by simp))
 refine W_sr (s_box (wn rfl) rfl rfl H0 (fun b1 w1 e1 g1 H1 => ?_))
 refine sV rfl (py_assign rfl) (s_nil (W_sr (sV rfl (py_field Tryz.underlying155 rfl Tryz.sizeOf4 rfl rfl) (sV rfl (py_load Tryz.underlying4 rfl rfl (cell_atL (H1.box 0 rfl) rfl)) (sV rfl (py_move rfl) (s_grp 4 (j := 2) (want := true) (t := 9) rfl rfl rfl rfl (fun hg1 kk1 => s_val (wgE rfl rfl rfl hg1) rfl rfl (py_field Tryz.underlying155 rfl Tryz.sizeOf82 rfl rfl) (s_val (wgE rfl rfl rfl hg1) rfl rfl (py_load Tryz.underlying82 rfl rfl (cell_atL (H1.box 0 rfl) rfl)) (s_val (wgE rfl rfl rfl hg1) rfl rfl (py_len Tryz.underlying82 rfl) (s_val (wgE rfl rfl rfl hg1) rfl rfl (py_gtr rfl rfl) (kk1 _ _ (kx rfl (kx rfl (kx rfl (kx rfl k0)))) rfl Ext.refl))))) (fun w2 e2 => ?_)))))))
 have H2 := H1.to e2
 refine sV rfl (py_band rfl rfl) (sV rfl (py_assign rfl) (s_nil (W_ret (hQ _ _ (fin1 Tryz.results223 rfl ?_)))))
 exact ⟨H2.ext, congrArg Value.bool (by simp [wipedFull])⟩
set_option maxHeartbeats 1000000 in
theorem Tryz_impl_tapesFault {w : World} {z : Wld} {zA9 : Option Addr} {zC9 : Nat} {zA10 : Option Addr} {zC10 : Nat} {zA11 : Option Addr} {zC11 : Nat} (zK : z.Ok) (zS9 : Sees w [.slice zA9 z.Groups.length zC9] z.Groups) (zS10 : Sees w [.slice zA10 z.On.length zC10] z.On) (zS11 : Sees w [.slice zA11 z.Tapes.length zC11] z.Tapes) (hs : z.Shape.ok = true) : Ret Tryz.prog 153 #[z.val zA9 zC9 zA10 zC10 zA11 zC11] w fun v w' => Ext No w w' ∧ (v = .int .i64 (tapesF z)) := by
 have zK2 := zK
 unfold Wld.Ok Shape.Ok at zK2
 try unfold I64ok at zK2
 try unfold maxLen at zK2
 have zL9 := sees_len zS9
 unfold maxLen at zL9
 obtain ⟨zF9, zO9⟩ := zS9
 have zL10 := sees_len zS10
 unfold maxLen at zL10
 obtain ⟨zF10, zO10⟩ := zS10
 have zL11 := sees_len zS11
 unfold maxLen at zL11
 obtain ⟨zF11, zO11⟩ := zS11
 have sbd := shape_bd hs
 refine ret_Q (vs := [z.val zA9 zC9 zA10 zC10 zA11 zC11]) Tryz.func153 rfl Tryz.ntmps153 rfl (fun Q hQ hN => ?_)
 have H0 := Sep.start (w := w) (F := [seen false [.slice zA9 z.Groups.length zC9] z.Groups zF9, seen false [.slice zA10 z.On.length zC10] z.On zF10, seen false [.slice zA11 z.Tapes.length zC11] z.Tapes zF11]) (all_cons zO9 (all_cons zO10 (all_cons zO11 (by simp))))
 refine W_sr (s_box (wn rfl) rfl rfl H0 (fun b1 w1 e1 g1 H1 => ?_))
 refine sV rfl (py_assign rfl) (s_nil (W_seq (W_sr (sV rfl (py_field Tryz.underlying37 rfl Tryz.sizeOf35 rfl rfl) (sV rfl (py_load Tryz.underlying35 rfl rfl (cell_atL (H1.box 0 rfl) rfl)) (s_call (wn rfl) rfl rfl (pc_call Tryz.func221 rfl Tryz_nm221 rfl) (Tryz_ContainsFunc_Tape (H1.sees 2 rfl) (p := manyRecs) Tryz.func222 rfl Tryz_nm222 (fun w1 e1 i0 hi0 _ _ K0 o0_1 => Tryz_impl_tapesFault_1 K0 o0_1)) (fun v1 w2 r1 => ?_)))))))
 obtain ⟨e2, rfl⟩ := r1
 have H2 := H1.to e2
 refine s_nil (W_if rfl (fun c1 => ?_) (fun c1 => ?_))
 ·refine W_sr (sV rfl (py_assign rfl) (s_nil (W_ret (hQ _ _ (fin1 Tryz.results153 rfl ?_)))))
  exact ⟨H2.ext, congrArg (Value.int .i64) (tapesF_many c1).symm⟩
 ·refine W_skip (W_seq (W_seq ?_))
  have cM := c1
  refine W_reg (sV rfl (py_field Tryz.underlying37 rfl Tryz.sizeOf35 rfl rfl) (sV rfl (py_load Tryz.underlying35 rfl rfl (cell_atL (H2.box 0 rfl) rfl)) (sV rfl (py_len Tryz.underlying35 rfl) (sV rfl (py_move rfl) (s_nil (W_block (W_loopS (γ := Nat) H2 [(1, _), (12, _), (13, _)] ⟨rfl, rfl, rfl, trivial⟩ (fun k => [(14, .int .i64 k)]) (fun k => k ≤ z.Tapes.length ∧ tapeF z.Shape z.Tapes k = 0) (fun k => z.Tapes.length - k) 0 ⟨rfl, trivial⟩ ⟨by omega, rfl⟩ (fun k w3 H3 ⟨hk, hkz⟩ => ?_))))))))
  dsimp only [List.cons_append, List.nil_append]
  refine W_sr (sV rfl (py_lss rfl rfl) (s_nil (W_seq (W_ifd rfl (fun c2 => ?_) (fun c2 => ?_)))))
  ·refine W_skip (W_seq (W_block (W_seq ?_)))
   obtain ⟨eb1, eo1, es1, ef1, ee1, ec1, eO1, eH1, em1⟩ := elem_st (H3.seen 2 rfl) k (by omega)
   obtain ⟨ea1, ek1, eg1, rfl, eq1, eK1, eo2⟩ := own_Tape eO1
   have eP1 := H3.look1 2 rfl eo2 (fun b hb => eH1 b (by rw [eq1]; simp [hb]))
   have eL1 := own_len_le eo2
   unfold maxLen at eL1
   refine W_reg (sV rfl (py_elz Tryz.underlying35 Tryz.sizeOf155 rfl rfl ee1 k (by omega) (by omega)) (sV rfl (py_loadS Tryz.underlying155 rfl Tryz.sizeOf155 rfl rfl ec1) (s_var (wn rfl) rfl Tryz.zeroValue155 eP1 (fun b2 w4 e3 g2 H4 => ?_))))
   refine s_stoS (wn rfl) Tryz.sizeOf155 rfl rfl rfl rfl H4 1 rfl rfl (fun w5 e4 H5 => ?_)
   dsimp only [List.nil_append, List.cons_append, List.set_cons_zero, List.set_cons_succ, layL] at H5
   refine s_nil (W_sr (sV rfl (py_field Tryz.underlying155 rfl Tryz.sizeOf82 rfl rfl) (sV rfl (py_load Tryz.underlying82 rfl rfl (cell_atL (H5.box 1 rfl) rfl)) (sV rfl (py_len Tryz.underlying82 rfl) (sV rfl (py_move rfl) (s_nil (W_block (W_loopS (γ := Nat) H5 [(1, _), (12, _), (13, _), (14, _), (19, _), (20, _)] ⟨rfl, rfl, rfl, rfl, rfl, rfl, trivial⟩ (fun k2 => [(21, .int .i64 k2)]) (fun k2 => k2 ≤ (z.Tapes.getD k default).Recs.length ∧ recsF z.Shape (z.Tapes.getD k default).Recs k2 = 0) (fun k2 => (z.Tapes.getD k default).Recs.length - k2) 0 ⟨rfl, trivial⟩ ⟨by omega, rfl⟩ (fun k2 w6 H6 ⟨hk2, hk2z⟩ => ?_)))))))))
   dsimp only [List.cons_append, List.nil_append]
   refine W_sr (sV rfl (py_lss rfl rfl) (s_nil (W_seq (W_ifd rfl (fun c3 => ?_) (fun c3 => ?_)))))
   ·refine W_skip (W_seq (W_block (W_seq ?_)))
    obtain ⟨eb2, eo3, es2, ef2, ee2, ec2, eO2, eH2, em2⟩ := elem_st (H6.seen 3 rfl) k2 (by omega)
    obtain ⟨ea2, ek2, ea3, ek3, ea4, ek4, eg2, eg3, eg4, rfl, eq2, eK2, eo4, eo5, eo6⟩ := own_Rec eO2
    have eK2U := eK2
    unfold Rec.Ok at eK2U
    try unfold I64ok at eK2U
    try unfold maxLen at eK2U
    have eP2 := H6.look1 3 rfl eo4 (fun b hb => eH2 b (by rw [eq2]; simp [hb]))
    have eL2 := own_len_le eo4
    unfold maxLen at eL2
    have eP3 := eP2.look1 3 rfl eo5 (fun b hb => eH2 b (by rw [eq2]; simp [hb]))
    have eL3 := own_len_le eo5
    unfold maxLen at eL3
    have eP4 := eP3.look1 3 rfl eo6 (fun b hb => eH2 b (by rw [eq2]; simp [hb]))
    have eL4 := own_len_le eo6
    unfold maxLen at eL4
    refine W_reg (sV rfl (py_elz Tryz.underlying82 Tryz.sizeOf66 rfl rfl ee2 k2 (by omega) (by omega)) (sV rfl (py_loadS Tryz.underlying66 rfl Tryz.sizeOf66 rfl rfl ec2) (s_var (wn rfl) rfl Tryz.zeroValue66 eP4 (fun b3 w7 e5 g3 H7 => ?_))))
    refine s_stoS (wn rfl) Tryz.sizeOf66 rfl rfl rfl rfl H7 2 rfl rfl (fun w8 e6 H8 => ?_)
    dsimp only [List.nil_append, List.cons_append, List.set_cons_zero, List.set_cons_succ, layL] at H8
    refine s_nil (W_sr (sV rfl (py_field Tryz.underlying37 rfl Tryz.sizeOf33 rfl rfl) (sV rfl (py_loadS Tryz.underlying33 rfl Tryz.sizeOf33 rfl rfl (At.sub (H8.box 0 rfl) 9)) (sV rfl (py_loadS Tryz.underlying66 rfl Tryz.sizeOf66 rfl rfl (At.whole (H8.box 2 rfl))) (s_call (wn rfl) rfl rfl (pc_call Tryz.func111 rfl Tryz_nm111 rfl) (Tryz_impl_recFault (by assumption) (H8.sees 4 rfl) (H8.sees 5 rfl) (H8.sees 6 rfl) (by assumption)) (fun v2 w9 r2 => ?_))))))
    obtain ⟨e7, rfl⟩ := r2
    have H9 := H8.to e7
    refine sV rfl (py_assign rfl) (s_nil (W_sr (sV rfl (py_move rfl) (sV rfl (py_neq rfl rfl) (s_nil (W_ifd rfl (fun c4 => ?_) (fun c4 => ?_)))))))
    ·refine W_sr (sV rfl (py_move rfl) (sV rfl (py_assign rfl) (s_nil (W_ret (hQ _ _ (fin1 Tryz.results153 rfl ?_))))))
     exact ⟨H9.ext, congrArg (Value.int .i64) ((tapesF_rec cM (k := k) (k2 := k2) (by omega) hkz (by omega) hk2z (by omega))).symm⟩
    ·refine W_skip (W_reg (sV rfl (py_add rfl rfl (in64 ⟨by omega, by omega⟩)) (sV rfl (py_move rfl) (s_nil (⟨k2 + 1, ⟨rfl, rfl, rfl, rfl, rfl, rfl, rfl, trivial⟩, ⟨((H9.ftake 4).dtake 2), by omega, (recsF_next hk2z).trans (by omega)⟩, by dsimp only; omega⟩)))))
   ·refine W_exit (W_reg (sV rfl (py_add rfl rfl (in64 ⟨by omega, by omega⟩)) (sV rfl (py_move rfl) (s_nil ?_))))
    obtain rfl : k2 = (z.Tapes.getD k default).Recs.length := by omega
    refine ⟨k + 1, ⟨rfl, rfl, rfl, rfl, trivial⟩, ⟨((H6.ftake 3).dtake 1), by omega, (tapeF_next hkz).trans hk2z⟩, by dsimp only; omega⟩
  ·refine W_exit (W_seq (W_seq ?_))
   obtain rfl : k = z.Tapes.length := by omega
   have hAll := hkz
   refine W_reg (sV rfl (py_field Tryz.underlying37 rfl Tryz.sizeOf35 rfl rfl) (sV rfl (py_load Tryz.underlying35 rfl rfl (cell_atL (H3.box 0 rfl) rfl)) (s_call (wn rfl) rfl rfl (pc_call Tryz.func221 rfl Tryz_nm221 rfl) (Tryz_ContainsFunc_Tape (H3.sees 2 rfl) (p := wipedFull) Tryz.func223 rfl Tryz_nm223 (fun w1 e1 i0 hi0 _ _ K0 o0_1 => Tryz_impl_tapesFault_2 K0 o0_1)) (fun v3 w10 r3 => ?_))))
   obtain ⟨e8, rfl⟩ := r3
   have H10 := H3.to e8
   refine s_nil (W_if rfl (fun c5 => ?_) (fun c5 => ?_))
   ·refine W_sr (sV rfl (py_assign rfl) (s_nil (W_ret (hQ _ _ (fin1 Tryz.results153 rfl ?_)))))
    exact ⟨H10.ext, congrArg (Value.int .i64) (tapesF_full cM hAll c5).symm⟩
   ·refine W_skip (W_sr (sV rfl (py_assign rfl) (s_nil (W_ret (hQ _ _ (fin1 Tryz.results153 rfl ?_))))))
    exact ⟨H10.ext, congrArg (Value.int .i64) (tapesF_ok cM hAll c5).symm⟩
end Go.Wk
