/-
  Rows shifted. No program is named here.
-/
import Derived.Test.YtceeelcijjkefaaGreatWkV
set_option linter.unusedVariables false
set_option linter.unusedSimpArgs false
namespace Go.Wk
open Rp (sz own)
theorem xor_comm8 (a b : UInt8) : a ^^^ b = b ^^^ a := UInt8.xor_comm a b
theorem addG_comm {xs ys : List UInt8} : addG xs ys = addG ys xs := by
  unfold addG
  rw [List.zipWith_comm]
  congr 1
  funext a b
  exact xor_comm8 _ _
/-- The blocks, each with the other's added to it. -/
def shiftL (ms xs : List (List UInt8)) : List (List UInt8) := (List.range xs.length).map fun i => addG (xs.getD i []) (ms.getD i [])
def shiftTo (ms xs : List (List UInt8)) (k : Nat) : List (List UInt8) := (List.range k).map fun i => addG (xs.getD i []) (ms.getD i [])
/-- The first k done in place. -/
def shiftIn (ms xs : List (List UInt8)) (k : Nat) : List (List UInt8) := shiftTo ms xs k ++ ms.drop k
theorem shiftTo_len {ms xs : List (List UInt8)} {k : Nat} : (shiftTo ms xs k).length = k := by simp [shiftTo]
theorem shiftTo_step {ms xs : List (List UInt8)} {k : Nat} : shiftTo ms xs k ++ [addG (xs.getD k []) (ms.getD k [])] = shiftTo ms xs (k + 1) := by simp [shiftTo, List.range_succ]
theorem shiftTo_all {ms xs : List (List UInt8)} : shiftTo ms xs xs.length = shiftL ms xs := rfl
theorem shiftIn_zero {ms xs : List (List UInt8)} : shiftIn ms xs 0 = ms := by simp [shiftIn, shiftTo]
theorem shiftIn_len {ms xs : List (List UInt8)} {k : Nat} (h : k ≤ ms.length) : (shiftIn ms xs k).length = ms.length := by
  simp [shiftIn, shiftTo_len]; omega
theorem shiftIn_all {ms xs : List (List UInt8)} (h : ms.length = xs.length) : shiftIn ms xs xs.length = shiftL ms xs := by
  rw [shiftIn, shiftTo_all, ← h, List.drop_length, List.append_nil]
theorem shiftIn_get {ms xs : List (List UInt8)} {k : Nat} (h : k < ms.length) : (shiftIn ms xs k).getD k [] = ms.getD k [] := by
  simp only [List.getD_eq_getElem?_getD, shiftIn]
  rw [List.getElem?_append_right (by rw [shiftTo_len]; exact Nat.le_refl _), shiftTo_len, Nat.sub_self, List.getElem?_drop]
  simp
theorem shiftIn_step {ms xs : List (List UInt8)} {k : Nat} (h : k < ms.length) {z : List UInt8} (hz : z = addG (xs.getD k []) (ms.getD k [])) : (shiftIn ms xs k).set k z = shiftIn ms xs (k + 1) := by
  subst hz
  rw [shiftIn, List.set_append_right _ _ (by rw [shiftTo_len]; exact Nat.le_refl _), shiftTo_len, Nat.sub_self, shiftIn, ← shiftTo_step]
  rw [List.drop_eq_getElem_cons h, List.set_cons_zero]
  simp
theorem shift_cnt {ms xs : List (List UInt8)} {n m : Nat} (h : ∀ i, i < xs.length → (xs.getD i []).length = m) (h2 : ∀ i, i < xs.length → m ≤ (ms.getD i []).length) (hn : xs.length ≤ n) : cntB (shiftL ms xs) ≤ n * m := by
  have e : (shiftL ms xs).length = xs.length := by simp [shiftL]
  have := sumN_bound (f := lenB (shiftL ms xs)) (m := m) (k := (shiftL ms xs).length) fun i hi => by
    rw [e] at hi
    have e2 : (shiftL ms xs).getD i [] = addG (xs.getD i []) (ms.getD i []) := by simp [shiftL, List.getD, hi]
    have h3 := h i hi
    have h4 := h2 i hi
    simp only [lenB]
    rw [e2, addG_len (by omega)]
    omega
  rw [e] at this
  unfold cntB
  rw [e]
  exact Nat.le_trans this (Nat.mul_le_mul_right _ hn)
/-- What ShiftRow answers. -/
def shiftRow (d s : Int) (xs : List (List UInt8)) (by' : List UInt8) : BlocksResult :=
  if rOK d s = true then if wholeL (d + s) xs = true ∧ (by'.length : Int) = d * 4 then ⟨0, shiftL (encG d.toNat (d.toNat + s.toNat) by') xs⟩ else ⟨1, []⟩ else ⟨3, []⟩
theorem shiftRow_range {d s xs ys} (h : rOK d s = false) : shiftRow d s xs ys = ⟨3, []⟩ := by rw [shiftRow, if_neg (by simp [h])]
theorem shiftRow_form {d s xs} {ys : List UInt8} (h : rOK d s = true) (h2 : (!wholeL (d + s) xs || decide ((ys.length : Int) ≠ d * 4)) = true) : shiftRow d s xs ys = ⟨1, []⟩ := by
  rw [shiftRow, if_pos h, if_neg]
  rintro ⟨h3, h4⟩
  simp [h3, h4] at h2
theorem shiftRow_full {d s xs} {ys : List UInt8} (h : rOK d s = true) (h2 : (!wholeL (d + s) xs || decide ((ys.length : Int) ≠ d * 4)) = false) :
    wholeL (d + s) xs = true ∧ (ys.length : Int) = d * 4 ∧ shiftRow d s xs ys = ⟨0, shiftL (encG d.toNat (d.toNat + s.toNat) ys) xs⟩ := by
  simp only [Bool.or_eq_false_iff, Bool.not_eq_false', decide_eq_false_iff_not, Decidable.not_not] at h2
  exact ⟨h2.1, h2.2, by rw [shiftRow, if_pos h, if_pos ⟨h2.1, h2.2⟩]⟩
theorem shiftRow_cnt {d s : Int} {xs : List (List UInt8)} {ys : List UInt8} : cntB (shiftRow d s xs ys).Blocks ≤ 100 := by
  unfold shiftRow
  split
  · rename_i h
    have hb := rOK_bd h
    split
    · rename_i h2
      obtain ⟨h3, h4⟩ := wholeL_len h2.1
      have := shift_cnt (ms := encG d.toNat (d.toNat + s.toNat) ys) (n := 5) h4 (fun i hi => by rw [encG_lens (by omega) i (by omega)]; omega) (by omega)
      exact Nat.le_trans this (by omega)
    · show cntB [] ≤ 100
      simp [cntB, sumN]
  · show cntB [] ≤ 100
    simp [cntB, sumN]
theorem blocks_out {w0 w : World} {F : List Rsc} {a : Option Addr} {n c : Nat} {qs : List (List UInt8)} {f : List Nat} {k : Int} (h : Sep No w0 [mine [.slice a n c] qs f] F w) (hk : I64ok k) :
    n = qs.length ∧ Res w0 w [.int .i64 k, .slice a qs.length c] (⟨k, qs⟩ : BlocksResult) := by
  have hn := own_n (h.mine 0 rfl)
  subst hn
  exact ⟨rfl, BlocksResult.out (x := ⟨k, qs⟩) h hk⟩
section
variable {P : Program} {n : Nat} {ops : Array Oper} {Q : Post} {S : World → Prop} {L : Env} {w w0 : World} {M : Nat → Prop} {Δ F : List Rsc} {i : Nat} {d : Tmp} {ty : TypeId} {p : String} {af : Array Edge} {g : Option (Nat × Bool)} {rest : List (Nat × Bool)}
/-- A store into a box, at a region's end. -/
theorem d_sto {t : TypeId} {x y : Operand} {b off : Nat} {cs : List Value} {T v} (ho : ops.toList[i]? = some ⟨none, .store t x y, ty, p, af, g⟩) (hw : Wn ops n L ⟨none, .store t x y, ty, p, af, g⟩) (hs : ∀ w, (sizeOf t).run P w = .ok 1 w) (hx : evL L x = some (.pointer (some ⟨b, off, none⟩))) (hy : evL L y = some v) (h1 : v.oneCell' = true)
    (H : Sep M w0 Δ F w) (j : Nat) (hi : Δ[j]? = some (box b (.cells cs.toArray T))) (hf : Nat.blt off cs.length = true) (hS : ∀ w', S w → Ext (· = b) w w' → rest ≠ [] → S w')
    (k : ∀ w', Ext (· = b) w w' → Sep M w0 (Δ.set j (box b (.cells (cs.set off v).toArray T))) F w' → DL P n ops Q S rest L w') :
    DL P n ops Q S ((i, false) :: rest) L w := by
  have h := k _ (Ext.refl.put (.inl rfl)) (H.put j _ hi)
  rw [← List.setIfInBounds_toArray] at h
  exact d_do ho hw rfl (pd_store hs hx hy h1 (H.box j hi) (by rw [List.size_toArray]; exact Nat.le_of_ble_eq_true hf)) (fun hSw hr => hS _ hSw (Ext.refl.put (.inl rfl)) hr) h
end
end Go.Wk
