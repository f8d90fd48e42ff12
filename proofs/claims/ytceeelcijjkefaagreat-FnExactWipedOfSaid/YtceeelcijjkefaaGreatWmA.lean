/-
  A loop of which most slots and all that is held stay as they are. No program is named here.
-/
import Derived.Test.YtceeelcijjkefaaGreatWlJ
set_option linter.unusedVariables false
set_option linter.unusedSimpArgs false
namespace Go.Wk
open Rp (sz own)
section
variable {P : Program} {n : Nat} {c : Code} {Q : Post} {L : Env} {w w0 : World} {M : Nat → Prop} {Δ F : List Rsc}
theorem sub_append {L : Env} : ∀ {A B : Env}, sub L A → sub L B → sub L (A ++ B)
  | [], _, _, h => h
  | _ :: _, _, h, k => ⟨h.1, sub_append h.2 k⟩
theorem W_loopS {γ : Type} (H : Sep M w0 Δ F w) (E2 : Env) (h2 : sub L E2) (E : γ → Env) (I : γ → Prop) (μ : γ → Nat) (g0 : γ) (hs : sub L (E g0)) (h0 : I g0)
    (round : ∀ g w, Sep M w0 Δ F w → I g → W P n c (again (fun g => E g ++ E2) (fun g w' => Sep M w0 Δ F w' ∧ I g) μ g Q) (E g ++ E2) w) : W P n (.loop c) Q L w :=
  W_loop (fun g => E g ++ E2) (fun g w' => Sep M w0 Δ F w' ∧ I g) μ g0 (sub_append hs h2) ⟨H, h0⟩ fun g w h => round g w h.1 h.2
theorem W_cutS {x y : Code} {γ : Type} (H : Sep M w0 Δ F w) (E2 : Env) (h2 : sub L E2) (E : γ → Env) (I : γ → Prop)
    (h : W P n x (meets (fun g => E g ++ E2) (fun g w' => Sep M w0 Δ F w' ∧ I g) Q) L w)
    (k : ∀ g w', Sep M w0 Δ F w' → I g → W P n y Q (E g ++ E2) w') : W P n (.seq x y) Q L w :=
  W_cut (fun g => E g ++ E2) (fun g w' => Sep M w0 Δ F w' ∧ I g) h fun g w' hI => k g w' hI.1 hI.2
end
end Go.Wk
namespace Go.Wk
/-! ### Records: what the two sides tell -/
theorem item_ok {s : Shape} {r : Rec} {a b c d : Bool} (h1 : r.Length ≠ -1) (h2 : longOf s r.Length = 0) (ea : a = decide ((r.Data.length : Int) = r.Length)) (eb : b = decide ((r.Rows.length : Int) = 0))
    (ec : c = decide ((r.Data.length : Int) = 0)) (ed : d = decide ((r.Rows.length : Int) = partsOf s r.Length)) : (a && b || (c && d && apartL r.Rows (s.Rows - 1))) = itemOK s r := by
  subst ea; subst eb; subst ec; subst ed
  have hz := long_zero h2
  rw [itemOK, if_neg h1, decide_eq_true h2, Bool.true_and]
  by_cases hd : 0 < r.Data.length
  · rw [if_pos hd, decide_eq_false (by omega : ¬ ((r.Data.length : Int) = 0))]
    simp
  · rw [if_neg hd, decide_eq_true (by omega : ((r.Data.length : Int) = 0)), decide_eq_false (by omega : ¬ ((r.Data.length : Int) = r.Length))]
    simp
theorem item_del {s : Shape} {r : Rec} (h1 : r.Length = -1) : itemOK s r = (decide (r.Data.length = 0) && decide (r.Rows.length = 0)) := by rw [itemOK, if_pos h1]
theorem item_long {s : Shape} {r : Rec} (h1 : r.Length ≠ -1) (h2 : longOf s r.Length ≠ 0) : itemOK s r = false := by rw [itemOK, if_neg h1, decide_eq_false h2]; rfl
theorem partsN_ok {s : Shape} {len : Int} (h : longOf s len = 0) : partsN s len = partsOf s len := by rw [partsN, if_pos h]
end Go.Wk
namespace Go.Wk
def emptyR (r : Rec) : Bool := noName r && decide (r.Length = 0) && decide (r.Group = 0) && decide (r.Row = 0) && decide (r.Rows.length = 0) && decide (r.Data.length = 0) && decide (r.Delta.length = 0)
def recOf (r : Rec) : Rec :=
  if r.Kind = 1 then ⟨r.Kind, r.Seq, r.Name, r.Length, 0, 0, r.Rows, r.Data, []⟩
  else if r.Kind = 2 then ⟨r.Kind, r.Seq, ⟨#[]⟩, 0, r.Group, r.Row, [], r.Data, r.Delta⟩
  else if r.Kind = 3 then ⟨r.Kind, r.Seq, ⟨#[]⟩, 0, r.Group, 0, [], [], []⟩
  else if r.Kind = 4 then ⟨r.Kind, r.Seq, ⟨#[]⟩, 0, r.Group, r.Row, r.Rows, r.Data, r.Delta⟩
  else ⟨r.Kind, r.Seq, ⟨#[]⟩, 0, 0, 0, [], [], []⟩
theorem recOf_same {r : Rec} (hk : 1 ≤ r.Kind ∧ r.Kind ≤ 4) : decide (r = recOf r) = bareOK r := by
  obtain ⟨k, q, nm, ln, g, rw, rs, da, de⟩ := r
  have : k = 1 ∨ k = 2 ∨ k = 3 ∨ k = 4 := by simp only at hk; omega
  rcases this with rfl | rfl | rfl | rfl <;> simp [recOf, bareOK, noName, Bool.and_assoc]
theorem same_rec {a b : Rec} : (decide (a.Kind = b.Kind) && (decide (a.Seq = b.Seq) && ((a.Name.toList == b.Name.toList) && (decide (a.Length = b.Length) && (decide (a.Group = b.Group) && (decide (a.Row = b.Row) && (decide (a.Rows = b.Rows) && (decide (a.Data = b.Data) && decide (a.Delta = b.Delta))))))))) = decide (a = b) := by
  obtain ⟨k, q, nm, ln, g, rw, rs, da, de⟩ := a
  obtain ⟨k2, q2, nm2, ln2, g2, rw2, rs2, da2, de2⟩ := b
  simp [str_beq]
theorem weight_grp {s : Shape} {r : Rec} (h : ¬ ((r.Delta.getD r.Group.toNat 0).toNat : Int) = 0) : weightsOK s r = false := by rw [weightsOK, decide_eq_false h]; simp
theorem weight_row {s : Shape} {r : Rec} (k : Nat) (hk : k < r.Rows.length) (h : ((r.Delta.getD (r.Rows.getD k 0).toNat 0).toNat : Int) = 0) : weightsOK s r = false := by
  rw [weightsOK, all_no k hk (by rw [decide_eq_false (by simpa using h)])]; simp
theorem weight_ok {s : Shape} {r : Rec} (h : (r.Delta.length : Int) = s.Groups + s.Column) (h2 : ((r.Delta.getD r.Group.toNat 0).toNat : Int) = 0) (h3 : ∀ i, i < r.Rows.length → ¬ ((r.Delta.getD (r.Rows.getD i 0).toNat 0).toNat : Int) = 0) : weightsOK s r = true := by
  rw [weightsOK, decide_eq_true h, decide_eq_true h2, all_yes fun i hi => decide_eq_true (h3 i hi)]; rfl
theorem weight_bad {s : Shape} {r : Rec} (h : ¬ (r.Delta.length : Int) = s.Groups + s.Column) : weightsOK s r = false := by rw [weightsOK, decide_eq_false h]; rfl
end Go.Wk
namespace Go.Wk
theorem item_long0 {s : Shape} {r : Rec} (h1 : r.Length ≠ -1) (h2 : longOf s r.Length = 0) : itemOK s r = if 0 < r.Data.length then decide ((r.Data.length : Int) = r.Length) && decide (r.Rows.length = 0) else decide ((r.Rows.length : Int) = partsOf s r.Length) && apartL r.Rows (s.Rows - 1) := by
  rw [itemOK, if_neg h1, decide_eq_true h2, Bool.true_and]
end Go.Wk
namespace Go.Wk
theorem any_getD {α : Type} {d : α} {xs : List α} {p : α → Bool} (h : xs.any p = true) : ∃ i, i < xs.length ∧ p (xs.getD i d) = true := by
  rw [List.any_eq_true] at h
  obtain ⟨x, hx, hp⟩ := h
  obtain ⟨i, hi, rfl⟩ := List.getElem_of_mem hx
  exact ⟨i, hi, by simpa [List.getD, hi] using hp⟩
theorem any_noD {α : Type} {d : α} {xs : List α} {p : α → Bool} (h : xs.any p = false) (i : Nat) (hi : i < xs.length) : p (xs.getD i d) = false := by
  rw [List.any_eq_false] at h
  have := h xs[i] (List.getElem_mem hi)
  simpa [List.getD, hi] using this
def zeroAt (r : Rec) (k : Int) : Bool := decide (((r.Delta.getD k.toNat 0).toNat : Int) = 0)
theorem weight_any {s : Shape} {r : Rec} (h : r.Rows.any (fun k => decide (((r.Delta.getD k.toNat 0).toNat : Int) = 0)) = true) : weightsOK s r = false := by
  obtain ⟨i, hi, h⟩ := any_getD (d := 0) h
  exact weight_row i hi (by simpa using h)
theorem weight_none {s : Shape} {r : Rec} (h : (r.Delta.length : Int) = s.Groups + s.Column) (h2 : ((r.Delta.getD r.Group.toNat 0).toNat : Int) = 0) (h3 : r.Rows.any (fun k => decide (((r.Delta.getD k.toNat 0).toNat : Int) = 0)) = false) : weightsOK s r = true :=
  weight_ok h h2 fun i hi => by simpa using any_noD (d := 0) h3 i hi
end Go.Wk
namespace Go.Wk
theorem recOf_0 {r : Rec} (h : r.Kind = 1) : recOf r = ⟨r.Kind, r.Seq, r.Name, r.Length, 0, 0, r.Rows, r.Data, []⟩ := by rw [recOf, if_pos h]
theorem recOf_1 {r : Rec} (h : ¬ r.Kind = 1) (h2 : r.Kind = 2) : recOf r = ⟨r.Kind, r.Seq, ⟨#[]⟩, 0, r.Group, r.Row, [], r.Data, r.Delta⟩ := by rw [recOf, if_neg h, if_pos h2]
theorem recOf_2 {r : Rec} (h : ¬ r.Kind = 1) (h2 : ¬ r.Kind = 2) (h3 : r.Kind = 3) : recOf r = ⟨r.Kind, r.Seq, ⟨#[]⟩, 0, r.Group, 0, [], [], []⟩ := by rw [recOf, if_neg h, if_neg h2, if_pos h3]
theorem recOf_3 {r : Rec} (h : ¬ r.Kind = 1) (h2 : ¬ r.Kind = 2) (h3 : ¬ r.Kind = 3) (h4 : r.Kind = 4) : recOf r = ⟨r.Kind, r.Seq, ⟨#[]⟩, 0, r.Group, r.Row, r.Rows, r.Data, r.Delta⟩ := by rw [recOf, if_neg h, if_neg h2, if_neg h3, if_pos h4]
theorem recOf_4 {r : Rec} (h : ¬ r.Kind = 1) (h2 : ¬ r.Kind = 2) (h3 : ¬ r.Kind = 3) (h4 : ¬ r.Kind = 4) : recOf r = ⟨r.Kind, r.Seq, ⟨#[]⟩, 0, 0, 0, [], [], []⟩ := by rw [recOf, if_neg h, if_neg h2, if_neg h3, if_neg h4]
theorem recOf_ok {r : Rec} (h : r.Ok) : (recOf r).Ok := by
  unfold Rec.Ok I64ok at h ⊢
  unfold recOf
  have : (⟨#[]⟩ : ByteArray).size ≤ maxLen := Nat.zero_le _
  split
  · simp only; omega
  · split
    · simp only; omega
    · split
      · simp only; omega
      · split
        · simp only; omega
        · simp only; omega
end Go.Wk
namespace Go.Wk
section
variable {s : Shape} {r : Rec}
theorem recF_kind (h : ins r.Kind 1 4 = false) : recF s r = 5 := by rw [recF, if_neg (by simp [h])]
theorem recF_seq (h : ins r.Kind 1 4 = true) (h2 : ins r.Seq 1 1000000000 = false) : recF s r = 3 := by rw [recF, if_pos h, if_neg (by simp [h2])]
theorem recF_bad (h : ins r.Kind 1 4 = true) (h2 : ins r.Seq 1 1000000000 = true) (h3 : kindF s r ≠ 0) : recF s r = kindF s r := by rw [recF, if_pos h, if_pos h2, if_pos h3]
theorem recF_form (h : ins r.Kind 1 4 = true) (h2 : ins r.Seq 1 1000000000 = true) (h3 : kindF s r = 0) (h4 : bareOK r = false) : recF s r = 1 := by rw [recF, if_pos h, if_pos h2, if_neg (by omega), if_neg (by simp [h4])]
theorem recF_ok (h : ins r.Kind 1 4 = true) (h2 : ins r.Seq 1 1000000000 = true) (h3 : kindF s r = 0) (h4 : bareOK r = true) : recF s r = 0 := by rw [recF, if_pos h, if_pos h2, if_neg (by omega), if_pos h4]
theorem kindF_item (h : r.Kind = 1) : kindF s r = itemF s r := by rw [kindF, if_pos h]; rfl
theorem kindF_share (h : r.Kind = 4) : kindF s r = if shareOK s r = true then 0 else 3 := by rw [kindF, if_neg (by omega), if_neg (by omega), if_neg (by omega)]
theorem kindF_done_no (h : r.Kind = 3) (h2 : ins r.Group 0 (s.Groups + s.Column - 1) = false) : kindF s r = 3 := by rw [kindF, if_neg (by omega), if_neg (by omega), if_pos h, if_neg (by simp [h2])]
theorem kindF_done_ok (h : r.Kind = 3) (h2 : ins r.Group 0 (s.Groups + s.Column - 1) = true) : kindF s r = 0 := by rw [kindF, if_neg (by omega), if_neg (by omega), if_pos h, if_pos h2]
theorem kindF_move_no (h : r.Kind = 2) (h2 : moveOK s r = false) : kindF s r = 3 := by rw [kindF, if_neg (by omega), if_pos h, if_neg (by simp [h2])]
theorem kindF_move_ok (h : r.Kind = 2) (h2 : moveOK s r = true) : kindF s r = 0 := by rw [kindF, if_neg (by omega), if_pos h, if_pos h2]
end
end Go.Wk
namespace Go.Wk
section
variable {P : Program} {n : Nat} {c : Code} {Q : Post} {L : Env} {w w0 : World} {M : Nat → Prop} {Δ F : List Rsc}
theorem set_getD {Δ : List Rsc} {i : Nat} {r : Rsc} (h : Δ[i]? = some r) : Δ.set i r = Δ := by
  apply List.ext_getElem?
  intro j
  rw [List.getElem?_set]
  split
  · rename_i e; subst e
    obtain ⟨hl, _⟩ := List.getElem?_eq_some_iff.1 h
    rw [if_pos hl, h]
  · rfl
/-- A loop that makes a list grow; the list is in slot t. -/
theorem W_loopA {α : Type} [Rp α] {γ : Type} {v0 : Value} {fp0 : List Nat} (f : γ → List α) (g0 : γ) (H : Sep M w0 Δ F w) (i : Nat) (hi : Δ[i]? = some (mine [v0] (f g0) fp0)) (t : Nat) (ht : look L t = some v0)
    (E2 : Env) (h2 : sub L E2) (E : γ → Env) (I : γ → Prop) (μ : γ → Nat) (hs : sub L (E g0)) (h0 : I g0)
    (round : ∀ g v fp w, Sep M w0 (Δ.set i (mine [v] (f g) fp)) F w → I g → W P n c (again (fun x : γ × Value × List Nat => (t, x.2.1) :: (E x.1 ++ E2)) (fun x w' => Sep M w0 (Δ.set i (mine [x.2.1] (f x.1) x.2.2)) F w' ∧ I x.1) (fun x => μ x.1) (g, v, fp) Q) ((t, v) :: (E g ++ E2)) w) : W P n (.loop c) Q L w :=
  W_loop (fun x : γ × Value × List Nat => (t, x.2.1) :: (E x.1 ++ E2)) (fun x w' => Sep M w0 (Δ.set i (mine [x.2.1] (f x.1) x.2.2)) F w' ∧ I x.1) (fun x => μ x.1) (g0, v0, fp0) ⟨ht, sub_append hs h2⟩ ⟨by rw [set_getD hi]; exact H, h0⟩ fun x w h => round x.1 x.2.1 x.2.2 w h.1 h.2
end
end Go.Wk
