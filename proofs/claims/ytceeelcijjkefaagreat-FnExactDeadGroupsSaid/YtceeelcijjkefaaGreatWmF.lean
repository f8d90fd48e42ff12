/-
  Marks on worlds: what a marked thing is. No program is named here.
-/
import Derived.Test.YtceeelcijjkefaaGreatWmE
set_option linter.unusedVariables false
set_option linter.unusedSimpArgs false
namespace Go.Wk
open Rp (sz own)
/-- The text of a number. -/
def digits : Nat → Nat → ByteArray → ByteArray
  | 0, _, out => out
  | f + 1, k, out => if k = 0 then out else digits f (k / 10) (strB [UInt8.ofNat (48 + k % 10)] ++ out)
def mText (k : Int) : ByteArray := if k ≤ 0 then ⟨#[109, 48]⟩ else ⟨#[109]⟩ ++ digits 30 k.toNat ⟨#[]⟩
section
variable {α : Type} [Inhabited α]
def MkL (P : α → Int → Prop) (c : α → Nat) (xs : List α) (k : Int) : Prop := ∀ i, i < xs.length → P (xs.getD i default) (k + sumN (fun i => c (xs.getD i default)) i)
/-- The first i are marked. -/
def MkInv (P : α → Int → Prop) (c : α → Nat) (xs : List α) (k : Int) (i : Nat) (ys : List α) : Prop :=
  i ≤ xs.length ∧ ys.length = xs.length ∧ (∀ j, c (ys.getD j default) = c (xs.getD j default)) ∧ (∀ j, j < i → P (ys.getD j default) (k + sumN (fun i => c (xs.getD i default)) j)) ∧ (∀ j, i ≤ j → ys.getD j default = xs.getD j default)
variable {P : α → Int → Prop} {c : α → Nat} {xs ys : List α} {k : Int} {i : Nat} {e : α}
theorem mk_begin : MkInv P c xs k 0 xs := ⟨Nat.zero_le _, rfl, fun _ => rfl, fun j hj => by omega, fun _ _ => rfl⟩
theorem mk_step (h : MkInv P c xs k i ys) (hi : i < xs.length) (hc : c e = c (xs.getD i default)) (hP : P e (k + sumN (fun i => c (xs.getD i default)) i)) : MkInv P c xs k (i + 1) (ys.set i e) := by
  obtain ⟨h1, h2, h3, h4, h5⟩ := h
  refine ⟨by omega, by rw [List.length_set]; exact h2, fun j => ?_, fun j hj => ?_, fun j hj => ?_⟩
  · rw [getD_set]
    split
    · rename_i h; rw [hc, h.1]
    · exact h3 j
  · rw [getD_set]
    split
    · rename_i h; rw [h.1]; exact hP
    · rename_i h; exact h4 j (by omega)
  · rw [getD_set, if_neg (by omega)]; exact h5 j (by omega)
theorem mk_end (h : MkInv P c xs k xs.length ys) : ys.length = xs.length ∧ mkL c ys = mkL c xs ∧ MkL P c ys k := by
  obtain ⟨h1, h2, h3, h4, h5⟩ := h
  have e : (fun i => c (ys.getD i default)) = fun i => c (xs.getD i default) := funext h3
  refine ⟨h2, by unfold mkL; rw [e, h2], fun i hi => ?_⟩
  rw [e]; exact h4 i (by omega)
theorem mk_at (h : MkInv P c xs k i ys) : ys.getD i default = xs.getD i default := h.2.2.2.2 i (Nat.le_refl _)
theorem mkL_at (h : i < xs.length) : sumN (fun i => c (xs.getD i default)) (i + 1) = sumN (fun i => c (xs.getD i default)) i + c (xs.getD i default) ∧ sumN (fun i => c (xs.getD i default)) (i + 1) ≤ mkL c xs := ⟨rfl, sumN_le h⟩
theorem mkL_le' (h : i ≤ xs.length) : sumN (fun i => c (xs.getD i default)) i ≤ mkL c xs := sumN_le h
end
def MkBlock (b : Block) (k : Int) : Prop := b.Stamp = k ∧ MarkB b.Bytes (k + 1)
def MkDrive (d : Drive) (k : Int) : Prop := d.Wiped = decide (k.tmod 3 = 0) ∧ MkL MkBlock mkBlock d.Blocks (k + 1)
def MkRec (r : Rec) (k : Int) : Prop := r.Kind = k ∧ r.Seq = k + 1 ∧ r.Name = mText (k + 2) ∧ r.Length = k + 3 ∧ r.Group = k + 4 ∧ r.Row = k + 5 ∧ MarkI r.Rows (k + 6) ∧ MarkB r.Data (k + 6 + r.Rows.length) ∧ MarkB r.Delta (k + 6 + r.Rows.length + r.Data.length)
def MkTape (t : Tape) (k : Int) : Prop := t.Wiped = decide (k.tmod 3 = 0) ∧ MkL MkRec mkRec t.Recs (k + 1)
def MkWld (z : Wld) (k : Int) : Prop := MkL (MkL MkDrive mkDrive) (mkL mkDrive) z.Groups k ∧ MarkI z.On (k + mkL (mkL mkDrive) z.Groups) ∧ MkL MkTape mkTape z.Tapes (k + mkL (mkL mkDrive) z.Groups + z.On.length)
end Go.Wk
namespace Go.Wk
theorem eqStr {a b : ByteArray} (h : a = b) : some (Value.string a) = some (Value.string b) := by rw [h]
theorem digits_zero : ∀ f out, digits f 0 out = out
  | 0, _ => rfl
  | _ + 1, _ => by rw [digits, if_pos rfl]
theorem digits_step {f m : Nat} {out : ByteArray} (h : 0 < m) : digits (f + 1) m out = digits f (m / 10) (strB [UInt8.ofNat (48 + m % 10)] ++ out) := by rw [digits, if_neg (by omega)]
end Go.Wk
namespace Go.Wk
section
variable {M : Nat → Prop} {w0 w : World} {Δ F : List Rsc} {α : Type} [Rp α]
theorem Sep.litW (h : Sep M w0 Δ F w) (i : Nat) {b : Nat} {T : TypeId} {v : Value} {u : α} (hi : Δ[i]? = some (Wk.box b (.cells [v].toArray T))) (h0 : Rp.own true w [v] u []) : Sep M w0 (Δ.set i (Wk.mine [.slice (some ⟨b, 0, none⟩) 1 1] [u] [b])) F w :=
  h.conv i (Wk.mine [.slice (some ⟨b, 0, none⟩) 1 1] [u] [b]) hi (.inr (.inr ⟨b, 0, 1, [v].toArray, T, (0, 0), [], by simp, by simp, h.box i hi, fun _ => rfl, by simp, by simp [maxLen], by have := Rp.len h0; simp at this; simp [← this], by
    have hl := Rp.len h0
    refine ⟨[], [], rfl, ?_, rfl⟩
    have e : Rp.sz α = 1 := by simpa using hl.symm
    rw [e]; exact h0⟩)) (fun b hb => hb) (by simp [Wk.mine])
end
end Go.Wk
namespace Go.Wk
theorem digits_bd {k : Int} (h : k ≤ 4611686018427388904) : k.toNat < 10 ^ 30 := Nat.lt_of_le_of_lt (show k.toNat ≤ 4611686018427388904 by omega) (by decide)
theorem dig_eq {m : Nat} : strB [u8Of (48 + (m : Int).tmod 10)] = strB [UInt8.ofNat (48 + m % 10)] := by
  have e : ((48 + (m : Int).tmod 10) % 256).toNat = 48 + m % 10 := by
    rw [Int.tmod_eq_emod_of_nonneg (by omega)]; omega
  unfold u8Of; rw [e]
end Go.Wk
namespace Go.Wk
section
open Rp (own sz)
variable {w w' : World} {x : Wld} {A9 A10 A11 : Option Addr} {C9 C10 C11 : Nat} {fp : List Nat}
theorem Wld.mkOut {F : List Rsc} {y9 : List (List Drive)} {y10 : List Int} {y11 : List Tape} {f9 f10 f11 : List Nat} {k : Int} (ok : x.Ok) (h : Sep (· ∈ fp) w [gone, mine [.slice A9 x.Groups.length C9] y9 f9, mine [.slice A10 x.On.length C10] y10 f10, mine [.slice A11 x.Tapes.length C11] y11 f11] F w')
    (h9 : y9.length = x.Groups.length ∧ mkL (mkL mkDrive) y9 = mkL (mkL mkDrive) x.Groups ∧ MkL (MkL MkDrive mkDrive) (mkL mkDrive) y9 k) (l10 : y10.length = x.On.length) (h10 : MarkI y10 (k + mkL (mkL mkDrive) x.Groups))
    (h11 : y11.length = x.Tapes.length ∧ mkL mkTape y11 = mkL mkTape x.Tapes ∧ MkL MkTape mkTape y11 (k + mkL (mkL mkDrive) x.Groups + x.On.length)) :
    ∃ x' : Wld, Mut w w' fp [.int .i64 x.Shape.Groups, .int .i64 x.Shape.Column, .int .i64 x.Shape.Data, .int .i64 x.Shape.Spare, .int .i64 x.Shape.Rows, .int .i64 x.Shape.Cap, .int .i64 x.Shape.Batch, .int .i64 x.Shape.Queue, .int .i64 x.Shape.Stage, .slice A9 x.Groups.length C9, .slice A10 x.On.length C10, .slice A11 x.Tapes.length C11, .int .i64 x.Writes, .int .i64 x.Stop, .bool x.Down] x' ∧
      (x'.Groups.length = x.Groups.length ∧ x'.On.length = x.On.length ∧ x'.Tapes.length = x.Tapes.length ∧ mkWld x' = mkWld x ∧ MkWld x' k ∧ x'.Shape = x.Shape ∧ x'.Writes = x.Writes ∧ x'.Stop = x.Stop ∧ x'.Down = x.Down) :=
  ⟨_, Wld.mutOut ok h h9.1 l10 h11.1, h9.1, l10, h11.1, by unfold mkWld; dsimp only; rw [h9.2.1, l10, h11.2.1], ⟨h9.2.2, by dsimp only; rw [h9.2.1]; exact h10, by dsimp only; rw [h9.2.1, l10]; exact h11.2.2⟩, rfl, rfl, rfl, rfl⟩
end
end Go.Wk
