/-
  The data structures of a world: what their cells stand for. (Printed by a program of mine.)
-/
import Derived.Test.YtceeelcijjkefaaGreatWlA
set_option linter.unusedVariables false
set_option linter.unusedSimpArgs false
namespace Go.Wk
open Rp (sz own)
instance : Inhabited Shape := ⟨⟨0, 0, 0, 0, 0, 0, 0, 0, 0⟩⟩
theorem own_Shape {s w cs} {x : Shape} {fp} (h : own s w cs x fp) : cs = [.int .i64 x.Groups, .int .i64 x.Column, .int .i64 x.Data, .int .i64 x.Spare, .int .i64 x.Rows, .int .i64 x.Cap, .int .i64 x.Batch, .int .i64 x.Queue, .int .i64 x.Stage] ∧ fp = [] ∧ x.Ok := by
  obtain ⟨_, _, _, _, rfl, e0, h0, k0⟩ := own_pair h
  obtain ⟨rfl, rfl, i0⟩ := own_int h0
  obtain ⟨_, _, _, _, rfl, e1, h1, k1⟩ := own_pair k0
  obtain ⟨rfl, rfl, i1⟩ := own_int h1
  obtain ⟨_, _, _, _, rfl, e2, h2, k2⟩ := own_pair k1
  obtain ⟨rfl, rfl, i2⟩ := own_int h2
  obtain ⟨_, _, _, _, rfl, e3, h3, k3⟩ := own_pair k2
  obtain ⟨rfl, rfl, i3⟩ := own_int h3
  obtain ⟨_, _, _, _, rfl, e4, h4, k4⟩ := own_pair k3
  obtain ⟨rfl, rfl, i4⟩ := own_int h4
  obtain ⟨_, _, _, _, rfl, e5, h5, k5⟩ := own_pair k4
  obtain ⟨rfl, rfl, i5⟩ := own_int h5
  obtain ⟨_, _, _, _, rfl, e6, h6, k6⟩ := own_pair k5
  obtain ⟨rfl, rfl, i6⟩ := own_int h6
  obtain ⟨_, _, _, _, rfl, e7, h7, k7⟩ := own_pair k6
  obtain ⟨rfl, rfl, i7⟩ := own_int h7
  obtain ⟨rfl, rfl, i8⟩ := own_int k7
  exact ⟨rfl, by subst_vars; simp, ⟨i0, i1, i2, i3, i4, i5, i6, i7, i8⟩⟩
theorem Shape.own_mk {s : Bool} {w : World} {x : Shape} (ok : x.Ok) : own s w [.int .i64 x.Groups, .int .i64 x.Column, .int .i64 x.Data, .int .i64 x.Spare, .int .i64 x.Rows, .int .i64 x.Cap, .int .i64 x.Batch, .int .i64 x.Queue, .int .i64 x.Stage] x ([]) := by
  obtain ⟨i0, i1, i2, i3, i4, i5, i6, i7, i8⟩ := ok
  have h : own s w _ (x.Groups, x.Column, x.Data, x.Spare, x.Rows, x.Cap, x.Batch, x.Queue, x.Stage) _ := (own_two (own_mki i0) (own_two (own_mki i1) (own_two (own_mki i2) (own_two (own_mki i3) (own_two (own_mki i4) (own_two (own_mki i5) (own_two (own_mki i6) (own_two (own_mki i7) (own_mki i8)))))))))
  refine own_fp h ?_
  simp
theorem own_zShape {w : World} : own true w [.int .i64 0, .int .i64 0, .int .i64 0, .int .i64 0, .int .i64 0, .int .i64 0, .int .i64 0, .int .i64 0, .int .i64 0] (default : Shape) [] := own_fp (Shape.own_mk (s := true) (x := (default : Shape)) ⟨(show I64ok 0 by unfold I64ok; omega), (show I64ok 0 by unfold I64ok; omega), (show I64ok 0 by unfold I64ok; omega), (show I64ok 0 by unfold I64ok; omega), (show I64ok 0 by unfold I64ok; omega), (show I64ok 0 by unfold I64ok; omega), (show I64ok 0 by unfold I64ok; omega), (show I64ok 0 by unfold I64ok; omega), (show I64ok 0 by unfold I64ok; omega)⟩) (by first | rfl | simp)
theorem own_zRec {w : World} : own true w [.int .i64 0, .int .i64 0, .string ⟨#[]⟩, .int .i64 0, .int .i64 0, .int .i64 0, .slice none 0 0, .slice none 0 0, .slice none 0 0] (default : Rec) [] := own_fp (Rec.own_mk (s := true) (x := (default : Rec)) ⟨(show I64ok 0 by unfold I64ok; omega), (show I64ok 0 by unfold I64ok; omega), (show (0 : Nat) ≤ maxLen from Nat.zero_le _), (show I64ok 0 by unfold I64ok; omega), (show I64ok 0 by unfold I64ok; omega), (show I64ok 0 by unfold I64ok; omega)⟩ (.inr (.inl ⟨rfl, rfl, rfl⟩)) (.inr (.inl ⟨rfl, rfl, rfl⟩)) (.inr (.inl ⟨rfl, rfl, rfl⟩))) (by first | rfl | simp)
theorem Rec.see6 {s : Bool} {w : World} {x : Rec} {A6 : Option Addr} {C6 : Nat} {A7 : Option Addr} {C7 : Nat} {A8 : Option Addr} {C8 : Nat} {fp : List Nat} (h : own s w [.int .i64 x.Kind, .int .i64 x.Seq, .string x.Name, .int .i64 x.Length, .int .i64 x.Group, .int .i64 x.Row, .slice A6 x.Rows.length C6, .slice A7 x.Data.length C7, .slice A8 x.Delta.length C8] x fp) : Sees w [.slice A6 x.Rows.length C6] x.Rows := by
  obtain ⟨_, _, _, _, _, o, _, _⟩ := own_RecC h
  exact ⟨_, own_weak o⟩
theorem Rec.see7 {s : Bool} {w : World} {x : Rec} {A6 : Option Addr} {C6 : Nat} {A7 : Option Addr} {C7 : Nat} {A8 : Option Addr} {C8 : Nat} {fp : List Nat} (h : own s w [.int .i64 x.Kind, .int .i64 x.Seq, .string x.Name, .int .i64 x.Length, .int .i64 x.Group, .int .i64 x.Row, .slice A6 x.Rows.length C6, .slice A7 x.Data.length C7, .slice A8 x.Delta.length C8] x fp) : Sees w [.slice A7 x.Data.length C7] x.Data := by
  obtain ⟨_, _, _, _, _, _, o, _⟩ := own_RecC h
  exact ⟨_, own_weak o⟩
theorem Rec.see8 {s : Bool} {w : World} {x : Rec} {A6 : Option Addr} {C6 : Nat} {A7 : Option Addr} {C7 : Nat} {A8 : Option Addr} {C8 : Nat} {fp : List Nat} (h : own s w [.int .i64 x.Kind, .int .i64 x.Seq, .string x.Name, .int .i64 x.Length, .int .i64 x.Group, .int .i64 x.Row, .slice A6 x.Rows.length C6, .slice A7 x.Data.length C7, .slice A8 x.Delta.length C8] x fp) : Sees w [.slice A8 x.Delta.length C8] x.Delta := by
  obtain ⟨_, _, _, _, _, _, _, o⟩ := own_RecC h
  exact ⟨_, own_weak o⟩
theorem Rec.mutOut {w w' : World} {fp : List Nat} {x : Rec} {A6 : Option Addr} {C6 : Nat} {A7 : Option Addr} {C7 : Nat} {A8 : Option Addr} {C8 : Nat} {y6 : List Int} {y7 : List UInt8} {y8 : List UInt8} {f6 : List Nat} {f7 : List Nat} {f8 : List Nat} {F : List Rsc} (ok : x.Ok) (h : Sep (· ∈ fp) w [gone, mine [.slice A6 x.Rows.length C6] y6 f6, mine [.slice A7 x.Data.length C7] y7 f7, mine [.slice A8 x.Delta.length C8] y8 f8] F w') (l6 : y6.length = x.Rows.length) (l7 : y7.length = x.Data.length) (l8 : y8.length = x.Delta.length) : Mut w w' fp [.int .i64 x.Kind, .int .i64 x.Seq, .string x.Name, .int .i64 x.Length, .int .i64 x.Group, .int .i64 x.Row, .slice A6 x.Rows.length C6, .slice A7 x.Data.length C7, .slice A8 x.Delta.length C8] (⟨x.Kind, x.Seq, x.Name, x.Length, x.Group, x.Row, y6, y7, y8⟩ : Rec) := by
  have o6 := h.mine 1 rfl
  rw [← l6] at o6
  have o7 := h.mine 2 rfl
  rw [← l7] at o7
  have o8 := h.mine 3 rfl
  rw [← l8] at o8
  have hh := Rec.own_mk (x := (⟨x.Kind, x.Seq, x.Name, x.Length, x.Group, x.Row, y6, y7, y8⟩ : Rec)) ok o6 o7 o8
  dsimp only at hh
  rw [l6, l7, l8] at hh
  exact ⟨h.ext, _, hh, (by have := h.nd; simpa [blocks, mine, gone] using this), fun b hb => h.new b (by simpa [blocks, mine, gone] using hb)⟩
theorem BytesResult.see1 {s : Bool} {w : World} {x : BytesResult} {A1 : Option Addr} {C1 : Nat} {fp : List Nat} (h : own s w [.int .i64 x.Code, .slice A1 x.Bytes.length C1] x fp) : Sees w [.slice A1 x.Bytes.length C1] x.Bytes := by
  obtain ⟨_, _, _, o⟩ := own_BytesResultC h
  exact ⟨_, own_weak o⟩
theorem BytesResult.mutOut {w w' : World} {fp : List Nat} {x : BytesResult} {A1 : Option Addr} {C1 : Nat} {y1 : List UInt8} {f1 : List Nat} {F : List Rsc} (ok : x.Ok) (h : Sep (· ∈ fp) w [gone, mine [.slice A1 x.Bytes.length C1] y1 f1] F w') (l1 : y1.length = x.Bytes.length) : Mut w w' fp [.int .i64 x.Code, .slice A1 x.Bytes.length C1] (⟨x.Code, y1⟩ : BytesResult) := by
  have o1 := h.mine 1 rfl
  rw [← l1] at o1
  have hh := BytesResult.own_mk (x := (⟨x.Code, y1⟩ : BytesResult)) ok o1
  dsimp only at hh
  rw [l1] at hh
  exact ⟨h.ext, _, hh, (by have := h.nd; simpa [blocks, mine, gone] using this), fun b hb => h.new b (by simpa [blocks, mine, gone] using hb)⟩
structure Block where
  Stamp : Int
  Bytes : List UInt8
instance : Rp Block := Rp.via fun x => (x.Stamp, x.Bytes)
noncomputable instance : DecidableEq Block := fun _ _ => Classical.propDecidable _
instance : Inhabited Block := ⟨⟨0, []⟩⟩
def Block.val (x : Block) (A1 : Option Addr) (C1 : Nat) : Value := .agg #[.int .i64 x.Stamp, .slice A1 x.Bytes.length C1]
def Block.Ok (x : Block) : Prop := I64ok x.Stamp
theorem own_Block {s w cs} {x : Block} {fp} (h : own s w cs x fp) : ∃ (A1 : Option Addr) (C1 : Nat) (f1 : List Nat) , cs = [.int .i64 x.Stamp, .slice A1 x.Bytes.length C1] ∧ fp = f1 ∧ x.Ok ∧ own s w [.slice A1 x.Bytes.length C1] x.Bytes f1 := by
  obtain ⟨_, _, _, _, rfl, e0, h0, k0⟩ := own_pair h
  obtain ⟨rfl, rfl, i0⟩ := own_int h0
  obtain ⟨A1, C1, rfl⟩ := own_slice k0
  exact ⟨A1, C1, _, rfl, by subst_vars; simp, i0, k0⟩
theorem own_BlockC {s w A1 C1} {x : Block} {fp} (h : own s w [.int .i64 x.Stamp, .slice A1 x.Bytes.length C1] x fp) : ∃ (f1 : List Nat), fp = f1 ∧ x.Ok ∧ own s w [.slice A1 x.Bytes.length C1] x.Bytes f1 := by
  obtain ⟨_, _, f1, e, ef, ok, o1⟩ := own_Block h
  simp only [List.cons.injEq, Value.slice.injEq, and_true, true_and] at e
  obtain ⟨rfl, rfl⟩ := e
  exact ⟨f1, ef, ok, o1⟩
theorem Block.own_mk {s : Bool} {w : World} {x : Block} {A1 : Option Addr} {C1 : Nat} {f1 : List Nat} (ok : x.Ok) (o1 : own s w [.slice A1 x.Bytes.length C1] x.Bytes f1) : own s w [.int .i64 x.Stamp, .slice A1 x.Bytes.length C1] x (f1) := by
  have i0 := ok
  have h : own s w _ (x.Stamp, x.Bytes) _ := (own_two (own_mki i0) o1)
  refine own_fp h ?_
  simp
theorem Block.sees {w : World} {x : Block} {A1 : Option Addr} {C1 : Nat} (ok : x.Ok) (o1 : Sees w [.slice A1 x.Bytes.length C1] x.Bytes) : Sees w [.int .i64 x.Stamp, .slice A1 x.Bytes.length C1] x := by
  obtain ⟨f1, o1⟩ := o1
  exact ⟨_, Block.own_mk ok o1⟩
theorem Block.out {w0 w : World} {F : List Rsc} {x : Block} {A1 : Option Addr} {C1 : Nat} {f1 : List Nat} (h : Sep No w0 [mine [.slice A1 x.Bytes.length C1] x.Bytes f1] F w) (ok : x.Ok) : Res w0 w [.int .i64 x.Stamp, .slice A1 x.Bytes.length C1] x :=
  ⟨_, Block.own_mk ok (h.mine 0 rfl), by have := h.nd; simpa [blocks, mine] using this, fun b hb => (h.new b (by simpa [blocks, mine] using hb)).resolve_left id⟩
theorem Block.see1 {s : Bool} {w : World} {x : Block} {A1 : Option Addr} {C1 : Nat} {fp : List Nat} (h : own s w [.int .i64 x.Stamp, .slice A1 x.Bytes.length C1] x fp) : Sees w [.slice A1 x.Bytes.length C1] x.Bytes := by
  obtain ⟨_, _, _, o⟩ := own_BlockC h
  exact ⟨_, own_weak o⟩
theorem Block.mutOut {w w' : World} {fp : List Nat} {x : Block} {A1 : Option Addr} {C1 : Nat} {y1 : List UInt8} {f1 : List Nat} {F : List Rsc} (ok : x.Ok) (h : Sep (· ∈ fp) w [gone, mine [.slice A1 x.Bytes.length C1] y1 f1] F w') (l1 : y1.length = x.Bytes.length) : Mut w w' fp [.int .i64 x.Stamp, .slice A1 x.Bytes.length C1] (⟨x.Stamp, y1⟩ : Block) := by
  have o1 := h.mine 1 rfl
  rw [← l1] at o1
  have hh := Block.own_mk (x := (⟨x.Stamp, y1⟩ : Block)) ok o1
  dsimp only at hh
  rw [l1] at hh
  exact ⟨h.ext, _, hh, (by have := h.nd; simpa [blocks, mine, gone] using this), fun b hb => h.new b (by simpa [blocks, mine, gone] using hb)⟩
theorem own_zBlock {w : World} : own true w [.int .i64 0, .slice none 0 0] (default : Block) [] := own_fp (Block.own_mk (s := true) (x := (default : Block)) (show I64ok 0 by unfold I64ok; omega) (.inr (.inl ⟨rfl, rfl, rfl⟩))) (by first | rfl | simp)
structure Drive where
  Wiped : Bool
  Blocks : List Block
instance : Rp Drive := Rp.via fun x => (x.Wiped, x.Blocks)
noncomputable instance : DecidableEq Drive := fun _ _ => Classical.propDecidable _
instance : Inhabited Drive := ⟨⟨false, []⟩⟩
def Drive.val (x : Drive) (A1 : Option Addr) (C1 : Nat) : Value := .agg #[.bool x.Wiped, .slice A1 x.Blocks.length C1]
def Drive.Ok (x : Drive) : Prop := True
theorem own_Drive {s w cs} {x : Drive} {fp} (h : own s w cs x fp) : ∃ (A1 : Option Addr) (C1 : Nat) (f1 : List Nat) , cs = [.bool x.Wiped, .slice A1 x.Blocks.length C1] ∧ fp = f1 ∧ x.Ok ∧ own s w [.slice A1 x.Blocks.length C1] x.Blocks f1 := by
  obtain ⟨_, _, _, _, rfl, e0, h0, k0⟩ := own_pair h
  obtain ⟨rfl, rfl⟩ := h0
  obtain ⟨A1, C1, rfl⟩ := own_slice k0
  exact ⟨A1, C1, _, rfl, by subst_vars; simp, trivial, k0⟩
theorem own_DriveC {s w A1 C1} {x : Drive} {fp} (h : own s w [.bool x.Wiped, .slice A1 x.Blocks.length C1] x fp) : ∃ (f1 : List Nat), fp = f1 ∧ x.Ok ∧ own s w [.slice A1 x.Blocks.length C1] x.Blocks f1 := by
  obtain ⟨_, _, f1, e, ef, ok, o1⟩ := own_Drive h
  simp only [List.cons.injEq, Value.slice.injEq, and_true, true_and] at e
  obtain ⟨rfl, rfl⟩ := e
  exact ⟨f1, ef, ok, o1⟩
theorem Drive.own_mk {s : Bool} {w : World} {x : Drive} {A1 : Option Addr} {C1 : Nat} {f1 : List Nat} (ok : x.Ok) (o1 : own s w [.slice A1 x.Blocks.length C1] x.Blocks f1) : own s w [.bool x.Wiped, .slice A1 x.Blocks.length C1] x (f1) := by
  have h : own s w _ (x.Wiped, x.Blocks) _ := (own_two own_mkb o1)
  refine own_fp h ?_
  simp
theorem Drive.sees {w : World} {x : Drive} {A1 : Option Addr} {C1 : Nat} (ok : x.Ok) (o1 : Sees w [.slice A1 x.Blocks.length C1] x.Blocks) : Sees w [.bool x.Wiped, .slice A1 x.Blocks.length C1] x := by
  obtain ⟨f1, o1⟩ := o1
  exact ⟨_, Drive.own_mk ok o1⟩
theorem Drive.out {w0 w : World} {F : List Rsc} {x : Drive} {A1 : Option Addr} {C1 : Nat} {f1 : List Nat} (h : Sep No w0 [mine [.slice A1 x.Blocks.length C1] x.Blocks f1] F w) (ok : x.Ok) : Res w0 w [.bool x.Wiped, .slice A1 x.Blocks.length C1] x :=
  ⟨_, Drive.own_mk ok (h.mine 0 rfl), by have := h.nd; simpa [blocks, mine] using this, fun b hb => (h.new b (by simpa [blocks, mine] using hb)).resolve_left id⟩
theorem Drive.see1 {s : Bool} {w : World} {x : Drive} {A1 : Option Addr} {C1 : Nat} {fp : List Nat} (h : own s w [.bool x.Wiped, .slice A1 x.Blocks.length C1] x fp) : Sees w [.slice A1 x.Blocks.length C1] x.Blocks := by
  obtain ⟨_, _, _, o⟩ := own_DriveC h
  exact ⟨_, own_weak o⟩
theorem Drive.mutOut {w w' : World} {fp : List Nat} {x : Drive} {A1 : Option Addr} {C1 : Nat} {y1 : List Block} {f1 : List Nat} {F : List Rsc} (ok : x.Ok) (h : Sep (· ∈ fp) w [gone, mine [.slice A1 x.Blocks.length C1] y1 f1] F w') (l1 : y1.length = x.Blocks.length) : Mut w w' fp [.bool x.Wiped, .slice A1 x.Blocks.length C1] (⟨x.Wiped, y1⟩ : Drive) := by
  have o1 := h.mine 1 rfl
  rw [← l1] at o1
  have hh := Drive.own_mk (x := (⟨x.Wiped, y1⟩ : Drive)) ok o1
  dsimp only at hh
  rw [l1] at hh
  exact ⟨h.ext, _, hh, (by have := h.nd; simpa [blocks, mine, gone] using this), fun b hb => h.new b (by simpa [blocks, mine, gone] using hb)⟩
theorem own_zDrive {w : World} : own true w [.bool false, .slice none 0 0] (default : Drive) [] := own_fp (Drive.own_mk (s := true) (x := (default : Drive)) trivial (.inr (.inl ⟨rfl, rfl, rfl⟩))) (by first | rfl | simp)
structure Tape where
  Wiped : Bool
  Recs : List Rec
instance : Rp Tape := Rp.via fun x => (x.Wiped, x.Recs)
noncomputable instance : DecidableEq Tape := fun _ _ => Classical.propDecidable _
instance : Inhabited Tape := ⟨⟨false, []⟩⟩
def Tape.val (x : Tape) (A1 : Option Addr) (C1 : Nat) : Value := .agg #[.bool x.Wiped, .slice A1 x.Recs.length C1]
def Tape.Ok (x : Tape) : Prop := True
theorem own_Tape {s w cs} {x : Tape} {fp} (h : own s w cs x fp) : ∃ (A1 : Option Addr) (C1 : Nat) (f1 : List Nat) , cs = [.bool x.Wiped, .slice A1 x.Recs.length C1] ∧ fp = f1 ∧ x.Ok ∧ own s w [.slice A1 x.Recs.length C1] x.Recs f1 := by
  obtain ⟨_, _, _, _, rfl, e0, h0, k0⟩ := own_pair h
  obtain ⟨rfl, rfl⟩ := h0
  obtain ⟨A1, C1, rfl⟩ := own_slice k0
  exact ⟨A1, C1, _, rfl, by subst_vars; simp, trivial, k0⟩
theorem own_TapeC {s w A1 C1} {x : Tape} {fp} (h : own s w [.bool x.Wiped, .slice A1 x.Recs.length C1] x fp) : ∃ (f1 : List Nat), fp = f1 ∧ x.Ok ∧ own s w [.slice A1 x.Recs.length C1] x.Recs f1 := by
  obtain ⟨_, _, f1, e, ef, ok, o1⟩ := own_Tape h
  simp only [List.cons.injEq, Value.slice.injEq, and_true, true_and] at e
  obtain ⟨rfl, rfl⟩ := e
  exact ⟨f1, ef, ok, o1⟩
theorem Tape.own_mk {s : Bool} {w : World} {x : Tape} {A1 : Option Addr} {C1 : Nat} {f1 : List Nat} (ok : x.Ok) (o1 : own s w [.slice A1 x.Recs.length C1] x.Recs f1) : own s w [.bool x.Wiped, .slice A1 x.Recs.length C1] x (f1) := by
  have h : own s w _ (x.Wiped, x.Recs) _ := (own_two own_mkb o1)
  refine own_fp h ?_
  simp
theorem Tape.sees {w : World} {x : Tape} {A1 : Option Addr} {C1 : Nat} (ok : x.Ok) (o1 : Sees w [.slice A1 x.Recs.length C1] x.Recs) : Sees w [.bool x.Wiped, .slice A1 x.Recs.length C1] x := by
  obtain ⟨f1, o1⟩ := o1
  exact ⟨_, Tape.own_mk ok o1⟩
theorem Tape.out {w0 w : World} {F : List Rsc} {x : Tape} {A1 : Option Addr} {C1 : Nat} {f1 : List Nat} (h : Sep No w0 [mine [.slice A1 x.Recs.length C1] x.Recs f1] F w) (ok : x.Ok) : Res w0 w [.bool x.Wiped, .slice A1 x.Recs.length C1] x :=
  ⟨_, Tape.own_mk ok (h.mine 0 rfl), by have := h.nd; simpa [blocks, mine] using this, fun b hb => (h.new b (by simpa [blocks, mine] using hb)).resolve_left id⟩
theorem Tape.see1 {s : Bool} {w : World} {x : Tape} {A1 : Option Addr} {C1 : Nat} {fp : List Nat} (h : own s w [.bool x.Wiped, .slice A1 x.Recs.length C1] x fp) : Sees w [.slice A1 x.Recs.length C1] x.Recs := by
  obtain ⟨_, _, _, o⟩ := own_TapeC h
  exact ⟨_, own_weak o⟩
theorem Tape.mutOut {w w' : World} {fp : List Nat} {x : Tape} {A1 : Option Addr} {C1 : Nat} {y1 : List Rec} {f1 : List Nat} {F : List Rsc} (ok : x.Ok) (h : Sep (· ∈ fp) w [gone, mine [.slice A1 x.Recs.length C1] y1 f1] F w') (l1 : y1.length = x.Recs.length) : Mut w w' fp [.bool x.Wiped, .slice A1 x.Recs.length C1] (⟨x.Wiped, y1⟩ : Tape) := by
  have o1 := h.mine 1 rfl
  rw [← l1] at o1
  have hh := Tape.own_mk (x := (⟨x.Wiped, y1⟩ : Tape)) ok o1
  dsimp only at hh
  rw [l1] at hh
  exact ⟨h.ext, _, hh, (by have := h.nd; simpa [blocks, mine, gone] using this), fun b hb => h.new b (by simpa [blocks, mine, gone] using hb)⟩
theorem own_zTape {w : World} : own true w [.bool false, .slice none 0 0] (default : Tape) [] := own_fp (Tape.own_mk (s := true) (x := (default : Tape)) trivial (.inr (.inl ⟨rfl, rfl, rfl⟩))) (by first | rfl | simp)
structure Wld where
  Shape : Shape
  Groups : List (List Drive)
  On : List Int
  Tapes : List Tape
  Writes : Int
  Stop : Int
  Down : Bool
instance : Rp Wld := Rp.via fun x => (x.Shape, x.Groups, x.On, x.Tapes, x.Writes, x.Stop, x.Down)
noncomputable instance : DecidableEq Wld := fun _ _ => Classical.propDecidable _
instance : Inhabited Wld := ⟨⟨default, [], [], [], 0, 0, false⟩⟩
def Wld.val (x : Wld) (A9 : Option Addr) (C9 : Nat) (A10 : Option Addr) (C10 : Nat) (A11 : Option Addr) (C11 : Nat) : Value := .agg #[.int .i64 x.Shape.Groups, .int .i64 x.Shape.Column, .int .i64 x.Shape.Data, .int .i64 x.Shape.Spare, .int .i64 x.Shape.Rows, .int .i64 x.Shape.Cap, .int .i64 x.Shape.Batch, .int .i64 x.Shape.Queue, .int .i64 x.Shape.Stage, .slice A9 x.Groups.length C9, .slice A10 x.On.length C10, .slice A11 x.Tapes.length C11, .int .i64 x.Writes, .int .i64 x.Stop, .bool x.Down]
def Wld.Ok (x : Wld) : Prop := x.Shape.Ok ∧ I64ok x.Writes ∧ I64ok x.Stop
theorem own_Wld {s w cs} {x : Wld} {fp} (h : own s w cs x fp) : ∃ (A9 : Option Addr) (C9 : Nat) (A10 : Option Addr) (C10 : Nat) (A11 : Option Addr) (C11 : Nat) (f9 : List Nat) (f10 : List Nat) (f11 : List Nat) , cs = [.int .i64 x.Shape.Groups, .int .i64 x.Shape.Column, .int .i64 x.Shape.Data, .int .i64 x.Shape.Spare, .int .i64 x.Shape.Rows, .int .i64 x.Shape.Cap, .int .i64 x.Shape.Batch, .int .i64 x.Shape.Queue, .int .i64 x.Shape.Stage, .slice A9 x.Groups.length C9, .slice A10 x.On.length C10, .slice A11 x.Tapes.length C11, .int .i64 x.Writes, .int .i64 x.Stop, .bool x.Down] ∧ fp = f9 ++ (f10 ++ (f11)) ∧ x.Ok ∧ own s w [.slice A9 x.Groups.length C9] x.Groups f9 ∧ own s w [.slice A10 x.On.length C10] x.On f10 ∧ own s w [.slice A11 x.Tapes.length C11] x.Tapes f11 := by
  obtain ⟨_, _, _, _, rfl, e0, h0, k0⟩ := own_pair h
  obtain ⟨rfl, rfl, i0⟩ := own_Shape h0
  obtain ⟨_, _, _, _, rfl, e1, h1, k1⟩ := own_pair k0
  obtain ⟨A9, C9, rfl⟩ := own_slice h1
  obtain ⟨_, _, _, _, rfl, e2, h2, k2⟩ := own_pair k1
  obtain ⟨A10, C10, rfl⟩ := own_slice h2
  obtain ⟨_, _, _, _, rfl, e3, h3, k3⟩ := own_pair k2
  obtain ⟨A11, C11, rfl⟩ := own_slice h3
  obtain ⟨_, _, _, _, rfl, e4, h4, k4⟩ := own_pair k3
  obtain ⟨rfl, rfl, i4⟩ := own_int h4
  obtain ⟨_, _, _, _, rfl, e5, h5, k5⟩ := own_pair k4
  obtain ⟨rfl, rfl, i5⟩ := own_int h5
  obtain ⟨rfl, rfl⟩ := k5
  exact ⟨A9, C9, A10, C10, A11, C11, _, _, _, rfl, by subst_vars; simp, ⟨i0, i4, i5⟩, h1, h2, h3⟩
theorem own_WldC {s w A9 C9 A10 C10 A11 C11} {x : Wld} {fp} (h : own s w [.int .i64 x.Shape.Groups, .int .i64 x.Shape.Column, .int .i64 x.Shape.Data, .int .i64 x.Shape.Spare, .int .i64 x.Shape.Rows, .int .i64 x.Shape.Cap, .int .i64 x.Shape.Batch, .int .i64 x.Shape.Queue, .int .i64 x.Shape.Stage, .slice A9 x.Groups.length C9, .slice A10 x.On.length C10, .slice A11 x.Tapes.length C11, .int .i64 x.Writes, .int .i64 x.Stop, .bool x.Down] x fp) : ∃ (f9 : List Nat) (f10 : List Nat) (f11 : List Nat), fp = f9 ++ (f10 ++ (f11)) ∧ x.Ok ∧ own s w [.slice A9 x.Groups.length C9] x.Groups f9 ∧ own s w [.slice A10 x.On.length C10] x.On f10 ∧ own s w [.slice A11 x.Tapes.length C11] x.Tapes f11 := by
  obtain ⟨_, _, _, _, _, _, f9, f10, f11, e, ef, ok, o9, o10, o11⟩ := own_Wld h
  simp only [List.cons.injEq, Value.slice.injEq, and_true, true_and] at e
  obtain ⟨⟨rfl, rfl⟩, ⟨rfl, rfl⟩, ⟨rfl, rfl⟩⟩ := e
  exact ⟨f9, f10, f11, ef, ok, o9, o10, o11⟩
theorem Wld.own_mk {s : Bool} {w : World} {x : Wld} {A9 : Option Addr} {C9 : Nat} {A10 : Option Addr} {C10 : Nat} {A11 : Option Addr} {C11 : Nat} {f9 : List Nat} {f10 : List Nat} {f11 : List Nat} (ok : x.Ok) (o9 : own s w [.slice A9 x.Groups.length C9] x.Groups f9) (o10 : own s w [.slice A10 x.On.length C10] x.On f10) (o11 : own s w [.slice A11 x.Tapes.length C11] x.Tapes f11) : own s w [.int .i64 x.Shape.Groups, .int .i64 x.Shape.Column, .int .i64 x.Shape.Data, .int .i64 x.Shape.Spare, .int .i64 x.Shape.Rows, .int .i64 x.Shape.Cap, .int .i64 x.Shape.Batch, .int .i64 x.Shape.Queue, .int .i64 x.Shape.Stage, .slice A9 x.Groups.length C9, .slice A10 x.On.length C10, .slice A11 x.Tapes.length C11, .int .i64 x.Writes, .int .i64 x.Stop, .bool x.Down] x (f9 ++ (f10 ++ (f11))) := by
  obtain ⟨i0, i4, i5⟩ := ok
  have h : own s w _ (x.Shape, x.Groups, x.On, x.Tapes, x.Writes, x.Stop, x.Down) _ := (own_two (Shape.own_mk (x := x.Shape) i0) (own_two o9 (own_two o10 (own_two o11 (own_two (own_mki i4) (own_two (own_mki i5) own_mkb))))))
  refine own_fp h ?_
  simp
theorem Wld.sees {w : World} {x : Wld} {A9 : Option Addr} {C9 : Nat} {A10 : Option Addr} {C10 : Nat} {A11 : Option Addr} {C11 : Nat} (ok : x.Ok) (o9 : Sees w [.slice A9 x.Groups.length C9] x.Groups) (o10 : Sees w [.slice A10 x.On.length C10] x.On) (o11 : Sees w [.slice A11 x.Tapes.length C11] x.Tapes) : Sees w [.int .i64 x.Shape.Groups, .int .i64 x.Shape.Column, .int .i64 x.Shape.Data, .int .i64 x.Shape.Spare, .int .i64 x.Shape.Rows, .int .i64 x.Shape.Cap, .int .i64 x.Shape.Batch, .int .i64 x.Shape.Queue, .int .i64 x.Shape.Stage, .slice A9 x.Groups.length C9, .slice A10 x.On.length C10, .slice A11 x.Tapes.length C11, .int .i64 x.Writes, .int .i64 x.Stop, .bool x.Down] x := by
  obtain ⟨f9, o9⟩ := o9
  obtain ⟨f10, o10⟩ := o10
  obtain ⟨f11, o11⟩ := o11
  exact ⟨_, Wld.own_mk ok o9 o10 o11⟩
theorem Wld.out {w0 w : World} {F : List Rsc} {x : Wld} {A9 : Option Addr} {C9 : Nat} {A10 : Option Addr} {C10 : Nat} {A11 : Option Addr} {C11 : Nat} {f9 : List Nat} {f10 : List Nat} {f11 : List Nat} (h : Sep No w0 [mine [.slice A9 x.Groups.length C9] x.Groups f9, mine [.slice A10 x.On.length C10] x.On f10, mine [.slice A11 x.Tapes.length C11] x.Tapes f11] F w) (ok : x.Ok) : Res w0 w [.int .i64 x.Shape.Groups, .int .i64 x.Shape.Column, .int .i64 x.Shape.Data, .int .i64 x.Shape.Spare, .int .i64 x.Shape.Rows, .int .i64 x.Shape.Cap, .int .i64 x.Shape.Batch, .int .i64 x.Shape.Queue, .int .i64 x.Shape.Stage, .slice A9 x.Groups.length C9, .slice A10 x.On.length C10, .slice A11 x.Tapes.length C11, .int .i64 x.Writes, .int .i64 x.Stop, .bool x.Down] x :=
  ⟨_, Wld.own_mk ok (h.mine 0 rfl) (h.mine 1 rfl) (h.mine 2 rfl), by have := h.nd; simpa [blocks, mine] using this, fun b hb => (h.new b (by simpa [blocks, mine] using hb)).resolve_left id⟩
theorem Wld.see9 {s : Bool} {w : World} {x : Wld} {A9 : Option Addr} {C9 : Nat} {A10 : Option Addr} {C10 : Nat} {A11 : Option Addr} {C11 : Nat} {fp : List Nat} (h : own s w [.int .i64 x.Shape.Groups, .int .i64 x.Shape.Column, .int .i64 x.Shape.Data, .int .i64 x.Shape.Spare, .int .i64 x.Shape.Rows, .int .i64 x.Shape.Cap, .int .i64 x.Shape.Batch, .int .i64 x.Shape.Queue, .int .i64 x.Shape.Stage, .slice A9 x.Groups.length C9, .slice A10 x.On.length C10, .slice A11 x.Tapes.length C11, .int .i64 x.Writes, .int .i64 x.Stop, .bool x.Down] x fp) : Sees w [.slice A9 x.Groups.length C9] x.Groups := by
  obtain ⟨_, _, _, _, _, o, _, _⟩ := own_WldC h
  exact ⟨_, own_weak o⟩
theorem Wld.see10 {s : Bool} {w : World} {x : Wld} {A9 : Option Addr} {C9 : Nat} {A10 : Option Addr} {C10 : Nat} {A11 : Option Addr} {C11 : Nat} {fp : List Nat} (h : own s w [.int .i64 x.Shape.Groups, .int .i64 x.Shape.Column, .int .i64 x.Shape.Data, .int .i64 x.Shape.Spare, .int .i64 x.Shape.Rows, .int .i64 x.Shape.Cap, .int .i64 x.Shape.Batch, .int .i64 x.Shape.Queue, .int .i64 x.Shape.Stage, .slice A9 x.Groups.length C9, .slice A10 x.On.length C10, .slice A11 x.Tapes.length C11, .int .i64 x.Writes, .int .i64 x.Stop, .bool x.Down] x fp) : Sees w [.slice A10 x.On.length C10] x.On := by
  obtain ⟨_, _, _, _, _, _, o, _⟩ := own_WldC h
  exact ⟨_, own_weak o⟩
theorem Wld.see11 {s : Bool} {w : World} {x : Wld} {A9 : Option Addr} {C9 : Nat} {A10 : Option Addr} {C10 : Nat} {A11 : Option Addr} {C11 : Nat} {fp : List Nat} (h : own s w [.int .i64 x.Shape.Groups, .int .i64 x.Shape.Column, .int .i64 x.Shape.Data, .int .i64 x.Shape.Spare, .int .i64 x.Shape.Rows, .int .i64 x.Shape.Cap, .int .i64 x.Shape.Batch, .int .i64 x.Shape.Queue, .int .i64 x.Shape.Stage, .slice A9 x.Groups.length C9, .slice A10 x.On.length C10, .slice A11 x.Tapes.length C11, .int .i64 x.Writes, .int .i64 x.Stop, .bool x.Down] x fp) : Sees w [.slice A11 x.Tapes.length C11] x.Tapes := by
  obtain ⟨_, _, _, _, _, _, _, o⟩ := own_WldC h
  exact ⟨_, own_weak o⟩
theorem Wld.mutOut {w w' : World} {fp : List Nat} {x : Wld} {A9 : Option Addr} {C9 : Nat} {A10 : Option Addr} {C10 : Nat} {A11 : Option Addr} {C11 : Nat} {y9 : List (List Drive)} {y10 : List Int} {y11 : List Tape} {f9 : List Nat} {f10 : List Nat} {f11 : List Nat} {F : List Rsc} (ok : x.Ok) (h : Sep (· ∈ fp) w [gone, mine [.slice A9 x.Groups.length C9] y9 f9, mine [.slice A10 x.On.length C10] y10 f10, mine [.slice A11 x.Tapes.length C11] y11 f11] F w') (l9 : y9.length = x.Groups.length) (l10 : y10.length = x.On.length) (l11 : y11.length = x.Tapes.length) : Mut w w' fp [.int .i64 x.Shape.Groups, .int .i64 x.Shape.Column, .int .i64 x.Shape.Data, .int .i64 x.Shape.Spare, .int .i64 x.Shape.Rows, .int .i64 x.Shape.Cap, .int .i64 x.Shape.Batch, .int .i64 x.Shape.Queue, .int .i64 x.Shape.Stage, .slice A9 x.Groups.length C9, .slice A10 x.On.length C10, .slice A11 x.Tapes.length C11, .int .i64 x.Writes, .int .i64 x.Stop, .bool x.Down] (⟨⟨x.Shape.Groups, x.Shape.Column, x.Shape.Data, x.Shape.Spare, x.Shape.Rows, x.Shape.Cap, x.Shape.Batch, x.Shape.Queue, x.Shape.Stage⟩, y9, y10, y11, x.Writes, x.Stop, x.Down⟩ : Wld) := by
  have o9 := h.mine 1 rfl
  rw [← l9] at o9
  have o10 := h.mine 2 rfl
  rw [← l10] at o10
  have o11 := h.mine 3 rfl
  rw [← l11] at o11
  have hh := Wld.own_mk (x := (⟨⟨x.Shape.Groups, x.Shape.Column, x.Shape.Data, x.Shape.Spare, x.Shape.Rows, x.Shape.Cap, x.Shape.Batch, x.Shape.Queue, x.Shape.Stage⟩, y9, y10, y11, x.Writes, x.Stop, x.Down⟩ : Wld)) ok o9 o10 o11
  dsimp only at hh
  rw [l9, l10, l11] at hh
  exact ⟨h.ext, _, hh, (by have := h.nd; simpa [blocks, mine, gone] using this), fun b hb => h.new b (by simpa [blocks, mine, gone] using hb)⟩
theorem own_zWld {w : World} : own true w [.int .i64 0, .int .i64 0, .int .i64 0, .int .i64 0, .int .i64 0, .int .i64 0, .int .i64 0, .int .i64 0, .int .i64 0, .slice none 0 0, .slice none 0 0, .slice none 0 0, .int .i64 0, .int .i64 0, .bool false] (default : Wld) [] := own_fp (Wld.own_mk (s := true) (x := (default : Wld)) ⟨⟨(show I64ok 0 by unfold I64ok; omega), (show I64ok 0 by unfold I64ok; omega), (show I64ok 0 by unfold I64ok; omega), (show I64ok 0 by unfold I64ok; omega), (show I64ok 0 by unfold I64ok; omega), (show I64ok 0 by unfold I64ok; omega), (show I64ok 0 by unfold I64ok; omega), (show I64ok 0 by unfold I64ok; omega), (show I64ok 0 by unfold I64ok; omega)⟩, (show I64ok 0 by unfold I64ok; omega), (show I64ok 0 by unfold I64ok; omega)⟩ (.inr (.inl ⟨rfl, rfl, rfl⟩)) (.inr (.inl ⟨rfl, rfl, rfl⟩)) (.inr (.inl ⟨rfl, rfl, rfl⟩))) (by first | rfl | simp)
structure WldResult where
  Code : Int
  Wd : Wld
instance : Rp WldResult := Rp.via fun x => (x.Code, x.Wd)
noncomputable instance : DecidableEq WldResult := fun _ _ => Classical.propDecidable _
instance : Inhabited WldResult := ⟨⟨0, default⟩⟩
def WldResult.val (x : WldResult) (A10 : Option Addr) (C10 : Nat) (A11 : Option Addr) (C11 : Nat) (A12 : Option Addr) (C12 : Nat) : Value := .agg #[.int .i64 x.Code, .int .i64 x.Wd.Shape.Groups, .int .i64 x.Wd.Shape.Column, .int .i64 x.Wd.Shape.Data, .int .i64 x.Wd.Shape.Spare, .int .i64 x.Wd.Shape.Rows, .int .i64 x.Wd.Shape.Cap, .int .i64 x.Wd.Shape.Batch, .int .i64 x.Wd.Shape.Queue, .int .i64 x.Wd.Shape.Stage, .slice A10 x.Wd.Groups.length C10, .slice A11 x.Wd.On.length C11, .slice A12 x.Wd.Tapes.length C12, .int .i64 x.Wd.Writes, .int .i64 x.Wd.Stop, .bool x.Wd.Down]
def WldResult.Ok (x : WldResult) : Prop := I64ok x.Code ∧ x.Wd.Ok
theorem own_WldResult {s w cs} {x : WldResult} {fp} (h : own s w cs x fp) : ∃ (A10 : Option Addr) (C10 : Nat) (A11 : Option Addr) (C11 : Nat) (A12 : Option Addr) (C12 : Nat) (f10 : List Nat) (f11 : List Nat) (f12 : List Nat) , cs = [.int .i64 x.Code, .int .i64 x.Wd.Shape.Groups, .int .i64 x.Wd.Shape.Column, .int .i64 x.Wd.Shape.Data, .int .i64 x.Wd.Shape.Spare, .int .i64 x.Wd.Shape.Rows, .int .i64 x.Wd.Shape.Cap, .int .i64 x.Wd.Shape.Batch, .int .i64 x.Wd.Shape.Queue, .int .i64 x.Wd.Shape.Stage, .slice A10 x.Wd.Groups.length C10, .slice A11 x.Wd.On.length C11, .slice A12 x.Wd.Tapes.length C12, .int .i64 x.Wd.Writes, .int .i64 x.Wd.Stop, .bool x.Wd.Down] ∧ fp = f10 ++ (f11 ++ (f12)) ∧ x.Ok ∧ own s w [.slice A10 x.Wd.Groups.length C10] x.Wd.Groups f10 ∧ own s w [.slice A11 x.Wd.On.length C11] x.Wd.On f11 ∧ own s w [.slice A12 x.Wd.Tapes.length C12] x.Wd.Tapes f12 := by
  obtain ⟨_, _, _, _, rfl, e0, h0, k0⟩ := own_pair h
  obtain ⟨rfl, rfl, i0⟩ := own_int h0
  obtain ⟨A10, C10, A11, C11, A12, C12, g10, g11, g12, rfl, rfl, i1, o10, o11, o12⟩ := own_Wld k0
  exact ⟨A10, C10, A11, C11, A12, C12, _, _, _, rfl, by subst_vars; simp, ⟨i0, i1⟩, o10, o11, o12⟩
theorem own_WldResultC {s w A10 C10 A11 C11 A12 C12} {x : WldResult} {fp} (h : own s w [.int .i64 x.Code, .int .i64 x.Wd.Shape.Groups, .int .i64 x.Wd.Shape.Column, .int .i64 x.Wd.Shape.Data, .int .i64 x.Wd.Shape.Spare, .int .i64 x.Wd.Shape.Rows, .int .i64 x.Wd.Shape.Cap, .int .i64 x.Wd.Shape.Batch, .int .i64 x.Wd.Shape.Queue, .int .i64 x.Wd.Shape.Stage, .slice A10 x.Wd.Groups.length C10, .slice A11 x.Wd.On.length C11, .slice A12 x.Wd.Tapes.length C12, .int .i64 x.Wd.Writes, .int .i64 x.Wd.Stop, .bool x.Wd.Down] x fp) : ∃ (f10 : List Nat) (f11 : List Nat) (f12 : List Nat), fp = f10 ++ (f11 ++ (f12)) ∧ x.Ok ∧ own s w [.slice A10 x.Wd.Groups.length C10] x.Wd.Groups f10 ∧ own s w [.slice A11 x.Wd.On.length C11] x.Wd.On f11 ∧ own s w [.slice A12 x.Wd.Tapes.length C12] x.Wd.Tapes f12 := by
  obtain ⟨_, _, _, _, _, _, f10, f11, f12, e, ef, ok, o10, o11, o12⟩ := own_WldResult h
  simp only [List.cons.injEq, Value.slice.injEq, and_true, true_and] at e
  obtain ⟨⟨rfl, rfl⟩, ⟨rfl, rfl⟩, ⟨rfl, rfl⟩⟩ := e
  exact ⟨f10, f11, f12, ef, ok, o10, o11, o12⟩
theorem WldResult.own_mk {s : Bool} {w : World} {x : WldResult} {A10 : Option Addr} {C10 : Nat} {A11 : Option Addr} {C11 : Nat} {A12 : Option Addr} {C12 : Nat} {f10 : List Nat} {f11 : List Nat} {f12 : List Nat} (ok : x.Ok) (o10 : own s w [.slice A10 x.Wd.Groups.length C10] x.Wd.Groups f10) (o11 : own s w [.slice A11 x.Wd.On.length C11] x.Wd.On f11) (o12 : own s w [.slice A12 x.Wd.Tapes.length C12] x.Wd.Tapes f12) : own s w [.int .i64 x.Code, .int .i64 x.Wd.Shape.Groups, .int .i64 x.Wd.Shape.Column, .int .i64 x.Wd.Shape.Data, .int .i64 x.Wd.Shape.Spare, .int .i64 x.Wd.Shape.Rows, .int .i64 x.Wd.Shape.Cap, .int .i64 x.Wd.Shape.Batch, .int .i64 x.Wd.Shape.Queue, .int .i64 x.Wd.Shape.Stage, .slice A10 x.Wd.Groups.length C10, .slice A11 x.Wd.On.length C11, .slice A12 x.Wd.Tapes.length C12, .int .i64 x.Wd.Writes, .int .i64 x.Wd.Stop, .bool x.Wd.Down] x (f10 ++ (f11 ++ (f12))) := by
  obtain ⟨i0, i1⟩ := ok
  have h : own s w _ (x.Code, x.Wd) _ := (own_two (own_mki i0) (Wld.own_mk (x := x.Wd) i1 o10 o11 o12))
  refine own_fp h ?_
  simp
theorem WldResult.sees {w : World} {x : WldResult} {A10 : Option Addr} {C10 : Nat} {A11 : Option Addr} {C11 : Nat} {A12 : Option Addr} {C12 : Nat} (ok : x.Ok) (o10 : Sees w [.slice A10 x.Wd.Groups.length C10] x.Wd.Groups) (o11 : Sees w [.slice A11 x.Wd.On.length C11] x.Wd.On) (o12 : Sees w [.slice A12 x.Wd.Tapes.length C12] x.Wd.Tapes) : Sees w [.int .i64 x.Code, .int .i64 x.Wd.Shape.Groups, .int .i64 x.Wd.Shape.Column, .int .i64 x.Wd.Shape.Data, .int .i64 x.Wd.Shape.Spare, .int .i64 x.Wd.Shape.Rows, .int .i64 x.Wd.Shape.Cap, .int .i64 x.Wd.Shape.Batch, .int .i64 x.Wd.Shape.Queue, .int .i64 x.Wd.Shape.Stage, .slice A10 x.Wd.Groups.length C10, .slice A11 x.Wd.On.length C11, .slice A12 x.Wd.Tapes.length C12, .int .i64 x.Wd.Writes, .int .i64 x.Wd.Stop, .bool x.Wd.Down] x := by
  obtain ⟨f10, o10⟩ := o10
  obtain ⟨f11, o11⟩ := o11
  obtain ⟨f12, o12⟩ := o12
  exact ⟨_, WldResult.own_mk ok o10 o11 o12⟩
theorem WldResult.out {w0 w : World} {F : List Rsc} {x : WldResult} {A10 : Option Addr} {C10 : Nat} {A11 : Option Addr} {C11 : Nat} {A12 : Option Addr} {C12 : Nat} {f10 : List Nat} {f11 : List Nat} {f12 : List Nat} (h : Sep No w0 [mine [.slice A10 x.Wd.Groups.length C10] x.Wd.Groups f10, mine [.slice A11 x.Wd.On.length C11] x.Wd.On f11, mine [.slice A12 x.Wd.Tapes.length C12] x.Wd.Tapes f12] F w) (ok : x.Ok) : Res w0 w [.int .i64 x.Code, .int .i64 x.Wd.Shape.Groups, .int .i64 x.Wd.Shape.Column, .int .i64 x.Wd.Shape.Data, .int .i64 x.Wd.Shape.Spare, .int .i64 x.Wd.Shape.Rows, .int .i64 x.Wd.Shape.Cap, .int .i64 x.Wd.Shape.Batch, .int .i64 x.Wd.Shape.Queue, .int .i64 x.Wd.Shape.Stage, .slice A10 x.Wd.Groups.length C10, .slice A11 x.Wd.On.length C11, .slice A12 x.Wd.Tapes.length C12, .int .i64 x.Wd.Writes, .int .i64 x.Wd.Stop, .bool x.Wd.Down] x :=
  ⟨_, WldResult.own_mk ok (h.mine 0 rfl) (h.mine 1 rfl) (h.mine 2 rfl), by have := h.nd; simpa [blocks, mine] using this, fun b hb => (h.new b (by simpa [blocks, mine] using hb)).resolve_left id⟩
theorem WldResult.see10 {s : Bool} {w : World} {x : WldResult} {A10 : Option Addr} {C10 : Nat} {A11 : Option Addr} {C11 : Nat} {A12 : Option Addr} {C12 : Nat} {fp : List Nat} (h : own s w [.int .i64 x.Code, .int .i64 x.Wd.Shape.Groups, .int .i64 x.Wd.Shape.Column, .int .i64 x.Wd.Shape.Data, .int .i64 x.Wd.Shape.Spare, .int .i64 x.Wd.Shape.Rows, .int .i64 x.Wd.Shape.Cap, .int .i64 x.Wd.Shape.Batch, .int .i64 x.Wd.Shape.Queue, .int .i64 x.Wd.Shape.Stage, .slice A10 x.Wd.Groups.length C10, .slice A11 x.Wd.On.length C11, .slice A12 x.Wd.Tapes.length C12, .int .i64 x.Wd.Writes, .int .i64 x.Wd.Stop, .bool x.Wd.Down] x fp) : Sees w [.slice A10 x.Wd.Groups.length C10] x.Wd.Groups := by
  obtain ⟨_, _, _, _, _, o, _, _⟩ := own_WldResultC h
  exact ⟨_, own_weak o⟩
theorem WldResult.see11 {s : Bool} {w : World} {x : WldResult} {A10 : Option Addr} {C10 : Nat} {A11 : Option Addr} {C11 : Nat} {A12 : Option Addr} {C12 : Nat} {fp : List Nat} (h : own s w [.int .i64 x.Code, .int .i64 x.Wd.Shape.Groups, .int .i64 x.Wd.Shape.Column, .int .i64 x.Wd.Shape.Data, .int .i64 x.Wd.Shape.Spare, .int .i64 x.Wd.Shape.Rows, .int .i64 x.Wd.Shape.Cap, .int .i64 x.Wd.Shape.Batch, .int .i64 x.Wd.Shape.Queue, .int .i64 x.Wd.Shape.Stage, .slice A10 x.Wd.Groups.length C10, .slice A11 x.Wd.On.length C11, .slice A12 x.Wd.Tapes.length C12, .int .i64 x.Wd.Writes, .int .i64 x.Wd.Stop, .bool x.Wd.Down] x fp) : Sees w [.slice A11 x.Wd.On.length C11] x.Wd.On := by
  obtain ⟨_, _, _, _, _, _, o, _⟩ := own_WldResultC h
  exact ⟨_, own_weak o⟩
theorem WldResult.see12 {s : Bool} {w : World} {x : WldResult} {A10 : Option Addr} {C10 : Nat} {A11 : Option Addr} {C11 : Nat} {A12 : Option Addr} {C12 : Nat} {fp : List Nat} (h : own s w [.int .i64 x.Code, .int .i64 x.Wd.Shape.Groups, .int .i64 x.Wd.Shape.Column, .int .i64 x.Wd.Shape.Data, .int .i64 x.Wd.Shape.Spare, .int .i64 x.Wd.Shape.Rows, .int .i64 x.Wd.Shape.Cap, .int .i64 x.Wd.Shape.Batch, .int .i64 x.Wd.Shape.Queue, .int .i64 x.Wd.Shape.Stage, .slice A10 x.Wd.Groups.length C10, .slice A11 x.Wd.On.length C11, .slice A12 x.Wd.Tapes.length C12, .int .i64 x.Wd.Writes, .int .i64 x.Wd.Stop, .bool x.Wd.Down] x fp) : Sees w [.slice A12 x.Wd.Tapes.length C12] x.Wd.Tapes := by
  obtain ⟨_, _, _, _, _, _, _, o⟩ := own_WldResultC h
  exact ⟨_, own_weak o⟩
theorem WldResult.mutOut {w w' : World} {fp : List Nat} {x : WldResult} {A10 : Option Addr} {C10 : Nat} {A11 : Option Addr} {C11 : Nat} {A12 : Option Addr} {C12 : Nat} {y10 : List (List Drive)} {y11 : List Int} {y12 : List Tape} {f10 : List Nat} {f11 : List Nat} {f12 : List Nat} {F : List Rsc} (ok : x.Ok) (h : Sep (· ∈ fp) w [gone, mine [.slice A10 x.Wd.Groups.length C10] y10 f10, mine [.slice A11 x.Wd.On.length C11] y11 f11, mine [.slice A12 x.Wd.Tapes.length C12] y12 f12] F w') (l10 : y10.length = x.Wd.Groups.length) (l11 : y11.length = x.Wd.On.length) (l12 : y12.length = x.Wd.Tapes.length) : Mut w w' fp [.int .i64 x.Code, .int .i64 x.Wd.Shape.Groups, .int .i64 x.Wd.Shape.Column, .int .i64 x.Wd.Shape.Data, .int .i64 x.Wd.Shape.Spare, .int .i64 x.Wd.Shape.Rows, .int .i64 x.Wd.Shape.Cap, .int .i64 x.Wd.Shape.Batch, .int .i64 x.Wd.Shape.Queue, .int .i64 x.Wd.Shape.Stage, .slice A10 x.Wd.Groups.length C10, .slice A11 x.Wd.On.length C11, .slice A12 x.Wd.Tapes.length C12, .int .i64 x.Wd.Writes, .int .i64 x.Wd.Stop, .bool x.Wd.Down] (⟨x.Code, ⟨⟨x.Wd.Shape.Groups, x.Wd.Shape.Column, x.Wd.Shape.Data, x.Wd.Shape.Spare, x.Wd.Shape.Rows, x.Wd.Shape.Cap, x.Wd.Shape.Batch, x.Wd.Shape.Queue, x.Wd.Shape.Stage⟩, y10, y11, y12, x.Wd.Writes, x.Wd.Stop, x.Wd.Down⟩⟩ : WldResult) := by
  have o10 := h.mine 1 rfl
  rw [← l10] at o10
  have o11 := h.mine 2 rfl
  rw [← l11] at o11
  have o12 := h.mine 3 rfl
  rw [← l12] at o12
  have hh := WldResult.own_mk (x := (⟨x.Code, ⟨⟨x.Wd.Shape.Groups, x.Wd.Shape.Column, x.Wd.Shape.Data, x.Wd.Shape.Spare, x.Wd.Shape.Rows, x.Wd.Shape.Cap, x.Wd.Shape.Batch, x.Wd.Shape.Queue, x.Wd.Shape.Stage⟩, y10, y11, y12, x.Wd.Writes, x.Wd.Stop, x.Wd.Down⟩⟩ : WldResult)) ok o10 o11 o12
  dsimp only at hh
  rw [l10, l11, l12] at hh
  exact ⟨h.ext, _, hh, (by have := h.nd; simpa [blocks, mine, gone] using this), fun b hb => h.new b (by simpa [blocks, mine, gone] using hb)⟩
theorem own_zWldResult {w : World} : own true w [.int .i64 0, .int .i64 0, .int .i64 0, .int .i64 0, .int .i64 0, .int .i64 0, .int .i64 0, .int .i64 0, .int .i64 0, .int .i64 0, .slice none 0 0, .slice none 0 0, .slice none 0 0, .int .i64 0, .int .i64 0, .bool false] (default : WldResult) [] := own_fp (WldResult.own_mk (s := true) (x := (default : WldResult)) ⟨(show I64ok 0 by unfold I64ok; omega), ⟨⟨(show I64ok 0 by unfold I64ok; omega), (show I64ok 0 by unfold I64ok; omega), (show I64ok 0 by unfold I64ok; omega), (show I64ok 0 by unfold I64ok; omega), (show I64ok 0 by unfold I64ok; omega), (show I64ok 0 by unfold I64ok; omega), (show I64ok 0 by unfold I64ok; omega), (show I64ok 0 by unfold I64ok; omega), (show I64ok 0 by unfold I64ok; omega)⟩, (show I64ok 0 by unfold I64ok; omega), (show I64ok 0 by unfold I64ok; omega)⟩⟩ (.inr (.inl ⟨rfl, rfl, rfl⟩)) (.inr (.inl ⟨rfl, rfl, rfl⟩)) (.inr (.inl ⟨rfl, rfl, rfl⟩))) (by first | rfl | simp)
structure BlockResult where
  Code : Int
  Block : Block
instance : Rp BlockResult := Rp.via fun x => (x.Code, x.Block)
noncomputable instance : DecidableEq BlockResult := fun _ _ => Classical.propDecidable _
instance : Inhabited BlockResult := ⟨⟨0, default⟩⟩
def BlockResult.val (x : BlockResult) (A2 : Option Addr) (C2 : Nat) : Value := .agg #[.int .i64 x.Code, .int .i64 x.Block.Stamp, .slice A2 x.Block.Bytes.length C2]
def BlockResult.Ok (x : BlockResult) : Prop := I64ok x.Code ∧ x.Block.Ok
theorem own_BlockResult {s w cs} {x : BlockResult} {fp} (h : own s w cs x fp) : ∃ (A2 : Option Addr) (C2 : Nat) (f2 : List Nat) , cs = [.int .i64 x.Code, .int .i64 x.Block.Stamp, .slice A2 x.Block.Bytes.length C2] ∧ fp = f2 ∧ x.Ok ∧ own s w [.slice A2 x.Block.Bytes.length C2] x.Block.Bytes f2 := by
  obtain ⟨_, _, _, _, rfl, e0, h0, k0⟩ := own_pair h
  obtain ⟨rfl, rfl, i0⟩ := own_int h0
  obtain ⟨A2, C2, g2, rfl, rfl, i1, o2⟩ := own_Block k0
  exact ⟨A2, C2, _, rfl, by subst_vars; simp, ⟨i0, i1⟩, o2⟩
theorem own_BlockResultC {s w A2 C2} {x : BlockResult} {fp} (h : own s w [.int .i64 x.Code, .int .i64 x.Block.Stamp, .slice A2 x.Block.Bytes.length C2] x fp) : ∃ (f2 : List Nat), fp = f2 ∧ x.Ok ∧ own s w [.slice A2 x.Block.Bytes.length C2] x.Block.Bytes f2 := by
  obtain ⟨_, _, f2, e, ef, ok, o2⟩ := own_BlockResult h
  simp only [List.cons.injEq, Value.slice.injEq, and_true, true_and] at e
  obtain ⟨rfl, rfl⟩ := e
  exact ⟨f2, ef, ok, o2⟩
theorem BlockResult.own_mk {s : Bool} {w : World} {x : BlockResult} {A2 : Option Addr} {C2 : Nat} {f2 : List Nat} (ok : x.Ok) (o2 : own s w [.slice A2 x.Block.Bytes.length C2] x.Block.Bytes f2) : own s w [.int .i64 x.Code, .int .i64 x.Block.Stamp, .slice A2 x.Block.Bytes.length C2] x (f2) := by
  obtain ⟨i0, i1⟩ := ok
  have h : own s w _ (x.Code, x.Block) _ := (own_two (own_mki i0) (Block.own_mk (x := x.Block) i1 o2))
  refine own_fp h ?_
  simp
theorem BlockResult.sees {w : World} {x : BlockResult} {A2 : Option Addr} {C2 : Nat} (ok : x.Ok) (o2 : Sees w [.slice A2 x.Block.Bytes.length C2] x.Block.Bytes) : Sees w [.int .i64 x.Code, .int .i64 x.Block.Stamp, .slice A2 x.Block.Bytes.length C2] x := by
  obtain ⟨f2, o2⟩ := o2
  exact ⟨_, BlockResult.own_mk ok o2⟩
theorem BlockResult.out {w0 w : World} {F : List Rsc} {x : BlockResult} {A2 : Option Addr} {C2 : Nat} {f2 : List Nat} (h : Sep No w0 [mine [.slice A2 x.Block.Bytes.length C2] x.Block.Bytes f2] F w) (ok : x.Ok) : Res w0 w [.int .i64 x.Code, .int .i64 x.Block.Stamp, .slice A2 x.Block.Bytes.length C2] x :=
  ⟨_, BlockResult.own_mk ok (h.mine 0 rfl), by have := h.nd; simpa [blocks, mine] using this, fun b hb => (h.new b (by simpa [blocks, mine] using hb)).resolve_left id⟩
theorem BlockResult.see2 {s : Bool} {w : World} {x : BlockResult} {A2 : Option Addr} {C2 : Nat} {fp : List Nat} (h : own s w [.int .i64 x.Code, .int .i64 x.Block.Stamp, .slice A2 x.Block.Bytes.length C2] x fp) : Sees w [.slice A2 x.Block.Bytes.length C2] x.Block.Bytes := by
  obtain ⟨_, _, _, o⟩ := own_BlockResultC h
  exact ⟨_, own_weak o⟩
theorem BlockResult.mutOut {w w' : World} {fp : List Nat} {x : BlockResult} {A2 : Option Addr} {C2 : Nat} {y2 : List UInt8} {f2 : List Nat} {F : List Rsc} (ok : x.Ok) (h : Sep (· ∈ fp) w [gone, mine [.slice A2 x.Block.Bytes.length C2] y2 f2] F w') (l2 : y2.length = x.Block.Bytes.length) : Mut w w' fp [.int .i64 x.Code, .int .i64 x.Block.Stamp, .slice A2 x.Block.Bytes.length C2] (⟨x.Code, ⟨x.Block.Stamp, y2⟩⟩ : BlockResult) := by
  have o2 := h.mine 1 rfl
  rw [← l2] at o2
  have hh := BlockResult.own_mk (x := (⟨x.Code, ⟨x.Block.Stamp, y2⟩⟩ : BlockResult)) ok o2
  dsimp only at hh
  rw [l2] at hh
  exact ⟨h.ext, _, hh, (by have := h.nd; simpa [blocks, mine, gone] using this), fun b hb => h.new b (by simpa [blocks, mine, gone] using hb)⟩
theorem own_zBlockResult {w : World} : own true w [.int .i64 0, .int .i64 0, .slice none 0 0] (default : BlockResult) [] := own_fp (BlockResult.own_mk (s := true) (x := (default : BlockResult)) ⟨(show I64ok 0 by unfold I64ok; omega), (show I64ok 0 by unfold I64ok; omega)⟩ (.inr (.inl ⟨rfl, rfl, rfl⟩))) (by first | rfl | simp)
structure IntResult where
  Code : Int
  Val : Int
instance : Rp IntResult := Rp.via fun x => (x.Code, x.Val)
noncomputable instance : DecidableEq IntResult := fun _ _ => Classical.propDecidable _
instance : Inhabited IntResult := ⟨⟨0, 0⟩⟩
def IntResult.val (x : IntResult) : Value := .agg #[.int .i64 x.Code, .int .i64 x.Val]
def IntResult.Ok (x : IntResult) : Prop := I64ok x.Code ∧ I64ok x.Val
theorem own_IntResult {s w cs} {x : IntResult} {fp} (h : own s w cs x fp) : cs = [.int .i64 x.Code, .int .i64 x.Val] ∧ fp = [] ∧ x.Ok := by
  obtain ⟨_, _, _, _, rfl, e0, h0, k0⟩ := own_pair h
  obtain ⟨rfl, rfl, i0⟩ := own_int h0
  obtain ⟨rfl, rfl, i1⟩ := own_int k0
  exact ⟨rfl, by subst_vars; simp, ⟨i0, i1⟩⟩
theorem IntResult.own_mk {s : Bool} {w : World} {x : IntResult} (ok : x.Ok) : own s w [.int .i64 x.Code, .int .i64 x.Val] x ([]) := by
  obtain ⟨i0, i1⟩ := ok
  have h : own s w _ (x.Code, x.Val) _ := (own_two (own_mki i0) (own_mki i1))
  refine own_fp h ?_
  simp
theorem own_zIntResult {w : World} : own true w [.int .i64 0, .int .i64 0] (default : IntResult) [] := own_fp (IntResult.own_mk (s := true) (x := (default : IntResult)) ⟨(show I64ok 0 by unfold I64ok; omega), (show I64ok 0 by unfold I64ok; omega)⟩) (by first | rfl | simp)
structure IntsResult where
  Code : Int
  Lst : List Int
instance : Rp IntsResult := Rp.via fun x => (x.Code, x.Lst)
noncomputable instance : DecidableEq IntsResult := fun _ _ => Classical.propDecidable _
instance : Inhabited IntsResult := ⟨⟨0, []⟩⟩
def IntsResult.val (x : IntsResult) (A1 : Option Addr) (C1 : Nat) : Value := .agg #[.int .i64 x.Code, .slice A1 x.Lst.length C1]
def IntsResult.Ok (x : IntsResult) : Prop := I64ok x.Code
theorem own_IntsResult {s w cs} {x : IntsResult} {fp} (h : own s w cs x fp) : ∃ (A1 : Option Addr) (C1 : Nat) (f1 : List Nat) , cs = [.int .i64 x.Code, .slice A1 x.Lst.length C1] ∧ fp = f1 ∧ x.Ok ∧ own s w [.slice A1 x.Lst.length C1] x.Lst f1 := by
  obtain ⟨_, _, _, _, rfl, e0, h0, k0⟩ := own_pair h
  obtain ⟨rfl, rfl, i0⟩ := own_int h0
  obtain ⟨A1, C1, rfl⟩ := own_slice k0
  exact ⟨A1, C1, _, rfl, by subst_vars; simp, i0, k0⟩
theorem own_IntsResultC {s w A1 C1} {x : IntsResult} {fp} (h : own s w [.int .i64 x.Code, .slice A1 x.Lst.length C1] x fp) : ∃ (f1 : List Nat), fp = f1 ∧ x.Ok ∧ own s w [.slice A1 x.Lst.length C1] x.Lst f1 := by
  obtain ⟨_, _, f1, e, ef, ok, o1⟩ := own_IntsResult h
  simp only [List.cons.injEq, Value.slice.injEq, and_true, true_and] at e
  obtain ⟨rfl, rfl⟩ := e
  exact ⟨f1, ef, ok, o1⟩
theorem IntsResult.own_mk {s : Bool} {w : World} {x : IntsResult} {A1 : Option Addr} {C1 : Nat} {f1 : List Nat} (ok : x.Ok) (o1 : own s w [.slice A1 x.Lst.length C1] x.Lst f1) : own s w [.int .i64 x.Code, .slice A1 x.Lst.length C1] x (f1) := by
  have i0 := ok
  have h : own s w _ (x.Code, x.Lst) _ := (own_two (own_mki i0) o1)
  refine own_fp h ?_
  simp
theorem IntsResult.sees {w : World} {x : IntsResult} {A1 : Option Addr} {C1 : Nat} (ok : x.Ok) (o1 : Sees w [.slice A1 x.Lst.length C1] x.Lst) : Sees w [.int .i64 x.Code, .slice A1 x.Lst.length C1] x := by
  obtain ⟨f1, o1⟩ := o1
  exact ⟨_, IntsResult.own_mk ok o1⟩
theorem IntsResult.out {w0 w : World} {F : List Rsc} {x : IntsResult} {A1 : Option Addr} {C1 : Nat} {f1 : List Nat} (h : Sep No w0 [mine [.slice A1 x.Lst.length C1] x.Lst f1] F w) (ok : x.Ok) : Res w0 w [.int .i64 x.Code, .slice A1 x.Lst.length C1] x :=
  ⟨_, IntsResult.own_mk ok (h.mine 0 rfl), by have := h.nd; simpa [blocks, mine] using this, fun b hb => (h.new b (by simpa [blocks, mine] using hb)).resolve_left id⟩
theorem IntsResult.see1 {s : Bool} {w : World} {x : IntsResult} {A1 : Option Addr} {C1 : Nat} {fp : List Nat} (h : own s w [.int .i64 x.Code, .slice A1 x.Lst.length C1] x fp) : Sees w [.slice A1 x.Lst.length C1] x.Lst := by
  obtain ⟨_, _, _, o⟩ := own_IntsResultC h
  exact ⟨_, own_weak o⟩
theorem IntsResult.mutOut {w w' : World} {fp : List Nat} {x : IntsResult} {A1 : Option Addr} {C1 : Nat} {y1 : List Int} {f1 : List Nat} {F : List Rsc} (ok : x.Ok) (h : Sep (· ∈ fp) w [gone, mine [.slice A1 x.Lst.length C1] y1 f1] F w') (l1 : y1.length = x.Lst.length) : Mut w w' fp [.int .i64 x.Code, .slice A1 x.Lst.length C1] (⟨x.Code, y1⟩ : IntsResult) := by
  have o1 := h.mine 1 rfl
  rw [← l1] at o1
  have hh := IntsResult.own_mk (x := (⟨x.Code, y1⟩ : IntsResult)) ok o1
  dsimp only at hh
  rw [l1] at hh
  exact ⟨h.ext, _, hh, (by have := h.nd; simpa [blocks, mine, gone] using this), fun b hb => h.new b (by simpa [blocks, mine, gone] using hb)⟩
theorem own_zIntsResult {w : World} : own true w [.int .i64 0, .slice none 0 0] (default : IntsResult) [] := own_fp (IntsResult.own_mk (s := true) (x := (default : IntsResult)) (show I64ok 0 by unfold I64ok; omega) (.inr (.inl ⟨rfl, rfl, rfl⟩))) (by first | rfl | simp)
structure GroupsResult where
  Code : Int
  Groups : List Int
instance : Rp GroupsResult := Rp.via fun x => (x.Code, x.Groups)
noncomputable instance : DecidableEq GroupsResult := fun _ _ => Classical.propDecidable _
instance : Inhabited GroupsResult := ⟨⟨0, []⟩⟩
def GroupsResult.val (x : GroupsResult) (A1 : Option Addr) (C1 : Nat) : Value := .agg #[.int .i64 x.Code, .slice A1 x.Groups.length C1]
def GroupsResult.Ok (x : GroupsResult) : Prop := I64ok x.Code
theorem own_GroupsResult {s w cs} {x : GroupsResult} {fp} (h : own s w cs x fp) : ∃ (A1 : Option Addr) (C1 : Nat) (f1 : List Nat) , cs = [.int .i64 x.Code, .slice A1 x.Groups.length C1] ∧ fp = f1 ∧ x.Ok ∧ own s w [.slice A1 x.Groups.length C1] x.Groups f1 := by
  obtain ⟨_, _, _, _, rfl, e0, h0, k0⟩ := own_pair h
  obtain ⟨rfl, rfl, i0⟩ := own_int h0
  obtain ⟨A1, C1, rfl⟩ := own_slice k0
  exact ⟨A1, C1, _, rfl, by subst_vars; simp, i0, k0⟩
theorem own_GroupsResultC {s w A1 C1} {x : GroupsResult} {fp} (h : own s w [.int .i64 x.Code, .slice A1 x.Groups.length C1] x fp) : ∃ (f1 : List Nat), fp = f1 ∧ x.Ok ∧ own s w [.slice A1 x.Groups.length C1] x.Groups f1 := by
  obtain ⟨_, _, f1, e, ef, ok, o1⟩ := own_GroupsResult h
  simp only [List.cons.injEq, Value.slice.injEq, and_true, true_and] at e
  obtain ⟨rfl, rfl⟩ := e
  exact ⟨f1, ef, ok, o1⟩
theorem GroupsResult.own_mk {s : Bool} {w : World} {x : GroupsResult} {A1 : Option Addr} {C1 : Nat} {f1 : List Nat} (ok : x.Ok) (o1 : own s w [.slice A1 x.Groups.length C1] x.Groups f1) : own s w [.int .i64 x.Code, .slice A1 x.Groups.length C1] x (f1) := by
  have i0 := ok
  have h : own s w _ (x.Code, x.Groups) _ := (own_two (own_mki i0) o1)
  refine own_fp h ?_
  simp
theorem GroupsResult.sees {w : World} {x : GroupsResult} {A1 : Option Addr} {C1 : Nat} (ok : x.Ok) (o1 : Sees w [.slice A1 x.Groups.length C1] x.Groups) : Sees w [.int .i64 x.Code, .slice A1 x.Groups.length C1] x := by
  obtain ⟨f1, o1⟩ := o1
  exact ⟨_, GroupsResult.own_mk ok o1⟩
theorem GroupsResult.out {w0 w : World} {F : List Rsc} {x : GroupsResult} {A1 : Option Addr} {C1 : Nat} {f1 : List Nat} (h : Sep No w0 [mine [.slice A1 x.Groups.length C1] x.Groups f1] F w) (ok : x.Ok) : Res w0 w [.int .i64 x.Code, .slice A1 x.Groups.length C1] x :=
  ⟨_, GroupsResult.own_mk ok (h.mine 0 rfl), by have := h.nd; simpa [blocks, mine] using this, fun b hb => (h.new b (by simpa [blocks, mine] using hb)).resolve_left id⟩
theorem GroupsResult.see1 {s : Bool} {w : World} {x : GroupsResult} {A1 : Option Addr} {C1 : Nat} {fp : List Nat} (h : own s w [.int .i64 x.Code, .slice A1 x.Groups.length C1] x fp) : Sees w [.slice A1 x.Groups.length C1] x.Groups := by
  obtain ⟨_, _, _, o⟩ := own_GroupsResultC h
  exact ⟨_, own_weak o⟩
theorem GroupsResult.mutOut {w w' : World} {fp : List Nat} {x : GroupsResult} {A1 : Option Addr} {C1 : Nat} {y1 : List Int} {f1 : List Nat} {F : List Rsc} (ok : x.Ok) (h : Sep (· ∈ fp) w [gone, mine [.slice A1 x.Groups.length C1] y1 f1] F w') (l1 : y1.length = x.Groups.length) : Mut w w' fp [.int .i64 x.Code, .slice A1 x.Groups.length C1] (⟨x.Code, y1⟩ : GroupsResult) := by
  have o1 := h.mine 1 rfl
  rw [← l1] at o1
  have hh := GroupsResult.own_mk (x := (⟨x.Code, y1⟩ : GroupsResult)) ok o1
  dsimp only at hh
  rw [l1] at hh
  exact ⟨h.ext, _, hh, (by have := h.nd; simpa [blocks, mine, gone] using this), fun b hb => h.new b (by simpa [blocks, mine, gone] using hb)⟩
theorem own_zGroupsResult {w : World} : own true w [.int .i64 0, .slice none 0 0] (default : GroupsResult) [] := own_fp (GroupsResult.own_mk (s := true) (x := (default : GroupsResult)) (show I64ok 0 by unfold I64ok; omega) (.inr (.inl ⟨rfl, rfl, rfl⟩))) (by first | rfl | simp)
structure RecsResult where
  Code : Int
  Recs : List Rec
instance : Rp RecsResult := Rp.via fun x => (x.Code, x.Recs)
noncomputable instance : DecidableEq RecsResult := fun _ _ => Classical.propDecidable _
instance : Inhabited RecsResult := ⟨⟨0, []⟩⟩
def RecsResult.val (x : RecsResult) (A1 : Option Addr) (C1 : Nat) : Value := .agg #[.int .i64 x.Code, .slice A1 x.Recs.length C1]
def RecsResult.Ok (x : RecsResult) : Prop := I64ok x.Code
theorem own_RecsResult {s w cs} {x : RecsResult} {fp} (h : own s w cs x fp) : ∃ (A1 : Option Addr) (C1 : Nat) (f1 : List Nat) , cs = [.int .i64 x.Code, .slice A1 x.Recs.length C1] ∧ fp = f1 ∧ x.Ok ∧ own s w [.slice A1 x.Recs.length C1] x.Recs f1 := by
  obtain ⟨_, _, _, _, rfl, e0, h0, k0⟩ := own_pair h
  obtain ⟨rfl, rfl, i0⟩ := own_int h0
  obtain ⟨A1, C1, rfl⟩ := own_slice k0
  exact ⟨A1, C1, _, rfl, by subst_vars; simp, i0, k0⟩
theorem own_RecsResultC {s w A1 C1} {x : RecsResult} {fp} (h : own s w [.int .i64 x.Code, .slice A1 x.Recs.length C1] x fp) : ∃ (f1 : List Nat), fp = f1 ∧ x.Ok ∧ own s w [.slice A1 x.Recs.length C1] x.Recs f1 := by
  obtain ⟨_, _, f1, e, ef, ok, o1⟩ := own_RecsResult h
  simp only [List.cons.injEq, Value.slice.injEq, and_true, true_and] at e
  obtain ⟨rfl, rfl⟩ := e
  exact ⟨f1, ef, ok, o1⟩
theorem RecsResult.own_mk {s : Bool} {w : World} {x : RecsResult} {A1 : Option Addr} {C1 : Nat} {f1 : List Nat} (ok : x.Ok) (o1 : own s w [.slice A1 x.Recs.length C1] x.Recs f1) : own s w [.int .i64 x.Code, .slice A1 x.Recs.length C1] x (f1) := by
  have i0 := ok
  have h : own s w _ (x.Code, x.Recs) _ := (own_two (own_mki i0) o1)
  refine own_fp h ?_
  simp
theorem RecsResult.sees {w : World} {x : RecsResult} {A1 : Option Addr} {C1 : Nat} (ok : x.Ok) (o1 : Sees w [.slice A1 x.Recs.length C1] x.Recs) : Sees w [.int .i64 x.Code, .slice A1 x.Recs.length C1] x := by
  obtain ⟨f1, o1⟩ := o1
  exact ⟨_, RecsResult.own_mk ok o1⟩
theorem RecsResult.out {w0 w : World} {F : List Rsc} {x : RecsResult} {A1 : Option Addr} {C1 : Nat} {f1 : List Nat} (h : Sep No w0 [mine [.slice A1 x.Recs.length C1] x.Recs f1] F w) (ok : x.Ok) : Res w0 w [.int .i64 x.Code, .slice A1 x.Recs.length C1] x :=
  ⟨_, RecsResult.own_mk ok (h.mine 0 rfl), by have := h.nd; simpa [blocks, mine] using this, fun b hb => (h.new b (by simpa [blocks, mine] using hb)).resolve_left id⟩
theorem RecsResult.see1 {s : Bool} {w : World} {x : RecsResult} {A1 : Option Addr} {C1 : Nat} {fp : List Nat} (h : own s w [.int .i64 x.Code, .slice A1 x.Recs.length C1] x fp) : Sees w [.slice A1 x.Recs.length C1] x.Recs := by
  obtain ⟨_, _, _, o⟩ := own_RecsResultC h
  exact ⟨_, own_weak o⟩
theorem RecsResult.mutOut {w w' : World} {fp : List Nat} {x : RecsResult} {A1 : Option Addr} {C1 : Nat} {y1 : List Rec} {f1 : List Nat} {F : List Rsc} (ok : x.Ok) (h : Sep (· ∈ fp) w [gone, mine [.slice A1 x.Recs.length C1] y1 f1] F w') (l1 : y1.length = x.Recs.length) : Mut w w' fp [.int .i64 x.Code, .slice A1 x.Recs.length C1] (⟨x.Code, y1⟩ : RecsResult) := by
  have o1 := h.mine 1 rfl
  rw [← l1] at o1
  have hh := RecsResult.own_mk (x := (⟨x.Code, y1⟩ : RecsResult)) ok o1
  dsimp only at hh
  rw [l1] at hh
  exact ⟨h.ext, _, hh, (by have := h.nd; simpa [blocks, mine, gone] using this), fun b hb => h.new b (by simpa [blocks, mine, gone] using hb)⟩
theorem own_zRecsResult {w : World} : own true w [.int .i64 0, .slice none 0 0] (default : RecsResult) [] := own_fp (RecsResult.own_mk (s := true) (x := (default : RecsResult)) (show I64ok 0 by unfold I64ok; omega) (.inr (.inl ⟨rfl, rfl, rfl⟩))) (by first | rfl | simp)
structure ListsResult where
  Code : Int
  Lists : List (List UInt8)
instance : Rp ListsResult := Rp.via fun x => (x.Code, x.Lists)
noncomputable instance : DecidableEq ListsResult := fun _ _ => Classical.propDecidable _
instance : Inhabited ListsResult := ⟨⟨0, []⟩⟩
def ListsResult.val (x : ListsResult) (A1 : Option Addr) (C1 : Nat) : Value := .agg #[.int .i64 x.Code, .slice A1 x.Lists.length C1]
def ListsResult.Ok (x : ListsResult) : Prop := I64ok x.Code
theorem own_ListsResult {s w cs} {x : ListsResult} {fp} (h : own s w cs x fp) : ∃ (A1 : Option Addr) (C1 : Nat) (f1 : List Nat) , cs = [.int .i64 x.Code, .slice A1 x.Lists.length C1] ∧ fp = f1 ∧ x.Ok ∧ own s w [.slice A1 x.Lists.length C1] x.Lists f1 := by
  obtain ⟨_, _, _, _, rfl, e0, h0, k0⟩ := own_pair h
  obtain ⟨rfl, rfl, i0⟩ := own_int h0
  obtain ⟨A1, C1, rfl⟩ := own_slice k0
  exact ⟨A1, C1, _, rfl, by subst_vars; simp, i0, k0⟩
theorem own_ListsResultC {s w A1 C1} {x : ListsResult} {fp} (h : own s w [.int .i64 x.Code, .slice A1 x.Lists.length C1] x fp) : ∃ (f1 : List Nat), fp = f1 ∧ x.Ok ∧ own s w [.slice A1 x.Lists.length C1] x.Lists f1 := by
  obtain ⟨_, _, f1, e, ef, ok, o1⟩ := own_ListsResult h
  simp only [List.cons.injEq, Value.slice.injEq, and_true, true_and] at e
  obtain ⟨rfl, rfl⟩ := e
  exact ⟨f1, ef, ok, o1⟩
theorem ListsResult.own_mk {s : Bool} {w : World} {x : ListsResult} {A1 : Option Addr} {C1 : Nat} {f1 : List Nat} (ok : x.Ok) (o1 : own s w [.slice A1 x.Lists.length C1] x.Lists f1) : own s w [.int .i64 x.Code, .slice A1 x.Lists.length C1] x (f1) := by
  have i0 := ok
  have h : own s w _ (x.Code, x.Lists) _ := (own_two (own_mki i0) o1)
  refine own_fp h ?_
  simp
theorem ListsResult.sees {w : World} {x : ListsResult} {A1 : Option Addr} {C1 : Nat} (ok : x.Ok) (o1 : Sees w [.slice A1 x.Lists.length C1] x.Lists) : Sees w [.int .i64 x.Code, .slice A1 x.Lists.length C1] x := by
  obtain ⟨f1, o1⟩ := o1
  exact ⟨_, ListsResult.own_mk ok o1⟩
theorem ListsResult.out {w0 w : World} {F : List Rsc} {x : ListsResult} {A1 : Option Addr} {C1 : Nat} {f1 : List Nat} (h : Sep No w0 [mine [.slice A1 x.Lists.length C1] x.Lists f1] F w) (ok : x.Ok) : Res w0 w [.int .i64 x.Code, .slice A1 x.Lists.length C1] x :=
  ⟨_, ListsResult.own_mk ok (h.mine 0 rfl), by have := h.nd; simpa [blocks, mine] using this, fun b hb => (h.new b (by simpa [blocks, mine] using hb)).resolve_left id⟩
theorem ListsResult.see1 {s : Bool} {w : World} {x : ListsResult} {A1 : Option Addr} {C1 : Nat} {fp : List Nat} (h : own s w [.int .i64 x.Code, .slice A1 x.Lists.length C1] x fp) : Sees w [.slice A1 x.Lists.length C1] x.Lists := by
  obtain ⟨_, _, _, o⟩ := own_ListsResultC h
  exact ⟨_, own_weak o⟩
theorem ListsResult.mutOut {w w' : World} {fp : List Nat} {x : ListsResult} {A1 : Option Addr} {C1 : Nat} {y1 : List (List UInt8)} {f1 : List Nat} {F : List Rsc} (ok : x.Ok) (h : Sep (· ∈ fp) w [gone, mine [.slice A1 x.Lists.length C1] y1 f1] F w') (l1 : y1.length = x.Lists.length) : Mut w w' fp [.int .i64 x.Code, .slice A1 x.Lists.length C1] (⟨x.Code, y1⟩ : ListsResult) := by
  have o1 := h.mine 1 rfl
  rw [← l1] at o1
  have hh := ListsResult.own_mk (x := (⟨x.Code, y1⟩ : ListsResult)) ok o1
  dsimp only at hh
  rw [l1] at hh
  exact ⟨h.ext, _, hh, (by have := h.nd; simpa [blocks, mine, gone] using this), fun b hb => h.new b (by simpa [blocks, mine, gone] using hb)⟩
theorem own_zListsResult {w : World} : own true w [.int .i64 0, .slice none 0 0] (default : ListsResult) [] := own_fp (ListsResult.own_mk (s := true) (x := (default : ListsResult)) (show I64ok 0 by unfold I64ok; omega) (.inr (.inl ⟨rfl, rfl, rfl⟩))) (by first | rfl | simp)
end Go.Wk
