/-
  The data structures: what their cells stand for. (Printed by a program of mine.)
-/
import Derived.Test.YtceeelcijjkefaaGreatWkK
set_option linter.unusedVariables false
set_option linter.unusedSimpArgs false
namespace Go.Wk
open Rp (sz own)
theorem own_two {α β : Type} [Rp α] [Rp β] {s w c1 c2} {a : α} {b : β} {f1 f2} (h1 : own s w c1 a f1) (h2 : own s w c2 b f2) : own s w (c1 ++ c2) (a, b) (f1 ++ f2) := by
  have hl := Rp.len h1
  refine ⟨f1, f2, rfl, ?_, ?_⟩
  · rw [← hl, List.take_left]; exact h1
  · rw [← hl, List.drop_left]; exact h2
theorem own_mki {s w} {x : Int} (h : I64ok x) : own s w [.int .i64 x] x [] := ⟨rfl, rfl, h⟩
theorem own_mks {s w} {x : ByteArray} (h : x.size ≤ maxLen) : own s w [.string x] (Str.mk x) [] := ⟨rfl, rfl, h⟩
theorem own_mkb {s w} {x : Bool} : own s w [.bool x] x [] := ⟨rfl, rfl⟩
theorem own_fp {α : Type} [Rp α] {s w cs} {x : α} {f g} (h : own s w cs x f) (e : f = g) : own s w cs x g := e ▸ h
noncomputable instance : DecidableEq Shape := fun _ _ => Classical.propDecidable _
noncomputable instance : DecidableEq Ticket := fun _ _ => Classical.propDecidable _
structure Rec where
  Kind : Int
  Seq : Int
  Name : ByteArray
  Length : Int
  Group : Int
  Row : Int
  Rows : List Int
  Data : List UInt8
  Delta : List UInt8
instance : Rp Rec := Rp.via fun x => (x.Kind, x.Seq, Str.mk x.Name, x.Length, x.Group, x.Row, x.Rows, x.Data, x.Delta)
noncomputable instance : DecidableEq Rec := fun _ _ => Classical.propDecidable _
instance : Inhabited Rec := ⟨⟨0, 0, ⟨#[]⟩, 0, 0, 0, [], [], []⟩⟩
def Rec.val (x : Rec) (A6 : Option Addr) (C6 : Nat) (A7 : Option Addr) (C7 : Nat) (A8 : Option Addr) (C8 : Nat) : Value := .agg #[.int .i64 x.Kind, .int .i64 x.Seq, .string x.Name, .int .i64 x.Length, .int .i64 x.Group, .int .i64 x.Row, .slice A6 x.Rows.length C6, .slice A7 x.Data.length C7, .slice A8 x.Delta.length C8]
def Rec.Ok (x : Rec) : Prop := I64ok x.Kind ∧ I64ok x.Seq ∧ x.Name.size ≤ maxLen ∧ I64ok x.Length ∧ I64ok x.Group ∧ I64ok x.Row
theorem own_Rec {s w cs} {x : Rec} {fp} (h : own s w cs x fp) : ∃ (A6 : Option Addr) (C6 : Nat) (A7 : Option Addr) (C7 : Nat) (A8 : Option Addr) (C8 : Nat) (f6 : List Nat) (f7 : List Nat) (f8 : List Nat) , cs = [.int .i64 x.Kind, .int .i64 x.Seq, .string x.Name, .int .i64 x.Length, .int .i64 x.Group, .int .i64 x.Row, .slice A6 x.Rows.length C6, .slice A7 x.Data.length C7, .slice A8 x.Delta.length C8] ∧ fp = f6 ++ (f7 ++ (f8)) ∧ x.Ok ∧ own s w [.slice A6 x.Rows.length C6] x.Rows f6 ∧ own s w [.slice A7 x.Data.length C7] x.Data f7 ∧ own s w [.slice A8 x.Delta.length C8] x.Delta f8 := by
  obtain ⟨_, _, _, _, rfl, e0, h0, k0⟩ := own_pair h
  obtain ⟨rfl, rfl, i0⟩ := own_int h0
  obtain ⟨_, _, _, _, rfl, e1, h1, k1⟩ := own_pair k0
  obtain ⟨rfl, rfl, i1⟩ := own_int h1
  obtain ⟨_, _, _, _, rfl, e2, h2, k2⟩ := own_pair k1
  obtain ⟨rfl, rfl, i2⟩ := h2
  obtain ⟨_, _, _, _, rfl, e3, h3, k3⟩ := own_pair k2
  obtain ⟨rfl, rfl, i3⟩ := own_int h3
  obtain ⟨_, _, _, _, rfl, e4, h4, k4⟩ := own_pair k3
  obtain ⟨rfl, rfl, i4⟩ := own_int h4
  obtain ⟨_, _, _, _, rfl, e5, h5, k5⟩ := own_pair k4
  obtain ⟨rfl, rfl, i5⟩ := own_int h5
  obtain ⟨_, _, _, _, rfl, e6, h6, k6⟩ := own_pair k5
  obtain ⟨A6, C6, rfl⟩ := own_slice h6
  obtain ⟨_, _, _, _, rfl, e7, h7, k7⟩ := own_pair k6
  obtain ⟨A7, C7, rfl⟩ := own_slice h7
  obtain ⟨A8, C8, rfl⟩ := own_slice k7
  exact ⟨A6, C6, A7, C7, A8, C8, _, _, _, rfl, by subst_vars; simp, ⟨i0, i1, i2, i3, i4, i5⟩, h6, h7, k7⟩
theorem own_RecC {s w A6 C6 A7 C7 A8 C8} {x : Rec} {fp} (h : own s w [.int .i64 x.Kind, .int .i64 x.Seq, .string x.Name, .int .i64 x.Length, .int .i64 x.Group, .int .i64 x.Row, .slice A6 x.Rows.length C6, .slice A7 x.Data.length C7, .slice A8 x.Delta.length C8] x fp) : ∃ (f6 : List Nat) (f7 : List Nat) (f8 : List Nat), fp = f6 ++ (f7 ++ (f8)) ∧ x.Ok ∧ own s w [.slice A6 x.Rows.length C6] x.Rows f6 ∧ own s w [.slice A7 x.Data.length C7] x.Data f7 ∧ own s w [.slice A8 x.Delta.length C8] x.Delta f8 := by
  obtain ⟨_, _, _, _, _, _, f6, f7, f8, e, ef, ok, o6, o7, o8⟩ := own_Rec h
  simp only [List.cons.injEq, Value.slice.injEq, and_true, true_and] at e
  obtain ⟨⟨rfl, rfl⟩, ⟨rfl, rfl⟩, ⟨rfl, rfl⟩⟩ := e
  exact ⟨f6, f7, f8, ef, ok, o6, o7, o8⟩
theorem Rec.own_mk {s : Bool} {w : World} {x : Rec} {A6 : Option Addr} {C6 : Nat} {A7 : Option Addr} {C7 : Nat} {A8 : Option Addr} {C8 : Nat} {f6 : List Nat} {f7 : List Nat} {f8 : List Nat} (ok : x.Ok) (o6 : own s w [.slice A6 x.Rows.length C6] x.Rows f6) (o7 : own s w [.slice A7 x.Data.length C7] x.Data f7) (o8 : own s w [.slice A8 x.Delta.length C8] x.Delta f8) : own s w [.int .i64 x.Kind, .int .i64 x.Seq, .string x.Name, .int .i64 x.Length, .int .i64 x.Group, .int .i64 x.Row, .slice A6 x.Rows.length C6, .slice A7 x.Data.length C7, .slice A8 x.Delta.length C8] x (f6 ++ (f7 ++ (f8))) := by
  obtain ⟨i0, i1, i2, i3, i4, i5⟩ := ok
  have h : own s w _ (x.Kind, x.Seq, Str.mk x.Name, x.Length, x.Group, x.Row, x.Rows, x.Data, x.Delta) _ := (own_two (own_mki i0) (own_two (own_mki i1) (own_two (own_mks i2) (own_two (own_mki i3) (own_two (own_mki i4) (own_two (own_mki i5) (own_two o6 (own_two o7 o8))))))))
  refine own_fp h ?_
  simp
theorem Rec.sees {w : World} {x : Rec} {A6 : Option Addr} {C6 : Nat} {A7 : Option Addr} {C7 : Nat} {A8 : Option Addr} {C8 : Nat} (ok : x.Ok) (o6 : Sees w [.slice A6 x.Rows.length C6] x.Rows) (o7 : Sees w [.slice A7 x.Data.length C7] x.Data) (o8 : Sees w [.slice A8 x.Delta.length C8] x.Delta) : Sees w [.int .i64 x.Kind, .int .i64 x.Seq, .string x.Name, .int .i64 x.Length, .int .i64 x.Group, .int .i64 x.Row, .slice A6 x.Rows.length C6, .slice A7 x.Data.length C7, .slice A8 x.Delta.length C8] x := by
  obtain ⟨f6, o6⟩ := o6
  obtain ⟨f7, o7⟩ := o7
  obtain ⟨f8, o8⟩ := o8
  exact ⟨_, Rec.own_mk ok o6 o7 o8⟩
theorem Rec.out {w0 w : World} {F : List Rsc} {x : Rec} {A6 : Option Addr} {C6 : Nat} {A7 : Option Addr} {C7 : Nat} {A8 : Option Addr} {C8 : Nat} {f6 : List Nat} {f7 : List Nat} {f8 : List Nat} (h : Sep No w0 [mine [.slice A6 x.Rows.length C6] x.Rows f6, mine [.slice A7 x.Data.length C7] x.Data f7, mine [.slice A8 x.Delta.length C8] x.Delta f8] F w) (ok : x.Ok) : Res w0 w [.int .i64 x.Kind, .int .i64 x.Seq, .string x.Name, .int .i64 x.Length, .int .i64 x.Group, .int .i64 x.Row, .slice A6 x.Rows.length C6, .slice A7 x.Data.length C7, .slice A8 x.Delta.length C8] x :=
  ⟨_, Rec.own_mk ok (h.mine 0 rfl) (h.mine 1 rfl) (h.mine 2 rfl), by have := h.nd; simpa [blocks, mine] using this, fun b hb => (h.new b (by simpa [blocks, mine] using hb)).resolve_left id⟩
structure BlocksResult where
  Code : Int
  Blocks : List (List UInt8)
instance : Rp BlocksResult := Rp.via fun x => (x.Code, x.Blocks)
noncomputable instance : DecidableEq BlocksResult := fun _ _ => Classical.propDecidable _
instance : Inhabited BlocksResult := ⟨⟨0, []⟩⟩
def BlocksResult.val (x : BlocksResult) (A1 : Option Addr) (C1 : Nat) : Value := .agg #[.int .i64 x.Code, .slice A1 x.Blocks.length C1]
def BlocksResult.Ok (x : BlocksResult) : Prop := I64ok x.Code
theorem own_BlocksResult {s w cs} {x : BlocksResult} {fp} (h : own s w cs x fp) : ∃ (A1 : Option Addr) (C1 : Nat) (f1 : List Nat) , cs = [.int .i64 x.Code, .slice A1 x.Blocks.length C1] ∧ fp = f1 ∧ x.Ok ∧ own s w [.slice A1 x.Blocks.length C1] x.Blocks f1 := by
  obtain ⟨_, _, _, _, rfl, e0, h0, k0⟩ := own_pair h
  obtain ⟨rfl, rfl, i0⟩ := own_int h0
  obtain ⟨A1, C1, rfl⟩ := own_slice k0
  exact ⟨A1, C1, _, rfl, by subst_vars; simp, i0, k0⟩
theorem own_BlocksResultC {s w A1 C1} {x : BlocksResult} {fp} (h : own s w [.int .i64 x.Code, .slice A1 x.Blocks.length C1] x fp) : ∃ (f1 : List Nat), fp = f1 ∧ x.Ok ∧ own s w [.slice A1 x.Blocks.length C1] x.Blocks f1 := by
  obtain ⟨_, _, f1, e, ef, ok, o1⟩ := own_BlocksResult h
  simp only [List.cons.injEq, Value.slice.injEq, and_true, true_and] at e
  obtain ⟨rfl, rfl⟩ := e
  exact ⟨f1, ef, ok, o1⟩
theorem BlocksResult.own_mk {s : Bool} {w : World} {x : BlocksResult} {A1 : Option Addr} {C1 : Nat} {f1 : List Nat} (ok : x.Ok) (o1 : own s w [.slice A1 x.Blocks.length C1] x.Blocks f1) : own s w [.int .i64 x.Code, .slice A1 x.Blocks.length C1] x (f1) := by
  have i0 := ok
  have h : own s w _ (x.Code, x.Blocks) _ := (own_two (own_mki i0) o1)
  refine own_fp h ?_
  simp
theorem BlocksResult.sees {w : World} {x : BlocksResult} {A1 : Option Addr} {C1 : Nat} (ok : x.Ok) (o1 : Sees w [.slice A1 x.Blocks.length C1] x.Blocks) : Sees w [.int .i64 x.Code, .slice A1 x.Blocks.length C1] x := by
  obtain ⟨f1, o1⟩ := o1
  exact ⟨_, BlocksResult.own_mk ok o1⟩
theorem BlocksResult.out {w0 w : World} {F : List Rsc} {x : BlocksResult} {A1 : Option Addr} {C1 : Nat} {f1 : List Nat} (h : Sep No w0 [mine [.slice A1 x.Blocks.length C1] x.Blocks f1] F w) (ok : x.Ok) : Res w0 w [.int .i64 x.Code, .slice A1 x.Blocks.length C1] x :=
  ⟨_, BlocksResult.own_mk ok (h.mine 0 rfl), by have := h.nd; simpa [blocks, mine] using this, fun b hb => (h.new b (by simpa [blocks, mine] using hb)).resolve_left id⟩
structure BytesResult where
  Code : Int
  Bytes : List UInt8
instance : Rp BytesResult := Rp.via fun x => (x.Code, x.Bytes)
noncomputable instance : DecidableEq BytesResult := fun _ _ => Classical.propDecidable _
instance : Inhabited BytesResult := ⟨⟨0, []⟩⟩
def BytesResult.val (x : BytesResult) (A1 : Option Addr) (C1 : Nat) : Value := .agg #[.int .i64 x.Code, .slice A1 x.Bytes.length C1]
def BytesResult.Ok (x : BytesResult) : Prop := I64ok x.Code
theorem own_BytesResult {s w cs} {x : BytesResult} {fp} (h : own s w cs x fp) : ∃ (A1 : Option Addr) (C1 : Nat) (f1 : List Nat) , cs = [.int .i64 x.Code, .slice A1 x.Bytes.length C1] ∧ fp = f1 ∧ x.Ok ∧ own s w [.slice A1 x.Bytes.length C1] x.Bytes f1 := by
  obtain ⟨_, _, _, _, rfl, e0, h0, k0⟩ := own_pair h
  obtain ⟨rfl, rfl, i0⟩ := own_int h0
  obtain ⟨A1, C1, rfl⟩ := own_slice k0
  exact ⟨A1, C1, _, rfl, by subst_vars; simp, i0, k0⟩
theorem own_BytesResultC {s w A1 C1} {x : BytesResult} {fp} (h : own s w [.int .i64 x.Code, .slice A1 x.Bytes.length C1] x fp) : ∃ (f1 : List Nat), fp = f1 ∧ x.Ok ∧ own s w [.slice A1 x.Bytes.length C1] x.Bytes f1 := by
  obtain ⟨_, _, f1, e, ef, ok, o1⟩ := own_BytesResult h
  simp only [List.cons.injEq, Value.slice.injEq, and_true, true_and] at e
  obtain ⟨rfl, rfl⟩ := e
  exact ⟨f1, ef, ok, o1⟩
theorem BytesResult.own_mk {s : Bool} {w : World} {x : BytesResult} {A1 : Option Addr} {C1 : Nat} {f1 : List Nat} (ok : x.Ok) (o1 : own s w [.slice A1 x.Bytes.length C1] x.Bytes f1) : own s w [.int .i64 x.Code, .slice A1 x.Bytes.length C1] x (f1) := by
  have i0 := ok
  have h : own s w _ (x.Code, x.Bytes) _ := (own_two (own_mki i0) o1)
  refine own_fp h ?_
  simp
theorem BytesResult.sees {w : World} {x : BytesResult} {A1 : Option Addr} {C1 : Nat} (ok : x.Ok) (o1 : Sees w [.slice A1 x.Bytes.length C1] x.Bytes) : Sees w [.int .i64 x.Code, .slice A1 x.Bytes.length C1] x := by
  obtain ⟨f1, o1⟩ := o1
  exact ⟨_, BytesResult.own_mk ok o1⟩
theorem BytesResult.out {w0 w : World} {F : List Rsc} {x : BytesResult} {A1 : Option Addr} {C1 : Nat} {f1 : List Nat} (h : Sep No w0 [mine [.slice A1 x.Bytes.length C1] x.Bytes f1] F w) (ok : x.Ok) : Res w0 w [.int .i64 x.Code, .slice A1 x.Bytes.length C1] x :=
  ⟨_, BytesResult.own_mk ok (h.mine 0 rfl), by have := h.nd; simpa [blocks, mine] using this, fun b hb => (h.new b (by simpa [blocks, mine] using hb)).resolve_left id⟩
structure Answer where
  Id : Int
  Code : Int
  Turn : Int
  Bytes : List UInt8
instance : Rp Answer := Rp.via fun x => (x.Id, x.Code, x.Turn, x.Bytes)
noncomputable instance : DecidableEq Answer := fun _ _ => Classical.propDecidable _
instance : Inhabited Answer := ⟨⟨0, 0, 0, []⟩⟩
def Answer.val (x : Answer) (A3 : Option Addr) (C3 : Nat) : Value := .agg #[.int .i64 x.Id, .int .i64 x.Code, .int .i64 x.Turn, .slice A3 x.Bytes.length C3]
def Answer.Ok (x : Answer) : Prop := I64ok x.Id ∧ I64ok x.Code ∧ I64ok x.Turn
theorem own_Answer {s w cs} {x : Answer} {fp} (h : own s w cs x fp) : ∃ (A3 : Option Addr) (C3 : Nat) (f3 : List Nat) , cs = [.int .i64 x.Id, .int .i64 x.Code, .int .i64 x.Turn, .slice A3 x.Bytes.length C3] ∧ fp = f3 ∧ x.Ok ∧ own s w [.slice A3 x.Bytes.length C3] x.Bytes f3 := by
  obtain ⟨_, _, _, _, rfl, e0, h0, k0⟩ := own_pair h
  obtain ⟨rfl, rfl, i0⟩ := own_int h0
  obtain ⟨_, _, _, _, rfl, e1, h1, k1⟩ := own_pair k0
  obtain ⟨rfl, rfl, i1⟩ := own_int h1
  obtain ⟨_, _, _, _, rfl, e2, h2, k2⟩ := own_pair k1
  obtain ⟨rfl, rfl, i2⟩ := own_int h2
  obtain ⟨A3, C3, rfl⟩ := own_slice k2
  exact ⟨A3, C3, _, rfl, by subst_vars; simp, ⟨i0, i1, i2⟩, k2⟩
theorem own_AnswerC {s w A3 C3} {x : Answer} {fp} (h : own s w [.int .i64 x.Id, .int .i64 x.Code, .int .i64 x.Turn, .slice A3 x.Bytes.length C3] x fp) : ∃ (f3 : List Nat), fp = f3 ∧ x.Ok ∧ own s w [.slice A3 x.Bytes.length C3] x.Bytes f3 := by
  obtain ⟨_, _, f3, e, ef, ok, o3⟩ := own_Answer h
  simp only [List.cons.injEq, Value.slice.injEq, and_true, true_and] at e
  obtain ⟨rfl, rfl⟩ := e
  exact ⟨f3, ef, ok, o3⟩
theorem Answer.own_mk {s : Bool} {w : World} {x : Answer} {A3 : Option Addr} {C3 : Nat} {f3 : List Nat} (ok : x.Ok) (o3 : own s w [.slice A3 x.Bytes.length C3] x.Bytes f3) : own s w [.int .i64 x.Id, .int .i64 x.Code, .int .i64 x.Turn, .slice A3 x.Bytes.length C3] x (f3) := by
  obtain ⟨i0, i1, i2⟩ := ok
  have h : own s w _ (x.Id, x.Code, x.Turn, x.Bytes) _ := (own_two (own_mki i0) (own_two (own_mki i1) (own_two (own_mki i2) o3)))
  refine own_fp h ?_
  simp
theorem Answer.sees {w : World} {x : Answer} {A3 : Option Addr} {C3 : Nat} (ok : x.Ok) (o3 : Sees w [.slice A3 x.Bytes.length C3] x.Bytes) : Sees w [.int .i64 x.Id, .int .i64 x.Code, .int .i64 x.Turn, .slice A3 x.Bytes.length C3] x := by
  obtain ⟨f3, o3⟩ := o3
  exact ⟨_, Answer.own_mk ok o3⟩
theorem Answer.out {w0 w : World} {F : List Rsc} {x : Answer} {A3 : Option Addr} {C3 : Nat} {f3 : List Nat} (h : Sep No w0 [mine [.slice A3 x.Bytes.length C3] x.Bytes f3] F w) (ok : x.Ok) : Res w0 w [.int .i64 x.Id, .int .i64 x.Code, .int .i64 x.Turn, .slice A3 x.Bytes.length C3] x :=
  ⟨_, Answer.own_mk ok (h.mine 0 rfl), by have := h.nd; simpa [blocks, mine] using this, fun b hb => (h.new b (by simpa [blocks, mine] using hb)).resolve_left id⟩
structure Desk where
  Queues : List (List Ticket)
  Aside : List Ticket
  Answers : List Answer
  Turn : Int
  Next : Int
instance : Rp Desk := Rp.via fun x => (x.Queues, x.Aside, x.Answers, x.Turn, x.Next)
noncomputable instance : DecidableEq Desk := fun _ _ => Classical.propDecidable _
instance : Inhabited Desk := ⟨⟨[], [], [], 0, 0⟩⟩
def Desk.val (x : Desk) (A0 : Option Addr) (C0 : Nat) (A1 : Option Addr) (C1 : Nat) (A2 : Option Addr) (C2 : Nat) : Value := .agg #[.slice A0 x.Queues.length C0, .slice A1 x.Aside.length C1, .slice A2 x.Answers.length C2, .int .i64 x.Turn, .int .i64 x.Next]
def Desk.Ok (x : Desk) : Prop := I64ok x.Turn ∧ I64ok x.Next
theorem own_Desk {s w cs} {x : Desk} {fp} (h : own s w cs x fp) : ∃ (A0 : Option Addr) (C0 : Nat) (A1 : Option Addr) (C1 : Nat) (A2 : Option Addr) (C2 : Nat) (f0 : List Nat) (f1 : List Nat) (f2 : List Nat) , cs = [.slice A0 x.Queues.length C0, .slice A1 x.Aside.length C1, .slice A2 x.Answers.length C2, .int .i64 x.Turn, .int .i64 x.Next] ∧ fp = f0 ++ (f1 ++ (f2)) ∧ x.Ok ∧ own s w [.slice A0 x.Queues.length C0] x.Queues f0 ∧ own s w [.slice A1 x.Aside.length C1] x.Aside f1 ∧ own s w [.slice A2 x.Answers.length C2] x.Answers f2 := by
  obtain ⟨_, _, _, _, rfl, e0, h0, k0⟩ := own_pair h
  obtain ⟨A0, C0, rfl⟩ := own_slice h0
  obtain ⟨_, _, _, _, rfl, e1, h1, k1⟩ := own_pair k0
  obtain ⟨A1, C1, rfl⟩ := own_slice h1
  obtain ⟨_, _, _, _, rfl, e2, h2, k2⟩ := own_pair k1
  obtain ⟨A2, C2, rfl⟩ := own_slice h2
  obtain ⟨_, _, _, _, rfl, e3, h3, k3⟩ := own_pair k2
  obtain ⟨rfl, rfl, i3⟩ := own_int h3
  obtain ⟨rfl, rfl, i4⟩ := own_int k3
  exact ⟨A0, C0, A1, C1, A2, C2, _, _, _, rfl, by subst_vars; simp, ⟨i3, i4⟩, h0, h1, h2⟩
theorem own_DeskC {s w A0 C0 A1 C1 A2 C2} {x : Desk} {fp} (h : own s w [.slice A0 x.Queues.length C0, .slice A1 x.Aside.length C1, .slice A2 x.Answers.length C2, .int .i64 x.Turn, .int .i64 x.Next] x fp) : ∃ (f0 : List Nat) (f1 : List Nat) (f2 : List Nat), fp = f0 ++ (f1 ++ (f2)) ∧ x.Ok ∧ own s w [.slice A0 x.Queues.length C0] x.Queues f0 ∧ own s w [.slice A1 x.Aside.length C1] x.Aside f1 ∧ own s w [.slice A2 x.Answers.length C2] x.Answers f2 := by
  obtain ⟨_, _, _, _, _, _, f0, f1, f2, e, ef, ok, o0, o1, o2⟩ := own_Desk h
  simp only [List.cons.injEq, Value.slice.injEq, and_true, true_and] at e
  obtain ⟨⟨rfl, rfl⟩, ⟨rfl, rfl⟩, ⟨rfl, rfl⟩⟩ := e
  exact ⟨f0, f1, f2, ef, ok, o0, o1, o2⟩
theorem Desk.own_mk {s : Bool} {w : World} {x : Desk} {A0 : Option Addr} {C0 : Nat} {A1 : Option Addr} {C1 : Nat} {A2 : Option Addr} {C2 : Nat} {f0 : List Nat} {f1 : List Nat} {f2 : List Nat} (ok : x.Ok) (o0 : own s w [.slice A0 x.Queues.length C0] x.Queues f0) (o1 : own s w [.slice A1 x.Aside.length C1] x.Aside f1) (o2 : own s w [.slice A2 x.Answers.length C2] x.Answers f2) : own s w [.slice A0 x.Queues.length C0, .slice A1 x.Aside.length C1, .slice A2 x.Answers.length C2, .int .i64 x.Turn, .int .i64 x.Next] x (f0 ++ (f1 ++ (f2))) := by
  obtain ⟨i3, i4⟩ := ok
  have h : own s w _ (x.Queues, x.Aside, x.Answers, x.Turn, x.Next) _ := (own_two o0 (own_two o1 (own_two o2 (own_two (own_mki i3) (own_mki i4)))))
  refine own_fp h ?_
  simp
theorem Desk.sees {w : World} {x : Desk} {A0 : Option Addr} {C0 : Nat} {A1 : Option Addr} {C1 : Nat} {A2 : Option Addr} {C2 : Nat} (ok : x.Ok) (o0 : Sees w [.slice A0 x.Queues.length C0] x.Queues) (o1 : Sees w [.slice A1 x.Aside.length C1] x.Aside) (o2 : Sees w [.slice A2 x.Answers.length C2] x.Answers) : Sees w [.slice A0 x.Queues.length C0, .slice A1 x.Aside.length C1, .slice A2 x.Answers.length C2, .int .i64 x.Turn, .int .i64 x.Next] x := by
  obtain ⟨f0, o0⟩ := o0
  obtain ⟨f1, o1⟩ := o1
  obtain ⟨f2, o2⟩ := o2
  exact ⟨_, Desk.own_mk ok o0 o1 o2⟩
theorem Desk.out {w0 w : World} {F : List Rsc} {x : Desk} {A0 : Option Addr} {C0 : Nat} {A1 : Option Addr} {C1 : Nat} {A2 : Option Addr} {C2 : Nat} {f0 : List Nat} {f1 : List Nat} {f2 : List Nat} (h : Sep No w0 [mine [.slice A0 x.Queues.length C0] x.Queues f0, mine [.slice A1 x.Aside.length C1] x.Aside f1, mine [.slice A2 x.Answers.length C2] x.Answers f2] F w) (ok : x.Ok) : Res w0 w [.slice A0 x.Queues.length C0, .slice A1 x.Aside.length C1, .slice A2 x.Answers.length C2, .int .i64 x.Turn, .int .i64 x.Next] x :=
  ⟨_, Desk.own_mk ok (h.mine 0 rfl) (h.mine 1 rfl) (h.mine 2 rfl), by have := h.nd; simpa [blocks, mine] using this, fun b hb => (h.new b (by simpa [blocks, mine] using hb)).resolve_left id⟩
structure DeskResult where
  Code : Int
  Desk : Desk
instance : Rp DeskResult := Rp.via fun x => (x.Code, x.Desk)
noncomputable instance : DecidableEq DeskResult := fun _ _ => Classical.propDecidable _
instance : Inhabited DeskResult := ⟨⟨0, default⟩⟩
def DeskResult.val (x : DeskResult) (A1 : Option Addr) (C1 : Nat) (A2 : Option Addr) (C2 : Nat) (A3 : Option Addr) (C3 : Nat) : Value := .agg #[.int .i64 x.Code, .slice A1 x.Desk.Queues.length C1, .slice A2 x.Desk.Aside.length C2, .slice A3 x.Desk.Answers.length C3, .int .i64 x.Desk.Turn, .int .i64 x.Desk.Next]
def DeskResult.Ok (x : DeskResult) : Prop := I64ok x.Code ∧ x.Desk.Ok
theorem own_DeskResult {s w cs} {x : DeskResult} {fp} (h : own s w cs x fp) : ∃ (A1 : Option Addr) (C1 : Nat) (A2 : Option Addr) (C2 : Nat) (A3 : Option Addr) (C3 : Nat) (f1 : List Nat) (f2 : List Nat) (f3 : List Nat) , cs = [.int .i64 x.Code, .slice A1 x.Desk.Queues.length C1, .slice A2 x.Desk.Aside.length C2, .slice A3 x.Desk.Answers.length C3, .int .i64 x.Desk.Turn, .int .i64 x.Desk.Next] ∧ fp = f1 ++ (f2 ++ (f3)) ∧ x.Ok ∧ own s w [.slice A1 x.Desk.Queues.length C1] x.Desk.Queues f1 ∧ own s w [.slice A2 x.Desk.Aside.length C2] x.Desk.Aside f2 ∧ own s w [.slice A3 x.Desk.Answers.length C3] x.Desk.Answers f3 := by
  obtain ⟨_, _, _, _, rfl, e0, h0, k0⟩ := own_pair h
  obtain ⟨rfl, rfl, i0⟩ := own_int h0
  obtain ⟨A1, C1, A2, C2, A3, C3, g1, g2, g3, rfl, rfl, i1, o1, o2, o3⟩ := own_Desk k0
  exact ⟨A1, C1, A2, C2, A3, C3, g1, g2, g3, rfl, by subst_vars; simp, ⟨i0, i1⟩, o1, o2, o3⟩
theorem own_DeskResultC {s w A1 C1 A2 C2 A3 C3} {x : DeskResult} {fp} (h : own s w [.int .i64 x.Code, .slice A1 x.Desk.Queues.length C1, .slice A2 x.Desk.Aside.length C2, .slice A3 x.Desk.Answers.length C3, .int .i64 x.Desk.Turn, .int .i64 x.Desk.Next] x fp) : ∃ (f1 : List Nat) (f2 : List Nat) (f3 : List Nat), fp = f1 ++ (f2 ++ (f3)) ∧ x.Ok ∧ own s w [.slice A1 x.Desk.Queues.length C1] x.Desk.Queues f1 ∧ own s w [.slice A2 x.Desk.Aside.length C2] x.Desk.Aside f2 ∧ own s w [.slice A3 x.Desk.Answers.length C3] x.Desk.Answers f3 := by
  obtain ⟨_, _, _, _, _, _, f1, f2, f3, e, ef, ok, o1, o2, o3⟩ := own_DeskResult h
  simp only [List.cons.injEq, Value.slice.injEq, and_true, true_and] at e
  obtain ⟨⟨rfl, rfl⟩, ⟨rfl, rfl⟩, ⟨rfl, rfl⟩⟩ := e
  exact ⟨f1, f2, f3, ef, ok, o1, o2, o3⟩
theorem DeskResult.own_mk {s : Bool} {w : World} {x : DeskResult} {A1 : Option Addr} {C1 : Nat} {A2 : Option Addr} {C2 : Nat} {A3 : Option Addr} {C3 : Nat} {f1 : List Nat} {f2 : List Nat} {f3 : List Nat} (ok : x.Ok) (o1 : own s w [.slice A1 x.Desk.Queues.length C1] x.Desk.Queues f1) (o2 : own s w [.slice A2 x.Desk.Aside.length C2] x.Desk.Aside f2) (o3 : own s w [.slice A3 x.Desk.Answers.length C3] x.Desk.Answers f3) : own s w [.int .i64 x.Code, .slice A1 x.Desk.Queues.length C1, .slice A2 x.Desk.Aside.length C2, .slice A3 x.Desk.Answers.length C3, .int .i64 x.Desk.Turn, .int .i64 x.Desk.Next] x (f1 ++ (f2 ++ (f3))) := by
  obtain ⟨i0, i1⟩ := ok
  have h : own s w _ (x.Code, x.Desk) _ := (own_two (own_mki i0) (Desk.own_mk (x := x.Desk) i1 o1 o2 o3))
  refine own_fp h ?_
  simp
theorem DeskResult.sees {w : World} {x : DeskResult} {A1 : Option Addr} {C1 : Nat} {A2 : Option Addr} {C2 : Nat} {A3 : Option Addr} {C3 : Nat} (ok : x.Ok) (o1 : Sees w [.slice A1 x.Desk.Queues.length C1] x.Desk.Queues) (o2 : Sees w [.slice A2 x.Desk.Aside.length C2] x.Desk.Aside) (o3 : Sees w [.slice A3 x.Desk.Answers.length C3] x.Desk.Answers) : Sees w [.int .i64 x.Code, .slice A1 x.Desk.Queues.length C1, .slice A2 x.Desk.Aside.length C2, .slice A3 x.Desk.Answers.length C3, .int .i64 x.Desk.Turn, .int .i64 x.Desk.Next] x := by
  obtain ⟨f1, o1⟩ := o1
  obtain ⟨f2, o2⟩ := o2
  obtain ⟨f3, o3⟩ := o3
  exact ⟨_, DeskResult.own_mk ok o1 o2 o3⟩
theorem DeskResult.out {w0 w : World} {F : List Rsc} {x : DeskResult} {A1 : Option Addr} {C1 : Nat} {A2 : Option Addr} {C2 : Nat} {A3 : Option Addr} {C3 : Nat} {f1 : List Nat} {f2 : List Nat} {f3 : List Nat} (h : Sep No w0 [mine [.slice A1 x.Desk.Queues.length C1] x.Desk.Queues f1, mine [.slice A2 x.Desk.Aside.length C2] x.Desk.Aside f2, mine [.slice A3 x.Desk.Answers.length C3] x.Desk.Answers f3] F w) (ok : x.Ok) : Res w0 w [.int .i64 x.Code, .slice A1 x.Desk.Queues.length C1, .slice A2 x.Desk.Aside.length C2, .slice A3 x.Desk.Answers.length C3, .int .i64 x.Desk.Turn, .int .i64 x.Desk.Next] x :=
  ⟨_, DeskResult.own_mk ok (h.mine 0 rfl) (h.mine 1 rfl) (h.mine 2 rfl), by have := h.nd; simpa [blocks, mine] using this, fun b hb => (h.new b (by simpa [blocks, mine] using hb)).resolve_left id⟩
structure rowCode where
  data : Int
  spare : Int
instance : Rp rowCode := Rp.via fun x => (x.data, x.spare)
noncomputable instance : DecidableEq rowCode := fun _ _ => Classical.propDecidable _
instance : Inhabited rowCode := ⟨⟨0, 0⟩⟩
def rowCode.val (x : rowCode) : Value := .agg #[.int .i64 x.data, .int .i64 x.spare]
def rowCode.Ok (x : rowCode) : Prop := I64ok x.data ∧ I64ok x.spare
theorem own_rowCode {s w cs} {x : rowCode} {fp} (h : own s w cs x fp) : cs = [.int .i64 x.data, .int .i64 x.spare] ∧ fp = [] ∧ x.Ok := by
  obtain ⟨_, _, _, _, rfl, e0, h0, k0⟩ := own_pair h
  obtain ⟨rfl, rfl, i0⟩ := own_int h0
  obtain ⟨rfl, rfl, i1⟩ := own_int k0
  exact ⟨rfl, by subst_vars; simp, ⟨i0, i1⟩⟩
theorem rowCode.own_mk {s : Bool} {w : World} {x : rowCode} (ok : x.Ok) : own s w [.int .i64 x.data, .int .i64 x.spare] x ([]) := by
  obtain ⟨i0, i1⟩ := ok
  have h : own s w _ (x.data, x.spare) _ := (own_two (own_mki i0) (own_mki i1))
  refine own_fp h ?_
  simp
end Go.Wk
