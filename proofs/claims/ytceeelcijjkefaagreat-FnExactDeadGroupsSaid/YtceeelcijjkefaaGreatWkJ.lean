/-
  What comes in, opened by its type: the data that an argument's cells stand for. No program is named here.
-/
import Derived.Test.YtceeelcijjkefaaGreatWkI
import Derived.WalkKit
import Derived.ProofKit
import Derived.OpenShut
import Derived.ShutString
import Derived.ChangeOld
import Derived.Below
set_option linter.unusedVariables false
set_option linter.unusedSimpArgs false
namespace Go.Wk
open Rp (sz own)
open Go.ChangeShapes Go.WideShapes Go.ChangeAt Go.RowKit
theorem mem_part {cs : List Value} {v : Value} (n : Nat) (h : v ∈ cs) : v ∈ cs.take n ∨ v ∈ cs.drop n := by
  rw [← List.take_append_drop n cs] at h
  exact List.mem_append.1 h
instance {α β : Type} [Rp α] [Rp β] : Rp (α × β) where
  sz := sz α + sz β
  pos := by have := Rp.pos (α := α); omega
  own s w cs x fp := ∃ f1 f2, fp = f1 ++ f2 ∧ own s w (cs.take (sz α)) x.1 f1 ∧ own s w (cs.drop (sz α)) x.2 f2
  len h := by
    obtain ⟨f1, f2, _, h1, h2⟩ := h
    have a := Rp.len h1
    have b := Rp.len h2
    have := Rp.pos (α := α)
    have := Rp.pos (α := β)
    simp only [List.length_take, List.length_drop] at a b
    omega
  one h v hv := by
    obtain ⟨f1, f2, _, h1, h2⟩ := h
    rcases mem_part (sz α) hv with hv | hv
    · exact Rp.one h1 v hv
    · exact Rp.one h2 v hv
  st h hb := by
    obtain ⟨f1, f2, rfl, h1, h2⟩ := h
    exact ⟨f1, f2, rfl, Rp.st h1 fun b hb' => hb b (by simp [hb']), Rp.st h2 fun b hb' => hb b (by simp [hb'])⟩
  lt h b hb := by
    obtain ⟨f1, f2, rfl, h1, h2⟩ := h
    rcases List.mem_append.1 hb with hb | hb
    · exact Rp.lt h1 b hb
    · exact Rp.lt h2 b hb
  weak h := by
    obtain ⟨f1, f2, rfl, h1, h2⟩ := h
    exact ⟨f1, f2, rfl, Rp.weak h1, Rp.weak h2⟩
/-- A structure read as a row of parts. -/
abbrev Rp.via {α β : Type} [Rp β] (f : α → β) : Rp α where
  sz := sz β
  pos := Rp.pos (α := β)
  own s w cs x fp := own s w cs (f x) fp
  len h := Rp.len h
  one h := Rp.one h
  st h := Rp.st h
  lt h := Rp.lt h
  weak h := Rp.weak h
/-! ### Opening by type -/
def Opens (P : Program) (t : TypeId) (α : Type) [Rp α] : Prop :=
  ∀ (H : Type) (enc : TypeId × Value → H) (w : World) (fuel : Nat) (cs : List Value) (x : DataW H × List MemPlace),
    DataW.trod enc P w 0 (fun _ => true) true fuel t cs = some x → ∃ (a : α) (fp : List Nat), own false w cs a fp
section
variable {P : Program} {t e : TypeId}
theorem opens_int (ht : P.underlying t = some (.int .i64)) : Opens P t Int := fun H enc w fuel cs x h => by
  obtain ⟨n, rfl, _, hw⟩ := DataW.trod_int ht h
  refine ⟨n, [], rfl, rfl, ?_⟩
  simp [Lit.wf, IntKind.has, IntKind.min, IntKind.max, IntKind.bits, IntKind.signed] at hw
  exact hw
theorem opens_u8 (ht : P.underlying t = some (.int .u8)) : Opens P t UInt8 := fun H enc w fuel cs x h => by
  obtain ⟨n, rfl, _, hw⟩ := DataW.trod_int ht h
  simp [Lit.wf, IntKind.has, IntKind.min, IntKind.max, IntKind.bits, IntKind.signed] at hw
  refine ⟨UInt8.ofNat n.toNat, [], ?_, rfl⟩
  have : n = ((UInt8.ofNat n.toNat).toNat : Int) := by simp; omega
  rw [← this]
theorem opens_bool (ht : P.underlying t = some .bool) : Opens P t Bool := fun H enc w fuel cs x h => by
  obtain ⟨n, rfl, _⟩ := DataW.trod_bool ht h
  exact ⟨n, [], rfl, rfl⟩
theorem opens_str (ht : P.underlying t = some .string) : Opens P t Str := fun H enc w fuel cs x h => by
  obtain ⟨n, rfl, _, hw⟩ := DataW.trod_string ht h
  exact ⟨⟨n⟩, [], rfl, rfl, hw⟩
theorem add_none (b o n : Nat) : Addr.add ⟨b, o, none⟩ n = ⟨b, o + n, none⟩ := by
  unfold Addr.add
  split
  · rename_i h; subst h; rfl
  · rfl
theorem cells_spot {w : World} {a : Addr} {n : Nat} {cs : List Value} (hn : 0 < n) (h : w.cells? 0 a n = some cs) : a.spot = none := by
  obtain ⟨_, hl, hc⟩ := World.cells?_some h
  have := hc 0 hn
  cases hs : cs[0]? with
  | none => rw [List.getElem?_eq_none_iff] at hs; omega
  | some v =>
    rw [hs] at this
    have h2 : (a.add 0) = a := by simp [Addr.add]
    rw [h2] at this
    exact World.cell?_spot this
theorem cells_row {w : World} {b o n : Nat} {cs : List Value} (hn : 0 < n) (h : w.cells? 0 ⟨b, o, none⟩ n = some cs) :
    ∃ cur T fr, w.heap[b]? = some (.cells cur T fr) ∧ o + n ≤ cur.size ∧ (cur.toList.drop o).take n = cs := by
  obtain ⟨_, hl, hc⟩ := World.cells?_some h
  simp only [add_none] at hc
  have hcell : ∀ i, i < n → ∃ v, cs[i]? = some v ∧ w.cell? ⟨b, o + i, none⟩ = some v := fun i hi => by
    have hlt : i < cs.length := by omega
    exact ⟨cs[i], by simp, by have := hc i hi; rw [List.getElem?_eq_getElem hlt] at this; exact this⟩
  obtain ⟨v0, _, hv0⟩ := hcell 0 hn
  unfold World.cell? at hv0
  split at hv0
  case h_2 => cases hv0
  case h_1 cur T fr hb =>
    have hget : ∀ i, i < n → cur[o + i]? = cs[i]? := fun i hi => by
      obtain ⟨v, hv, hw⟩ := hcell i hi
      unfold World.cell? at hw
      simp only [hb] at hw
      rw [hv]
      simpa using hw
    refine ⟨cur, T, fr, hb, ?_, ?_⟩
    · have := hget (n - 1) (by omega)
      rw [List.getElem?_eq_getElem (by omega)] at this
      have := (Array.getElem?_eq_some_iff.1 this).1
      omega
    · apply List.ext_getElem?
      intro i
      rw [List.getElem?_take]
      split
      · rename_i hi
        rw [List.getElem?_drop, Array.getElem?_toList]
        exact hget i hi
      · rw [List.getElem?_eq_none (by omega)]
/-- Elements of one kind, each opened. -/
theorem ownL_of {α : Type} [Rp α] {w : World} : ∀ (n : Nat) (cs : List Value), (∀ k, k < n → ∃ (a : α) (fp : List Nat), own false w ((cs.drop (k * sz α)).take (sz α)) a fp) →
    ∃ (xs : List α) (fp : List Nat), xs.length = n ∧ ownL false w cs xs fp
  | 0, _, _ => ⟨[], [], rfl, rfl⟩
  | n + 1, cs, h => by
    obtain ⟨a, f1, h1⟩ := h 0 (by omega)
    obtain ⟨xs, f2, hl, h2⟩ := ownL_of n (cs.drop (sz α)) fun k hk => by
      obtain ⟨a, fp, h⟩ := h (k + 1) (by omega)
      refine ⟨a, fp, ?_⟩
      rw [List.drop_drop]
      rwa [show sz α + k * sz α = (k + 1) * sz α from by rw [Nat.add_mul]; omega]
    exact ⟨a :: xs, f1 ++ f2, by simp [hl], f1, f2, rfl, by simpa using h1, h2⟩
theorem opens_list {α : Type} [Rp α] (ht : P.underlying t = some (.slice e)) (hz : P.cellsOf e = sz α) (ho : Opens P e α) : Opens P t (List α) := fun H enc w fuel cs x h => by
  rcases DataW.trod_slice ht h with ⟨rfl, _⟩ | ⟨a, len, cap, elems, rest, n, _, rfl, rfl, hb, hl, hm, hlen, hel, hsp, hns⟩
  · exact ⟨[], [], .inr (.inl ⟨rfl, rfl, rfl⟩)⟩
  rcases Nat.eq_zero_or_pos len with h0 | h0
  · subst h0
    exact ⟨[], [], .inl ⟨rfl, _, _, rfl, rfl, rfl⟩⟩
  rw [hz] at hel hsp
  have hpos := Rp.pos (α := α)
  obtain ⟨hrl, hre⟩ := hsp rfl
  have hs0 : a.spot = none := by
    have h1 := hel 0 h0
    rw [List.getElem?_eq_getElem (by omega), Option.bind_eq_some_iff] at h1
    obtain ⟨c, h1, _⟩ := h1
    rw [show (a.add (0 * sz α)) = a from by simp [Addr.add]] at h1
    exact cells_spot hpos h1
  obtain ⟨b, o, sp⟩ := a
  subst hs0
  simp only [add_none] at hel hre
  have all : ∀ i, i < cap → ∃ (c : List Value) (y : DataW H × List MemPlace), w.cells? 0 ⟨b, o + i * sz α, none⟩ (sz α) = some c ∧ DataW.trod enc P w 0 (fun _ => true) true n e c = some y := fun i hi => by
    have : ∃ y, (w.cells? 0 ⟨b, o + i * sz α, none⟩ (sz α)).bind (DataW.trod enc P w 0 (fun _ => true) true n e) = some y := by
      by_cases hi' : i < len
      · exact ⟨elems[i]'(by omega), (hel i hi').trans (List.getElem?_eq_getElem _)⟩
      · have := hre (i - len) (by omega)
        rw [show len + (i - len) = i from by omega] at this
        exact ⟨rest[i - len]'(by omega), this.trans (List.getElem?_eq_getElem _)⟩
    obtain ⟨y, hy⟩ := this
    rw [Option.bind_eq_some_iff] at hy
    obtain ⟨c, h1, h2⟩ := hy
    exact ⟨c, y, h1, h2⟩
  obtain ⟨c0, _, hc0, _⟩ := all 0 (by omega)
  obtain ⟨cur, T, fr, hbk, _, _⟩ := cells_row hpos hc0
  have each : ∀ i, i < cap → ∃ (c : List Value) (y : DataW H × List MemPlace), o + i * sz α + sz α ≤ cur.size ∧ (cur.toList.drop (o + i * sz α)).take (sz α) = c ∧ DataW.trod enc P w 0 (fun _ => true) true n e c = some y := fun i hi => by
    obtain ⟨c, y, h1, h2⟩ := all i hi
    obtain ⟨cur', T', fr', hbk', h3, h4⟩ := cells_row hpos h1
    rw [hbk] at hbk'
    simp only [Option.some.injEq, Obj.cells.injEq] at hbk'
    obtain ⟨rfl, _⟩ := hbk'
    exact ⟨c, y, h3, h4, h2⟩
  obtain ⟨xs, fs, hxl, hxs⟩ := ownL_of (α := α) (w := w) len (cur.toList.drop o) fun k hk => by
    obtain ⟨c, y, _, h2, h3⟩ := each k (by omega)
    obtain ⟨a, fp, ha⟩ := ho H enc w n c y h3
    refine ⟨a, fp, ?_⟩
    rw [List.drop_drop, h2]
    exact ha
  refine ⟨xs, b :: fs, .inr (.inr ⟨b, o, cap, cur, T, fr, fs, by rw [hxl], rfl, hbk, (fun h => by cases h), by omega, hm, ?_, hxs⟩)⟩
  obtain ⟨_, _, h1, _⟩ := each (cap - 1) (by omega)
  have : cap * sz α = (cap - 1) * sz α + sz α := by
    rw [← Nat.succ_mul, Nat.succ_eq_add_one, Nat.sub_add_cancel (by omega)]
  omega
/-- The fields of a structure from a cell on. -/
def OpensF (P : Program) (fs : List Field) (off : Nat) (α : Type) [Rp α] : Prop :=
  ∀ (H : Type) (enc : TypeId × Value → H) (w : World) (n : Nat) (cs : List Value), (∀ f ∈ fs, ∃ y, DataW.trod enc P w 0 (fun _ => true) true n f.type ((cs.drop f.offset).take (P.cellsOf f.type)) = some y) →
    ∃ (a : α) (fp : List Nat), own false w ((cs.drop off).take (sz α)) a fp
theorem opensF_one {α : Type} [Rp α] {f : Field} {off : Nat} (h1 : f.offset = off) (h2 : P.cellsOf f.type = sz α) (h : Opens P f.type α) : OpensF P [f] off α := fun H enc w n cs hf => by
  obtain ⟨y, hy⟩ := hf f (by simp)
  rw [h1, h2] at hy
  exact h H enc w n _ y hy
theorem opensF_cons {α β : Type} [Rp α] [Rp β] {f : Field} {fs : List Field} {off : Nat} (h1 : f.offset = off) (h2 : P.cellsOf f.type = sz α) (h : Opens P f.type α) (hs : OpensF P fs (off + sz α) β) : OpensF P (f :: fs) off (α × β) := fun H enc w n cs hf => by
  obtain ⟨y, hy⟩ := hf f (by simp)
  rw [h1, h2] at hy
  obtain ⟨a, f1, ha⟩ := h H enc w n _ y hy
  obtain ⟨b, f2, hb⟩ := hs H enc w n cs fun f hf' => hf f (by simp [hf'])
  refine ⟨(a, b), f1 ++ f2, f1, f2, rfl, ?_, ?_⟩
  · rw [List.take_take]
    rw [show min (sz α) (sz (α × β)) = sz α from Nat.min_eq_left (Nat.le_add_right _ _)]
    exact ha
  · rw [List.drop_take, List.drop_drop]
    rw [show sz (α × β) - sz α = sz β from Nat.add_sub_cancel_left ..]
    exact hb
theorem opens_struct {α β : Type} [Rp β] {fs : List Field} (f : α → β) (g : β → α) (hfg : ∀ b, f (g b) = b) (ht : P.underlying t = some (.struct fs.toArray)) (hz : P.cellsOf t = sz β) (h : OpensF P fs 0 β) :
    @Opens P t α (Rp.via f) := fun H enc w fuel cs x hx => by
  obtain ⟨xs, n, _, _, hl, hxl, hf⟩ := DataW.trod_struct ht hx
  obtain ⟨b, fp, hb⟩ := h H enc w n cs fun fd hfd => by
    obtain ⟨i, hi⟩ := List.getElem?_of_mem hfd
    have hlt := (List.getElem?_eq_some_iff.1 hi).1
    have hil : i < xs.length := by rw [hxl]; simpa using hlt
    refine ⟨xs[i], ?_⟩
    rw [hf i fd (by simpa using hi), List.getElem?_eq_getElem hil]
  refine ⟨g b, fp, ?_⟩
  show own false w cs (f (g b)) fp
  rw [hfg]
  rwa [List.drop_zero, List.take_of_length_le (by omega)] at hb
theorem open_arg {α : Type} [Rp α] (o : Opens P t α) {H : Type} {enc : TypeId × Value → H} {w : World} {v : Value} {d : DataW H} {ps : List MemPlace}
    (hd : DataW.Trod enc P w 0 (fun _ => true) true t v d ps) : ∃ (a : α) (fp : List Nat), own false w v.cells.toList a fp := by
  obtain ⟨fuel, hf⟩ := hd
  exact o H enc w fuel _ _ hf
end
theorem Ext.below {w w' : World} (h : Ext No w w') : Below w.heap.size w w' := ⟨h.os, h.tape, h.output, h.size, fun k hk => h.block k hk (fun h => h)⟩
/-! ### The structures -/
instance : Rp Shape := Rp.via fun x => (x.Groups, x.Column, x.Data, x.Spare, x.Rows, x.Cap, x.Batch, x.Queue, x.Stage)
instance : Rp Ticket := Rp.via fun x => (x.Id, x.Kind, Str.mk x.Name, x.Group)
theorem own_pair {α β : Type} [Rp α] [Rp β] {s w cs} {a : α} {b : β} {fp} (h : own s w cs (a, b) fp) : ∃ c1 c2 f1 f2, cs = c1 ++ c2 ∧ fp = f1 ++ f2 ∧ own s w c1 a f1 ∧ own s w c2 b f2 := by
  obtain ⟨f1, f2, e, h1, h2⟩ := h
  exact ⟨_, _, f1, f2, (List.take_append_drop _ _).symm, e, h1, h2⟩
def Shape.Ok (x : Shape) : Prop := I64ok x.Groups ∧ I64ok x.Column ∧ I64ok x.Data ∧ I64ok x.Spare ∧ I64ok x.Rows ∧ I64ok x.Cap ∧ I64ok x.Batch ∧ I64ok x.Queue ∧ I64ok x.Stage
def Ticket.Ok (x : Ticket) : Prop := I64ok x.Id ∧ I64ok x.Kind ∧ I64ok x.Group ∧ x.Name.size ≤ maxLen
theorem own_shape {s w cs} {x : Shape} {fp} (h : own s w cs x fp) : cs = x.v.cells.toList ∧ x.Ok := by
  obtain ⟨_, _, _, _, rfl, _, ⟨rfl, _, h1⟩, k1⟩ := own_pair h
  obtain ⟨_, _, _, _, rfl, _, ⟨rfl, _, h2⟩, k2⟩ := own_pair k1
  obtain ⟨_, _, _, _, rfl, _, ⟨rfl, _, h3⟩, k3⟩ := own_pair k2
  obtain ⟨_, _, _, _, rfl, _, ⟨rfl, _, h4⟩, k4⟩ := own_pair k3
  obtain ⟨_, _, _, _, rfl, _, ⟨rfl, _, h5⟩, k5⟩ := own_pair k4
  obtain ⟨_, _, _, _, rfl, _, ⟨rfl, _, h6⟩, k6⟩ := own_pair k5
  obtain ⟨_, _, _, _, rfl, _, ⟨rfl, _, h7⟩, k7⟩ := own_pair k6
  obtain ⟨_, _, _, _, rfl, _, ⟨rfl, _, h8⟩, k8⟩ := own_pair k7
  obtain ⟨rfl, _, h9⟩ := own_int k8
  exact ⟨rfl, h1, h2, h3, h4, h5, h6, h7, h8, h9⟩
theorem own_ticket {s w cs} {x : Ticket} {fp} (h : own s w cs x fp) : cs = x.v.cells.toList ∧ x.Ok := by
  obtain ⟨_, _, _, _, rfl, _, ⟨rfl, _, h1⟩, k1⟩ := own_pair h
  obtain ⟨_, _, _, _, rfl, _, ⟨rfl, _, h2⟩, k2⟩ := own_pair k1
  obtain ⟨_, _, _, _, rfl, _, ⟨rfl, _, h3⟩, k3⟩ := own_pair k2
  obtain ⟨rfl, _, h4⟩ := own_int k3
  exact ⟨rfl, h1, h2, h4, h3⟩
theorem agg_of {cs : Array Value} {v : Value} (hv : v = .agg cs) {l : List Value} (h : v.cells.toList = l) : v = .agg l.toArray := by
  subst hv; subst h; rfl
end Go.Wk
