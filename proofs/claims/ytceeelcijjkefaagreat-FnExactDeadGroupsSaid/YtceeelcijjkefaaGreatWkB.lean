/-
  One law an operation. No program is named here.
-/
import Derived.Test.YtceeelcijjkefaaGreatWkA
set_option linter.unusedVariables false
set_option linter.unusedSimpArgs false
namespace Go.Wk
section
variable {P : Program} {n : Nat} {L : Env} {w : World} {d : Option Tmp} {ty : TypeId} {p : String} {af : Array Edge} {g : Option (Nat × Bool)}
theorem py_move {x v} (hx : evL L x = some v) : Py P n L w ⟨d, .move x, ty, p, af, g⟩ v := fun a ha => by simp [execOp, ha.eval hx]
theorem py_assign {x v} (hx : evL L x = some v) : Py P n L w ⟨d, .assign x, ty, p, af, g⟩ v := fun a ha => by simp [execOp, ha.eval hx]
theorem py_pick {c x y b v u} (hc : evL L c = some (.bool b)) (hx : evL L x = some v) (hy : evL L y = some u) : Py P n L w ⟨d, .pick c x y, ty, p, af, g⟩ (if b then v else u) := fun a ha => by
  simp [execOp, ha.eval hx, ha.eval hc, ha.eval hy, asBool]
theorem py_pickT {c x y v} (hc : evL L c = some (.bool true)) (hx : evL L x = some v) : Py P n L w ⟨d, .pick c x y, ty, p, af, g⟩ v := fun a ha => by
  simp [execOp, ha.eval hx, ha.eval hc, asBool]
theorem py_pickF {c x y v} (hc : evL L c = some (.bool false)) (hy : evL L y = some v) : Py P n L w ⟨d, .pick c x y, ty, p, af, g⟩ v := fun a ha => by
  simp [execOp, ha.eval hy, ha.eval hc, asBool]
theorem py_not {x b xt} (hx : evL L x = some (.bool b)) : Py P n L w ⟨d, .unOp .not xt x, ty, p, af, g⟩ (.bool !b) := fun a ha => by
  simp [execOp, ha.eval hx, Op.unary]
theorem py_notd {x xt q} [i : Decidable q] (hx : evL L x = some (.bool (@decide q i))) : Py P n L w ⟨d, .unOp .not xt x, ty, p, af, g⟩ (.bool (decide (¬ q))) := fun a ha => by
  simp [execOp, ha.eval hx, Op.unary]
section ints
variable {k : IntKind} {x y : Operand} {i j : Int} {xt yt : TypeId}
theorem py_add (hx : evL L x = some (.int k i)) (hy : evL L y = some (.int k j)) (h : k.wrap (i + j) = i + j) : Py P n L w ⟨d, .binOp .add xt x y yt, ty, p, af, g⟩ (.int k (i + j)) := fun a ha => by
  simp [execOp, ha.eval hx, ha.eval hy, eqGuard, binOp, Op.intArith, h]
theorem py_sub (hx : evL L x = some (.int k i)) (hy : evL L y = some (.int k j)) (h : k.wrap (i - j) = i - j) : Py P n L w ⟨d, .binOp .sub xt x y yt, ty, p, af, g⟩ (.int k (i - j)) := fun a ha => by
  simp [execOp, ha.eval hx, ha.eval hy, eqGuard, binOp, Op.intArith, h]
theorem py_mul (hx : evL L x = some (.int k i)) (hy : evL L y = some (.int k j)) (h : k.wrap (i * j) = i * j) : Py P n L w ⟨d, .binOp .mul xt x y yt, ty, p, af, g⟩ (.int k (i * j)) := fun a ha => by
  simp [execOp, ha.eval hx, ha.eval hy, eqGuard, binOp, Op.intArith, h]
theorem py_addw (hx : evL L x = some (.int k i)) (hy : evL L y = some (.int k j)) : Py P n L w ⟨d, .binOp .add xt x y yt, ty, p, af, g⟩ (.int k (k.wrap (i + j))) := fun a ha => by
  simp [execOp, ha.eval hx, ha.eval hy, eqGuard, binOp, Op.intArith]
theorem py_subw (hx : evL L x = some (.int k i)) (hy : evL L y = some (.int k j)) : Py P n L w ⟨d, .binOp .sub xt x y yt, ty, p, af, g⟩ (.int k (k.wrap (i - j))) := fun a ha => by
  simp [execOp, ha.eval hx, ha.eval hy, eqGuard, binOp, Op.intArith]
theorem py_mulw (hx : evL L x = some (.int k i)) (hy : evL L y = some (.int k j)) : Py P n L w ⟨d, .binOp .mul xt x y yt, ty, p, af, g⟩ (.int k (k.wrap (i * j))) := fun a ha => by
  simp [execOp, ha.eval hx, ha.eval hy, eqGuard, binOp, Op.intArith]
theorem py_quo (hx : evL L x = some (.int k i)) (hy : evL L y = some (.int k j)) (h0 : j ≠ 0) (h : k.wrap (i.tdiv j) = i.tdiv j) : Py P n L w ⟨d, .binOp .quo xt x y yt, ty, p, af, g⟩ (.int k (i.tdiv j)) := fun a ha => by
  simp [execOp, ha.eval hx, ha.eval hy, eqGuard, binOp, Op.intDiv, h, h0]
theorem py_rem (hx : evL L x = some (.int k i)) (hy : evL L y = some (.int k j)) (h0 : j ≠ 0) : Py P n L w ⟨d, .binOp .rem xt x y yt, ty, p, af, g⟩ (.int k (i.tmod j)) := fun a ha => by
  simp [execOp, ha.eval hx, ha.eval hy, eqGuard, binOp, Op.intDiv, h0]
theorem py_eql (hx : evL L x = some (.int k i)) (hy : evL L y = some (.int k j)) : Py P n L w ⟨d, .binOp .eql xt x y yt, ty, p, af, g⟩ (.bool (decide (i = j))) := fun a ha => by
  simp [execOp, ha.eval hx, ha.eval hy, eqGuard, binOp, Op.intCmp]
  rfl
theorem py_neq (hx : evL L x = some (.int k i)) (hy : evL L y = some (.int k j)) : Py P n L w ⟨d, .binOp .neq xt x y yt, ty, p, af, g⟩ (.bool (decide (i ≠ j))) := fun a ha => by
  simp [execOp, ha.eval hx, ha.eval hy, eqGuard, binOp, Op.intCmp, bne, BEq.beq]
theorem py_lss (hx : evL L x = some (.int k i)) (hy : evL L y = some (.int k j)) : Py P n L w ⟨d, .binOp .lss xt x y yt, ty, p, af, g⟩ (.bool (decide (i < j))) := fun a ha => by
  simp [execOp, ha.eval hx, ha.eval hy, eqGuard, binOp, Op.intCmp]
theorem py_leq (hx : evL L x = some (.int k i)) (hy : evL L y = some (.int k j)) : Py P n L w ⟨d, .binOp .leq xt x y yt, ty, p, af, g⟩ (.bool (decide (i ≤ j))) := fun a ha => by
  simp [execOp, ha.eval hx, ha.eval hy, eqGuard, binOp, Op.intCmp]
theorem py_gtr (hx : evL L x = some (.int k i)) (hy : evL L y = some (.int k j)) : Py P n L w ⟨d, .binOp .gtr xt x y yt, ty, p, af, g⟩ (.bool (decide (j < i))) := fun a ha => by
  simp [execOp, ha.eval hx, ha.eval hy, eqGuard, binOp, Op.intCmp]
theorem py_geq (hx : evL L x = some (.int k i)) (hy : evL L y = some (.int k j)) : Py P n L w ⟨d, .binOp .geq xt x y yt, ty, p, af, g⟩ (.bool (decide (j ≤ i))) := fun a ha => by
  simp [execOp, ha.eval hx, ha.eval hy, eqGuard, binOp, Op.intCmp]
theorem py_xor (hx : evL L x = some (.int k i)) (hy : evL L y = some (.int k j)) : Py P n L w ⟨d, .binOp .xor xt x y yt, ty, p, af, g⟩ (.int k (k.wrap (BitVec.ofInt k.bits i ^^^ BitVec.ofInt k.bits j).toNat)) := fun a ha => by
  simp [execOp, ha.eval hx, ha.eval hy, eqGuard, binOp, Op.intBits]
theorem py_and (hx : evL L x = some (.int k i)) (hy : evL L y = some (.int k j)) : Py P n L w ⟨d, .binOp .and xt x y yt, ty, p, af, g⟩ (.int k (k.wrap (BitVec.ofInt k.bits i &&& BitVec.ofInt k.bits j).toNat)) := fun a ha => by
  simp [execOp, ha.eval hx, ha.eval hy, eqGuard, binOp, Op.intBits]
theorem py_shl {k2 : IntKind} (hx : evL L x = some (.int k i)) (hy : evL L y = some (.int k2 j)) (h0 : 0 ≤ j) : Py P n L w ⟨d, .binOp .shl xt x y yt, ty, p, af, g⟩ (.int k (k.wrap (i * 2 ^ min j.toNat k.bits))) := fun a ha => by
  simp [execOp, ha.eval hx, ha.eval hy, eqGuard, binOp, Op.shift, show ¬ j < 0 from by omega]
theorem py_shr {k2 : IntKind} (hx : evL L x = some (.int k i)) (hy : evL L y = some (.int k2 j)) (h0 : 0 ≤ j) : Py P n L w ⟨d, .binOp .shr xt x y yt, ty, p, af, g⟩ (.int k (i.fdiv (2 ^ min j.toNat k.bits))) := fun a ha => by
  simp [execOp, ha.eval hx, ha.eval hy, eqGuard, binOp, Op.shift, show ¬ j < 0 from by omega]
theorem py_conv {k2 : IntKind} {src dst : TypeId} {td} (hs : P.underlying src = some td) (hd : P.underlying dst = some (.int k2)) (hx : evL L x = some (.int k i)) (h : k2.wrap i = i) :
    Py P n L w ⟨d, .convert src dst x, ty, p, af, g⟩ (.int k2 i) := fun a ha => by
  simp [execOp, ha.eval hx, convert, run_underlying hs, run_underlying hd, Conv.intToInt, h]
theorem py_convw {k2 : IntKind} {src dst : TypeId} {td} (hs : P.underlying src = some td) (hd : P.underlying dst = some (.int k2)) (hx : evL L x = some (.int k i)) :
    Py P n L w ⟨d, .convert src dst x, ty, p, af, g⟩ (.int k2 (k2.wrap i)) := fun a ha => by
  simp [execOp, ha.eval hx, convert, run_underlying hs, run_underlying hd, Conv.intToInt]
end ints
section strs
variable {x y : Operand} {s t : ByteArray} {xt yt : TypeId}
theorem py_seql (hx : evL L x = some (.string s)) (hy : evL L y = some (.string t)) : Py P n L w ⟨d, .binOp .eql xt x y yt, ty, p, af, g⟩ (.bool (s.toList == t.toList)) := fun a ha => by
  simp [execOp, ha.eval hx, ha.eval hy, eqGuard, binOp, Op.stringOp]
theorem py_sneq (hx : evL L x = some (.string s)) (hy : evL L y = some (.string t)) : Py P n L w ⟨d, .binOp .neq xt x y yt, ty, p, af, g⟩ (.bool (!(s.toList == t.toList))) := fun a ha => by
  simp [execOp, ha.eval hx, ha.eval hy, eqGuard, binOp, Op.stringOp]
theorem py_slss (hx : evL L x = some (.string s)) (hy : evL L y = some (.string t)) : Py P n L w ⟨d, .binOp .lss xt x y yt, ty, p, af, g⟩ (.bool (Op.bytesLess s.toList t.toList)) := fun a ha => by
  simp [execOp, ha.eval hx, ha.eval hy, eqGuard, binOp, Op.stringOp]
theorem py_sadd (hx : evL L x = some (.string s)) (hy : evL L y = some (.string t)) (h : s.size + t.size ≤ 9223372036854775807) : Py P n L w ⟨d, .binOp .add xt x y yt, ty, p, af, g⟩ (.string (s ++ t)) := fun a ha => by
  simp [execOp, ha.eval hx, ha.eval hy, eqGuard, binOp, Op.stringOp]
  omega
theorem py_slen {at0 : TypeId} (hu : P.underlying at0 = some .string) (hx : evL L x = some (.string s)) :
    Py P n L w ⟨d, .call ⟨.builtin .len, #[x], #[at0]⟩, ty, p, af, g⟩ (.int .i64 s.size) := fun a ha => by
  simp [execOp, resolve, invoke, builtin, Builtin.len_, ha.eval hx, run_underlying hu, goInt]
/-- A byte of a string; 0 behind its end. -/
def _root_.Go.Wk.gB (s : ByteArray) (k : Nat) : UInt8 := if h : k < s.size then s[k] else 0
theorem py_sidxz {at0 : TypeId} {ix : Operand} {kd : IntKind} {z : Int} (hu : P.underlying at0 = some .string) (hx : evL L x = some (.string s)) (hi : evL L ix = some (.int kd z)) (k : Nat) (hz : z = k) (hk : k < s.size) :
    Py P n L w ⟨d, .index at0 x ix, ty, p, af, g⟩ (.int .u8 (gB s k).toNat) := fun a ha => by
  subst hz
  have h0 : (0 : Int) ≤ (k : Int) := by omega
  have h2 : s[k]? = some (s[k]'hk) := by simp [hk]
  have h3 : gB s k = s[k]'hk := by simp [gB, hk]
  simp [execOp, ha.eval hx, ha.eval hi, Instr.index, asIntOf, run_underlying hu, h2, h3]
end strs
section bools
theorem run_equalIn_bool (m : Nat) {t : TypeId} (hu : P.underlying t = some .bool) (b c : Bool) : (Op.equalIn (m + 1) t (.bool b) (.bool c)).run P w = .ok (b == c) w := by
  simp [Op.equalIn, run_underlying hu]
theorem run_equal_bool {t : TypeId} (hu : P.underlying t = some .bool) (b c : Bool) : (Op.equal t (.bool b) (.bool c)).run P w = .ok (b == c) w := run_equalIn_bool 9999 hu b c
theorem run_beql {t : TypeId} (hu : P.underlying t = some .bool) (b c : Bool) : (binOp .eql t (.bool b) (.bool c)).run P w = .ok (.bool (b == c)) w := by
  simp only [binOp, Sem.run_bind, Sem.run_pure, run_equal_bool hu, Result.andThen_ok]
theorem run_bneq {t : TypeId} (hu : P.underlying t = some .bool) (b c : Bool) : (binOp .neq t (.bool b) (.bool c)).run P w = .ok (.bool (!(b == c))) w := by
  simp only [binOp, Sem.run_bind, Sem.run_pure, run_equal_bool hu, Result.andThen_ok]
variable {x y : Operand} {b c : Bool} {xt yt : TypeId}
theorem py_beql (hu : P.underlying xt = some .bool) (hx : evL L x = some (.bool b)) (hy : evL L y = some (.bool c)) : Py P n L w ⟨d, .binOp .eql xt x y yt, ty, p, af, g⟩ (.bool (b == c)) := fun a ha => by
  simp [execOp, ha.eval hx, ha.eval hy, eqGuard, run_beql hu]
theorem py_bneq (hu : P.underlying xt = some .bool) (hx : evL L x = some (.bool b)) (hy : evL L y = some (.bool c)) : Py P n L w ⟨d, .binOp .neq xt x y yt, ty, p, af, g⟩ (.bool (!(b == c))) := fun a ha => by
  simp [execOp, ha.eval hx, ha.eval hy, eqGuard, run_bneq hu]
end bools
/-! ### Slices' values -/
theorem py_len {at0 : TypeId} {x : Operand} {e : TypeId} {ad : Option Addr} {len cap : Nat} (hu : P.underlying at0 = some (.slice e)) (hx : evL L x = some (.slice ad len cap)) :
    Py P n L w ⟨d, .call ⟨.builtin .len, #[x], #[at0]⟩, ty, p, af, g⟩ (.int .i64 len) := fun a ha => by
  simp [execOp, resolve, invoke, builtin, Builtin.len_, ha.eval hx, run_underlying hu, goInt]
theorem py_cap {at0 : TypeId} {x : Operand} {e : TypeId} {ad : Option Addr} {len cap : Nat} (hu : P.underlying at0 = some (.slice e)) (hx : evL L x = some (.slice ad len cap)) :
    Py P n L w ⟨d, .call ⟨.builtin .cap, #[x], #[at0]⟩, ty, p, af, g⟩ (.int .i64 cap) := fun a ha => by
  simp [execOp, resolve, invoke, builtin, Builtin.cap_, ha.eval hx, run_underlying hu, goInt]
theorem add_lit (b o m : Nat) : (⟨b, o, none⟩ : Addr).add m = ⟨b, o + m, none⟩ := by
  unfold Addr.add; split <;> simp_all
theorem py_idx {st e : TypeId} {x ix : Operand} {b o len cap k sz : Nat} {kd : IntKind} (hu : P.underlying st = some (.slice e)) (hs : ∀ w, (sizeOf e).run P w = .ok sz w)
    (hx : evL L x = some (.slice (some ⟨b, o, none⟩) len cap)) (hi : evL L ix = some (.int kd k)) (hk : k < len) :
    Py P n L w ⟨d, .indexAddr st x ix, ty, p, af, g⟩ (.pointer (some ⟨b, o + k * sz, none⟩)) := fun a ha => by
  simp [execOp, ha.eval hx, ha.eval hi, Instr.indexAt, asIntOf, run_underlying hu, hs, hk, add_lit]
theorem py_field {s : TypeId} {fs : Array Field} {x : Operand} {b o i sz off : Nat} {f : Field} (hu : P.underlying s = some (.struct fs)) (hf : fs[i]? = some f) (hs : ∀ w, (sizeOf f.type).run P w = .ok (sz + 1) w)
    (hx : evL L x = some (.pointer (some ⟨b, o, none⟩))) (ho : o + f.offset = off) : Py P n L w ⟨d, .fieldAddr s x i, ty, p, af, g⟩ (.pointer (some ⟨b, off, none⟩)) := fun a ha => by
  subst ho
  simp [execOp, ha.eval hx, Instr.fieldAt, Instr.sureAddr, run_underlying hu, hf, fieldPlace, hs, add_lit]
theorem py_nil {x : Operand} {ad : Addr} (hx : evL L x = some (.pointer (some ad))) : Py P n L w ⟨d, .nilCheck x, ty, p, af, g⟩ (.pointer (some ad)) := fun a ha => by
  simp [execOp, ha.eval hx]
theorem py_extr {x : Operand} {vs : Array Value} {i v} (hx : evL L x = some (.tuple vs)) (hv : vs[i]? = some v) : Py P n L w ⟨d, .extract x i, ty, p, af, g⟩ v := fun a ha => by
  simp [execOp, ha.eval hx, Instr.extract, hv]
/-! ### Memory -/
def single : TypeDesc → Bool
  | .struct _ | .array _ _ => false
  | _ => true
theorem run_isAgg {t td} (hu : P.underlying t = some td) (w : World) : (isAgg t).run P w = .ok (!single td) w := by
  cases td <;> simp [isAgg, run_underlying hu, single]
theorem run_load1 {ad : Addr} {v} (hc : w.cell? ad = some v) : (load ad).run P w = .ok v w := by
  simp [load, Sem.run, hc]
theorem run_loadVar1 {t td} {ad : Addr} {v} (hu : P.underlying t = some td) (h1 : single td = true) (hc : w.cell? ad = some v) : (loadVar t ad).run P w = .ok v w := by
  simp [loadVar, run_isAgg hu, h1, load, Sem.run, hc]
theorem py_load {t td} {x : Operand} {ad : Addr} {v} (hu : P.underlying t = some td) (h1 : single td = true) (hx : evL L x = some (.pointer (some ad))) (hc : w.cell? ad = some v) :
    Py P n L w ⟨d, .load t x, ty, p, af, g⟩ v := fun a ha => by
  simp [execOp, ha.eval hx, Instr.loadAt, Instr.sureAddr, run_loadVar1 hu h1 hc]
theorem cell_at {b o : Nat} {c : Array Value} {T fr v} (hb : w.heap[b]? = some (.cells c T fr)) (hv : c[o]? = some v) : w.cell? ⟨b, o, none⟩ = some v := by
  simp [World.cell?, hb, hv]
theorem cell_atL {b o : Nat} {cs : List Value} {T fr v} (hb : w.heap[b]? = some (.cells cs.toArray T fr)) (hv : cs[o]? = some v) : w.cell? ⟨b, o, none⟩ = some v :=
  cell_at hb (by simpa using hv)
/-- The cells from o on are these. -/
def At (w : World) (b o : Nat) (cs : List Value) : Prop := ∀ j v, cs[j]? = some v → w.cell? ⟨b, o + j, none⟩ = some v
theorem run_loadCellsFrom : ∀ (cs : List Value) (b o i : Nat) (acc : Array Value), At w b (o + i) cs → (loadCellsFrom ⟨b, o, none⟩ i cs.length acc).run P w = .ok (acc ++ cs.toArray) w
  | [], b, o, i, acc, _ => by simp [loadCellsFrom]
  | v :: cs, b, o, i, acc, h => by
    have h0 : w.cell? ⟨b, o + i, none⟩ = some v := by simpa using h 0 v rfl
    have ih := run_loadCellsFrom cs b o (i + 1) (acc.push v) (fun j u hj => by
      have := h (j + 1) u (by simpa using hj)
      rwa [show o + (i + 1) + j = o + i + (j + 1) from by omega])
    simp [loadCellsFrom, add_lit, run_load1 h0, ih]
theorem run_loadVarS {t td} {b o : Nat} {cs : List Value} {sz} (hu : P.underlying t = some td) (h1 : single td = false) (hs : ∀ w, (sizeOf t).run P w = .ok sz w) (hl : cs.length = sz) (hc : At w b o cs) :
    (loadVar t ⟨b, o, none⟩).run P w = .ok (.agg cs.toArray) w := by
  have := run_loadCellsFrom (P := P) cs b o 0 #[] (by simpa using hc)
  subst hl
  simp [loadVar, run_isAgg hu, h1, hs, loadCells, this]
theorem py_loadS {t td} {x : Operand} {b o : Nat} {cs : List Value} {sz} (hu : P.underlying t = some td) (h1 : single td = false) (hs : ∀ w, (sizeOf t).run P w = .ok sz w) (hx : evL L x = some (.pointer (some ⟨b, o, none⟩)))
    (hl : cs.length = sz) (hc : At w b o cs) : Py P n L w ⟨d, .load t x, ty, p, af, g⟩ (.agg cs.toArray) := fun a ha => by
  simp [execOp, ha.eval hx, Instr.loadAt, Instr.sureAddr, run_loadVarS hu h1 hs hl hc]
/-- A whole box. -/
theorem At.whole {b : Nat} {cs : List Value} {T fr} (hb : w.heap[b]? = some (.cells cs.toArray T fr)) : At w b 0 cs := fun j v hj =>
  cell_at hb (by simpa using hj)
/-- A part of a box. -/
theorem At.sub {b o : Nat} {cs : List Value} {T fr} (hb : w.heap[b]? = some (.cells cs.toArray T fr)) (m : Nat) : At w b o ((cs.drop o).take m) := fun j v hj => by
  refine cell_atL hb ?_
  rw [List.getElem?_take] at hj
  split at hj
  · rwa [List.getElem?_drop] at hj
  · cases hj
theorem At.part {b o : Nat} {c : Array Value} {T fr} {cs : List Value} (hb : w.heap[b]? = some (.cells c T fr)) (h : ∀ j v, cs[j]? = some v → c[o + j]? = some v) : At w b o cs := fun j v hj =>
  cell_at hb (h j v hj)
/-! Stores. -/
theorem run_store {ad : Addr} {v u : Value} (h1 : v.oneCell' = true) (hc : w.cell? ad = some u) (hf : w.frozen? ad = false) : (store ad v).run P w = .ok () (w.setCell ad v) := by
  cases v <;> first | (simp [Value.oneCell'] at h1; done) | simp [store, Sem.run, hc, hf]
theorem frozen_at {b o : Nat} {c : Array Value} {T} (hb : w.heap[b]? = some (.cells c T (0, 0))) : w.frozen? ⟨b, o, none⟩ = false := by
  simp [World.frozen?, hb]
theorem size_cells1 {v : Value} (h1 : v.oneCell' = true) : v.cells = #[v] := by
  cases v <;> first | rfl | (simp [Value.oneCell'] at h1; done)
/-- A block of cells is laid anew. -/
def put (w : World) (b : Nat) (o : Obj) : World := { w with heap := w.heap.setIfInBounds b o }
theorem setCell_put {b o : Nat} {c : Array Value} {T fr v} (hb : w.heap[b]? = some (.cells c T fr)) : w.setCell ⟨b, o, none⟩ v = put w b (.cells (c.setIfInBounds o v) T fr) := by
  have hlt := (Array.getElem?_eq_some_iff.1 hb).1
  simp only [World.setCell, put]
  congr 1
  apply Array.ext (by simp)
  intro i h1 h2
  have hi : i < w.heap.size := by simpa using h1
  have hbv := (Array.getElem?_eq_some_iff.1 hb).2
  rw [Array.getElem_modify, Array.getElem_setIfInBounds (by simpa using hi)]
  by_cases hbi : b = i
  · subst hbi; simp [hbv]
  · simp [hbi]
theorem pd_store {t} {x y : Operand} {b o : Nat} {c : Array Value} {T v} (hs : ∀ w, (sizeOf t).run P w = .ok 1 w) (hx : evL L x = some (.pointer (some ⟨b, o, none⟩))) (hy : evL L y = some v) (h1 : v.oneCell' = true)
    (hb : w.heap[b]? = some (.cells c T (0, 0))) (ho : o < c.size) : Pd P n L w ⟨d, .store t x y, ty, p, af, g⟩ (put w b (.cells (c.setIfInBounds o v) T (0, 0))) := fun a ha => by
  have hst := run_store (P := P) (v := v) h1 (cell_at hb (o := o) (Array.getElem?_eq_getElem ho)) (frozen_at hb)
  rw [setCell_put hb] at hst
  simp [execOp, ha.eval hx, ha.eval hy, Instr.storeAt, Instr.sureAddr, storeVar, size_cells1 h1, hs, storeCells, add_lit, hst]
theorem put_heap {b : Nat} {o o' : Obj} (hb : w.heap[b]? = some o') : (put w b o).heap[b]? = some o := by
  have hlt := (Array.getElem?_eq_some_iff.1 hb).1
  simp [put, hlt]
theorem put_same {b : Nat} {o : Obj} (hb : w.heap[b]? = some o) : put w b o = w := by
  have hv := (Array.getElem?_eq_some_iff.1 hb).2
  have : w.heap.setIfInBounds b o = w.heap := by
    apply Array.ext (by simp)
    intro i h1 h2
    rw [Array.getElem_setIfInBounds (by simpa using h2)]
    split
    · rename_i e; subst e; exact hv.symm
    · rfl
  simp [put, this]
theorem put_put {b : Nat} {o o' : Obj} : put (put w b o) b o' = put w b o' := by simp [put]
/-- Cells laid one behind the other. -/
def lay (c : Array Value) (o : Nat) : List Value → Array Value
  | [] => c
  | v :: vs => lay (c.setIfInBounds o v) (o + 1) vs
theorem lay_size : ∀ (vs : List Value) (c : Array Value) (o : Nat), (lay c o vs).size = c.size
  | [], _, _ => rfl
  | v :: vs, c, o => by simp [lay, lay_size vs]
theorem run_storeCells {b : Nat} {T} : ∀ (vs : List Value) (w : World) (o i : Nat) (c : Array Value), w.heap[b]? = some (.cells c T (0, 0)) → (∀ v ∈ vs, v.oneCell' = true) → o + i + vs.length ≤ c.size →
    (storeCells ⟨b, o, none⟩ vs i).run P w = .ok () (put w b (.cells (lay c (o + i) vs) T (0, 0)))
  | [], w, o, i, c, hb, _, _ => by
    have : put w b (.cells (lay c (o + i) []) T (0, 0)) = w := put_same hb
    simp [storeCells, this]
  | v :: vs, w, o, i, c, hb, h1, hl => by
    have hst := run_store (P := P) (v := v) (h1 v (by simp)) (cell_at hb (o := o + i) (Array.getElem?_eq_getElem (by simp at hl; omega))) (frozen_at hb)
    rw [setCell_put hb] at hst
    have ih := run_storeCells vs (put w b (.cells (c.setIfInBounds (o + i) v) T (0, 0))) o (i + 1) (c.setIfInBounds (o + i) v) (put_heap hb) (fun u hu => h1 u (by simp [hu])) (by simp at hl ⊢; omega)
    rw [put_put] at ih
    simp [storeCells, add_lit, hst, ih, lay, Nat.add_assoc]
theorem pd_storeS {t} {x y : Operand} {b o : Nat} {c : Array Value} {T} {vs : List Value} {sz} (hs : ∀ w, (sizeOf t).run P w = .ok sz w) (hx : evL L x = some (.pointer (some ⟨b, o, none⟩))) (hy : evL L y = some (.agg vs.toArray))
    (hl : vs.length = sz) (h1 : ∀ v ∈ vs, v.oneCell' = true) (hb : w.heap[b]? = some (.cells c T (0, 0))) (ho : o + sz ≤ c.size) :
    Pd P n L w ⟨d, .store t x y, ty, p, af, g⟩ (put w b (.cells (lay c o vs) T (0, 0))) := fun a ha => by
  subst hl
  have hst := run_storeCells (P := P) vs w o 0 c hb h1 (by simpa using ho)
  simp [execOp, ha.eval hx, ha.eval hy, Instr.storeAt, Instr.sureAddr, storeVar, Value.cells, hs, hst]
/-! New blocks. -/
theorem pn_box {t} {x : Operand} {v} (hx : evL L x = some v) : Pn P n L w ⟨d, .box t x, ty, p, af, g⟩ (.pointer (some ⟨w.heap.size, 0, none⟩)) (w.alloc (.cells v.cells t)) := fun a ha => by
  simp [execOp, ha.eval hx, Instr.box, newVar, newRow, newObj]
  rfl
theorem pn_alloc {t} {z : Value} (hz : ∀ w, (zeroValue t).run P w = .ok z w) : Pn P n L w ⟨d, .alloc t, ty, p, af, g⟩ (.pointer (some ⟨w.heap.size, 0, none⟩)) (w.alloc (.cells z.cells t)) := fun a ha => by
  simp [execOp, Instr.alloc, newVar, newRow, newObj, hz]
  rfl
/-! Calls. -/
def evLs (L : Env) : List Operand → Option (List Value)
  | [] => some []
  | x :: xs => match evL L x, evLs L xs with
    | some v, some vs => some (v :: vs)
    | _, _ => none
theorem pc_call {f : FuncId} {fn : Func} {xs : Array Operand} {ats : Array TypeId} {vs : List Value} (hf : P.funcs[f]? = some fn) (hb : fn.body.isNone = false) (hnm : (fn.name == "runtime.NumGoroutine") = false)
    (hv : evLs L xs.toList = some vs) : Pc P n L w ⟨d, .call ⟨.value (.func f), xs, ats⟩, ty, p, af, g⟩ f vs.toArray := fun a ha => by
  have hm : xs.map a.eval = vs.toArray := by
    have key : ∀ (l : List Operand) (vs : List Value), evLs L l = some vs → l.map a.eval = vs := by
      intro l
      induction l with
      | nil => intro vs h; simp [evLs] at h; simp [h]
      | cons x l ih =>
        intro vs h
        unfold evLs at h
        split at h
        · rename_i v us hv hus
          cases h
          simp [ha.eval hv, ih us hus]
        · cases h
    have := key _ _ hv
    apply Array.toList_inj.1
    simpa using this
  have hb' : ¬ fn.body = none := fun e => by rw [e] at hb; simp at hb
  have hnm' : ¬ fn.name = "runtime.NumGoroutine" := fun e => by rw [e] at hnm; simp at hnm
  simp [execOp, resolve, Deferred.ofValue, invoke, callFunc, hf, hb', hnm', hm, Act.eval]
end
end Go.Wk
