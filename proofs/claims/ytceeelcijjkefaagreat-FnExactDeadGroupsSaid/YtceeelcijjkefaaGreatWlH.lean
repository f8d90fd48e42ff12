/-
  Elements that are structures. No program is named here.
-/
import Derived.Test.YtceeelcijjkefaaGreatWlG
set_option linter.unusedVariables false
set_option linter.unusedSimpArgs false
namespace Go.Wk
open Rp (sz own)
theorem Sep.fbox {M : Nat → Prop} {w0 w : World} {Δ F : List Rsc} (h : Sep M w0 Δ F w) (j : Nat) {b : Nat} {o : Obj} (hj : F[j]? = some (Wk.box b o)) : w.heap[b]? = some o := h.fs _ (List.mem_of_getElem? hj)
theorem Sep.foff {M : Nat → Prop} {w0 w : World} {Δ F : List Rsc} (h : Sep M w0 Δ F w) (j : Nat) {b : Nat} {o : Obj} (hj : F[j]? = some (Wk.box b o)) (i : Nat) {r : Rsc} {fp : List Nat} (hi : Δ[i]? = some r) (hf : r.fp = fp) : b ∉ fp := fun hm =>
  h.ap _ (List.mem_of_getElem? hj) b (by simp [Wk.box]) (mem_blocks.2 ⟨r, List.mem_of_getElem? hi, hf ▸ hm⟩)
theorem Ext.atM {M : Nat → Prop} {w w' : World} (h : Ext M w w') {b o : Nat} {cs : List Value} (hm : ¬ M b) (hc : At w b o cs) : At w' b o cs := fun j v hj => h.cellM hm (hc j v hj)
theorem elem_st {α : Type} [Rp α] [Inhabited α] {s w ad n cap} {xs : List α} {fp} (h : own s w [.slice ad n cap] xs fp) (k : Nat) (hk : k < xs.length) :
    ∃ b o cs f, ad = some ⟨b, o, none⟩ ∧ At w b (o + k * sz α) cs ∧ own s w cs (xs.getD k default) f ∧ (∀ b ∈ f, b ∈ fp) ∧ b ∈ fp := by
  obtain ⟨b, o, cs, f, h1, h2, h3, h4, h5⟩ := own_elem h k hk
  rw [show xs.getD k default = xs[k] from by simp [List.getD, hk]]
  exact ⟨b, o, cs, f, h1, h2, h3, h4, h5⟩
section
variable {P : Program} {n : Nat} {ops : Array Oper} {Q : Post} {L : Env} {ty : TypeId} {p : String} {af : Array Edge} {g : Option (Nat × Bool)} {M : Nat → Prop} {w0 w : World} {Δ F : List Rsc} {α : Type} [Rp α]
theorem s_elst2S {rest : List Oper} {t : TypeId} {x y : Operand} {b off : Nat} {vs : List Value} {ad : Option Addr} {len cap : Nat} {xs : List α} {fp fu : List Nat} {u : α} (hw : Wn ops n L ⟨none, .store t x y, ty, p, af, g⟩) (hs : ∀ w, (sizeOf t).run P w = .ok (sz α) w)
    (H : Sep M w0 Δ F w) (i j : Nat) (hi : Δ[i]? = some (mine [.slice ad len cap] xs fp)) (hj : Δ[j]? = some (mine vs u fu)) (hij : Nat.beq j i = false) (q : Nat) (hq : q < xs.length) (hx : evL L x = some (.pointer (some ⟨b, off + q * sz α, none⟩))) (had : ad = some ⟨b, off, none⟩) (hy : evL L y = some (.agg vs.toArray))
    (k : ∀ w' fp', Sep M w0 ((Δ.set j gone).set i (mine [.slice ad len cap] (xs.set q u) fp')) F w' → RL P n ops Q rest L w') :
    RL P n ops Q (⟨none, .store t x y, ty, p, af, g⟩ :: rest) L w := by
  obtain ⟨b', o', cur, T, fp', e1, hb, hsz, hk⟩ := H.elset2 i j hi hj hij q hq
  rw [had] at e1
  simp only [Option.some.injEq, Addr.mk.injEq, and_true] at e1
  obtain ⟨rfl, rfl⟩ := e1
  have hm := H.mine j hj
  exact s_do hw rfl (pd_storeS hs hx hy (Rp.len hm) (Rp.one hm) hb hsz) (k _ fp' hk)
theorem d_elst2S {S : World → Prop} {l : Nat} {t : TypeId} {x y : Operand} {b off : Nat} {vs : List Value} {ad : Option Addr} {len cap : Nat} {xs : List α} {fp fu : List Nat} {u : α} (ho : ops.toList[l]? = some ⟨none, .store t x y, ty, p, af, g⟩) (hw : Wn ops n L ⟨none, .store t x y, ty, p, af, g⟩) (hs : ∀ w, (sizeOf t).run P w = .ok (sz α) w)
    (H : Sep M w0 Δ F w) (i j : Nat) (hi : Δ[i]? = some (mine [.slice ad len cap] xs fp)) (hj : Δ[j]? = some (mine vs u fu)) (hij : Nat.beq j i = false) (q : Nat) (hq : q < xs.length) (hx : evL L x = some (.pointer (some ⟨b, off + q * sz α, none⟩))) (had : ad = some ⟨b, off, none⟩) (hy : evL L y = some (.agg vs.toArray))
    (k : ∀ w' fp', Sep M w0 ((Δ.set j gone).set i (mine [.slice ad len cap] (xs.set q u) fp')) F w' → DL P n ops Q S [] L w') :
    DL P n ops Q S [(l, false)] L w := by
  obtain ⟨b', o', cur, T, fp', e1, hb, hsz, hk⟩ := H.elset2 i j hi hj hij q hq
  rw [had] at e1
  simp only [Option.some.injEq, Addr.mk.injEq, and_true] at e1
  obtain ⟨rfl, rfl⟩ := e1
  have hm := H.mine j hj
  exact d_do ho hw rfl (pd_storeS hs hx hy (Rp.len hm) (Rp.one hm) hb hsz) (fun _ hr => absurd rfl hr) (k _ fp' hk)
end
section
variable {M : Nat → Prop} {w0 w w' : World} {Δ F : List Rsc} {α : Type} [Rp α] [Inhabited α]
theorem Sep.mutSt (h : Sep M w0 Δ F w) (i : Nat) {ad n cap} {xs : List α} {fp} (hi : Δ[i]? = some (Wk.mine [.slice ad n cap] xs fp)) (k : Nat) (hk : k < xs.length) :
    ∃ b o cs fk, ad = some ⟨b, o, none⟩ ∧ At w b (o + k * sz α) cs ∧ own true w cs (xs.getD k default) fk ∧ fk.Nodup ∧ (∀ b ∈ fk, b ∈ fp) ∧ ∀ w' x', Mut w w' fk cs x' → ∃ fp', Sep M w0 (Δ.set i (Wk.mine [.slice ad n cap] (xs.set k x') fp')) F w' := by
  have := h.mutEl i hi k hk
  rwa [show xs[k] = xs.getD k default from by simp [List.getD, hk]] at this
end
/-! ### How much there is -/
/-- A list's length, and what its elements have. -/
def szL {α : Type} [Inhabited α] (f : α → Nat) (xs : List α) : Nat := xs.length + sumN (fun i => f (xs.getD i default)) xs.length
theorem szL_eq {α : Type} [Inhabited α] {f : α → Nat} {xs : List α} : szL f xs = xs.length + sumN (fun i => f (xs.getD i default)) xs.length := rfl
theorem szL_get {α : Type} [Inhabited α] {f : α → Nat} {xs : List α} {m : Nat} (h : szL f xs ≤ m) (k : Nat) (hk : k < xs.length) : f (xs.getD k default) ≤ m ∧ xs.length ≤ m := by
  have : sumN (fun i => f (xs.getD i default)) (k + 1) ≤ sumN (fun i => f (xs.getD i default)) xs.length := sumN_le (by omega)
  have h2 : sumN (fun i => f (xs.getD i default)) (k + 1) = sumN (fun i => f (xs.getD i default)) k + f (xs.getD k default) := rfl
  unfold szL at h
  omega
def szRec (x : Rec) : Nat := x.Name.size + x.Rows.length + x.Data.length + x.Delta.length
def szBlock (x : Block) : Nat := x.Bytes.length
def szDrive (x : Drive) : Nat := szL szBlock x.Blocks
def szTape (x : Tape) : Nat := szL szRec x.Recs
def szWld (x : Wld) : Nat := szL (szL szDrive) x.Groups + x.On.length + szL szTape x.Tapes
/-- How many numbers and bytes there are. -/
def mkL {α : Type} [Inhabited α] (f : α → Nat) (xs : List α) : Nat := sumN (fun i => f (xs.getD i default)) xs.length
theorem mkL_le {α : Type} [Inhabited α] {f g : α → Nat} (h : ∀ x, f x ≤ g x) {xs : List α} : mkL f xs ≤ szL g xs := by
  have : ∀ k, sumN (fun i => f (xs.getD i default)) k ≤ sumN (fun i => g (xs.getD i default)) k := by
    intro k
    induction k with
    | zero => exact Nat.le_refl _
    | succ k ih => exact Nat.add_le_add ih (h _)
  have := this xs.length
  unfold mkL szL; omega
def mkRec (x : Rec) : Nat := 6 + x.Rows.length + x.Data.length + x.Delta.length
def mkBlock (x : Block) : Nat := 1 + x.Bytes.length
def mkDrive (x : Drive) : Nat := 1 + mkL mkBlock x.Blocks
def mkTape (x : Tape) : Nat := 1 + mkL mkRec x.Recs
def mkWld (x : Wld) : Nat := mkL (mkL mkDrive) x.Groups + x.On.length + mkL mkTape x.Tapes
theorem mkL_7 {α : Type} [Inhabited α] {f g : α → Nat} (h : ∀ x, f x ≤ 7 + 7 * g x) {xs : List α} : mkL f xs ≤ 7 * szL g xs := by
  have : ∀ k, sumN (fun i => f (xs.getD i default)) k ≤ 7 * k + 7 * sumN (fun i => g (xs.getD i default)) k := by
    intro k
    induction k with
    | zero => exact Nat.le_refl _
    | succ k ih =>
      have := h (xs.getD k default)
      simp only [sumN]; omega
  have := this xs.length
  unfold mkL szL; omega
theorem mkRec_le (x : Rec) : mkRec x ≤ 7 + 7 * szRec x := by unfold mkRec szRec; omega
theorem mkBlock_le (x : Block) : mkBlock x ≤ 7 + 7 * szBlock x := by unfold mkBlock szBlock; omega
theorem mkDrive_le (x : Drive) : mkDrive x ≤ 7 + 7 * szDrive x := by
  have := mkL_7 mkBlock_le (xs := x.Blocks)
  unfold mkDrive szDrive; omega
theorem mkTape_le (x : Tape) : mkTape x ≤ 7 + 7 * szTape x := by
  have := mkL_7 mkRec_le (xs := x.Recs)
  unfold mkTape szTape; omega
theorem mkGroup_le (x : List Drive) : mkL mkDrive x ≤ 7 + 7 * szL szDrive x := by
  have := mkL_7 mkDrive_le (xs := x); omega
theorem mkWld_le (x : Wld) : mkWld x ≤ 7 * szWld x := by
  have h1 := mkL_7 mkGroup_le (xs := x.Groups)
  have h2 := mkL_7 mkTape_le (xs := x.Tapes)
  unfold mkWld szWld; omega
end Go.Wk
