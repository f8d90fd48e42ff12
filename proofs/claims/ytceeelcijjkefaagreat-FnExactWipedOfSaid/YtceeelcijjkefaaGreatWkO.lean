/-
  The field of 256, as the walks meet it. No program is named here.
-/
import Derived.Test.YtceeelcijjkefaaGreatWkN
set_option linter.unusedVariables false
set_option linter.unusedSimpArgs false
namespace Go.Wk
def shrN (a : UInt8) (k : Nat) : UInt8 := UInt8.ofNat (a.toNat / 2 ^ k)
def shlN (a : UInt8) (k : Nat) : UInt8 := UInt8.ofNat (a.toNat * 2 ^ k)
theorem shrN_toNat {a : UInt8} {k : Nat} : (shrN a k).toNat = a.toNat / 2 ^ k := by
  unfold shrN
  have := a.toNat_lt
  have h : a.toNat / 2 ^ k ≤ a.toNat := Nat.div_le_self _ _
  simp; omega
theorem wrap8 {i : Nat} (h : i < 256) : IntKind.u8.wrap (i : Int) = i := by
  simp [IntKind.wrap, IntKind.bits, IntKind.signed]; omega
theorem wrap64 {i : Nat} (h : i < 9223372036854775808) : IntKind.i64.wrap (i : Int) = i := by
  simp [IntKind.wrap, IntKind.bits, IntKind.signed]; omega
theorem bv8 {a : UInt8} : BitVec.ofInt 8 (a.toNat : Int) = a.toBitVec := by
  apply BitVec.eq_of_toNat_eq
  have := a.toNat_lt
  simp [BitVec.toNat_ofInt]
section
variable {P : Program} {n : Nat} {L : Env} {w : World} {d : Option Tmp} {ty : TypeId} {p : String} {af : Array Edge} {g : Option (Nat × Bool)} {x y : Operand} {xt yt : TypeId}
theorem py_xor8 {a b : UInt8} (hx : evL L x = some (.int .u8 a.toNat)) (hy : evL L y = some (.int .u8 b.toNat)) : Py P n L w ⟨d, .binOp .xor xt x y yt, ty, p, af, g⟩ (.int .u8 (a ^^^ b).toNat) := by
  have h := py_xor (P := P) (n := n) (w := w) (d := d) (ty := ty) (p := p) (af := af) (g := g) (xt := xt) (yt := yt) hx hy
  rwa [show IntKind.u8.bits = 8 from rfl, bv8, bv8, wrap8 (BitVec.isLt _)] at h
theorem py_and8 {a b : UInt8} (hx : evL L x = some (.int .u8 a.toNat)) (hy : evL L y = some (.int .u8 b.toNat)) : Py P n L w ⟨d, .binOp .and xt x y yt, ty, p, af, g⟩ (.int .u8 (a &&& b).toNat) := by
  have h := py_and (P := P) (n := n) (w := w) (d := d) (ty := ty) (p := p) (af := af) (g := g) (xt := xt) (yt := yt) hx hy
  rwa [show IntKind.u8.bits = 8 from rfl, bv8, bv8, wrap8 (BitVec.isLt _)] at h
theorem py_shr8 {a : UInt8} {k : Nat} {k2 : IntKind} (hx : evL L x = some (.int .u8 a.toNat)) (hy : evL L y = some (.int k2 k)) : Py P n L w ⟨d, .binOp .shr xt x y yt, ty, p, af, g⟩ (.int .u8 (shrN a k).toNat) := by
  have h := py_shr (P := P) (n := n) (w := w) (d := d) (ty := ty) (p := p) (af := af) (g := g) (xt := xt) (yt := yt) hx hy (by omega)
  have e : ((a.toNat : Int).fdiv (2 ^ min ((k : Int).toNat) IntKind.u8.bits)) = ((shrN a k).toNat : Int) := by
    rw [shrN_toNat, Int.toNat_natCast, show IntKind.u8.bits = 8 from rfl, Int.fdiv_eq_ediv_of_nonneg _ (by exact Int.pow_nonneg (by omega))]
    have hlt := a.toNat_lt
    rcases Nat.lt_or_ge k 8 with h8 | h8
    · rw [Nat.min_eq_left (by omega)]; norm_cast
    · rw [Nat.min_eq_right h8]
      have h1 : a.toNat / 2 ^ k = 0 := Nat.div_eq_of_lt (Nat.lt_of_lt_of_le hlt (Nat.pow_le_pow_right (by omega) h8))
      rw [h1]; norm_cast
      exact Nat.div_eq_of_lt hlt
  rwa [e] at h
theorem py_shl8 {a : UInt8} {k : Nat} {k2 : IntKind} (hk : k ≤ 8) (hx : evL L x = some (.int .u8 a.toNat)) (hy : evL L y = some (.int k2 k)) : Py P n L w ⟨d, .binOp .shl xt x y yt, ty, p, af, g⟩ (.int .u8 (shlN a k).toNat) := by
  have h := py_shl (P := P) (n := n) (w := w) (d := d) (ty := ty) (p := p) (af := af) (g := g) (xt := xt) (yt := yt) hx hy (by omega)
  have e : IntKind.u8.wrap ((a.toNat : Int) * 2 ^ min ((k : Int).toNat) IntKind.u8.bits) = ((shlN a k).toNat : Int) := by
    rw [Int.toNat_natCast, show IntKind.u8.bits = 8 from rfl, Nat.min_eq_left hk]
    unfold shlN
    have : ((a.toNat : Int) * 2 ^ k) = ((a.toNat * 2 ^ k : Nat) : Int) := by norm_cast
    rw [this]
    simp [IntKind.wrap, IntKind.bits, IntKind.signed]
  rwa [e] at h
theorem py_conv8 {k : IntKind} {i : Int} {src dst : TypeId} {td} (hs : P.underlying src = some td) (hd : P.underlying dst = some (.int .u8)) (hx : evL L x = some (.int k i)) :
    Py P n L w ⟨d, .convert src dst x, ty, p, af, g⟩ (.int .u8 (u8Of i).toNat) := by
  have h := py_convw (P := P) (n := n) (w := w) (d := d) (ty := ty) (p := p) (af := af) (g := g) hs hd hx
  rwa [u8_wrap] at h
end
theorem u8_zero {a : UInt8} (h : (a.toNat : Int) = 0) : a = 0 := (u8_inj (b := 0)).1 h
theorem u8_one {a : UInt8} (h : (a.toNat : Int) = 1) : a = 1 := (u8_inj (b := 1)).1 h
/-! ### Products -/
def xt (a : UInt8) : UInt8 := if a &&& 128 = 0 then shlN a 1 else shlN a 1 ^^^ 29
def mulR : Nat → UInt8 → UInt8 → UInt8 → UInt8
  | 0, _, _, o => o
  | n + 1, a, b, o => mulR n (xt a) (shrN b 1) (if b &&& 1 = 1 then o ^^^ a else o)
def mulG (a b : UInt8) : UInt8 := mulR 8 a b 0
theorem shrN_shrN {a : UInt8} {j k : Nat} : shrN (shrN a j) k = shrN a (j + k) := by
  apply UInt8.toNat_inj.1
  rw [shrN_toNat, shrN_toNat, shrN_toNat, Nat.div_div_eq_div_mul, Nat.pow_add]
theorem shrN_zero {a : UInt8} : shrN a 0 = a := by
  apply UInt8.toNat_inj.1
  rw [shrN_toNat]; simp
theorem mulR_more : ∀ (n : Nat) (x y o : UInt8), y.toNat < 2 ^ n → mulR (n + 1) x y o = mulR n x y o
  | 0, x, y, o, h => by
    have : y = 0 := UInt8.toNat_inj.1 (by simp at h; simp [h])
    subst this
    rfl
  | n + 1, x, y, o, h => by
    show mulR (n + 1) (xt x) (shrN y 1) _ = mulR n (xt x) (shrN y 1) _
    exact mulR_more n _ _ _ (by rw [shrN_toNat]; rw [Nat.pow_succ] at h; omega)
theorem mulR_zero : ∀ (n : Nat) (x o : UInt8), mulR n x 0 o = o
  | 0, _, _ => rfl
  | n + 1, x, o => by
    show mulR n (xt x) (shrN 0 1) (if (0 : UInt8) &&& 1 = 1 then o ^^^ x else o) = o
    rw [show shrN 0 1 = 0 from rfl, mulR_zero n]; rfl
/-- A round of the product. -/
theorem mulR_round (x y o : UInt8) : mulR 8 x y o = mulR 8 (xt x) (shrN y 1) (if y &&& 1 = 1 then o ^^^ x else o) := by
  rw [← mulR_more 8 x y o (by have := y.toNat_lt; omega)]; rfl
theorem u8_all {p : UInt8 → Bool} (h : (List.range 256).all (fun n => p (UInt8.ofNat n)) = true) (a : UInt8) : p a = true := by
  have := List.all_eq_true.1 h a.toNat (List.mem_range.2 a.toNat_lt)
  simpa using this
theorem and128 (a : UInt8) : a &&& 128 = 0 ∨ a &&& 128 = 128 := by
  have := u8_all (p := fun a => (a &&& 128 == 0) || (a &&& 128 == 128)) (by decide +kernel) a
  simpa using this
theorem and1 (a : UInt8) : a &&& 1 = 0 ∨ a &&& 1 = 1 := by
  have := u8_all (p := fun a => (a &&& 1 == 0) || (a &&& 1 == 1)) (by decide +kernel) a
  simpa using this
theorem xor_and (a b c : UInt8) : (a ^^^ b) &&& c = (a &&& c) ^^^ (b &&& c) := by
  apply UInt8.eq_of_toBitVec_eq
  ext i
  simp only [UInt8.toBitVec_and, UInt8.toBitVec_xor, BitVec.getElem_and, BitVec.getElem_xor]
  cases a.toBitVec[i] <;> cases b.toBitVec[i] <;> cases c.toBitVec[i] <;> rfl
theorem shl1 (a : UInt8) : shlN a 1 = a <<< 1 := by
  have := u8_all (p := fun a => shlN a 1 == a <<< 1) (by decide +kernel) a
  simpa using this
theorem shr1 (a : UInt8) : shrN a 1 = a >>> 1 := by
  have := u8_all (p := fun a => shrN a 1 == a >>> 1) (by decide +kernel) a
  simpa using this
theorem shl1_xor (a b : UInt8) : shlN (a ^^^ b) 1 = shlN a 1 ^^^ shlN b 1 := by
  rw [shl1, shl1, shl1]
  exact UInt8.shiftLeft_xor
theorem shr1_xor (a b : UInt8) : shrN (a ^^^ b) 1 = shrN a 1 ^^^ shrN b 1 := by
  rw [shr1, shr1, shr1]
  exact UInt8.shiftRight_xor
theorem xor4 (a b c d : UInt8) : (a ^^^ b) ^^^ (c ^^^ d) = (a ^^^ c) ^^^ (b ^^^ d) := by
  rw [UInt8.xor_assoc, UInt8.xor_assoc]
  congr 1
  rw [← UInt8.xor_assoc, ← UInt8.xor_assoc, UInt8.xor_comm b c]
theorem xt_xor (a b : UInt8) : xt (a ^^^ b) = xt a ^^^ xt b := by
  unfold xt
  rw [xor_and, shl1_xor]
  rcases and128 a with h | h <;> rcases and128 b with h2 | h2 <;> rw [h, h2]
  · rfl
  · rw [if_neg (by decide), if_pos rfl, if_neg (by decide), UInt8.xor_assoc]
  · rw [if_neg (by decide), if_neg (by decide), if_pos rfl, UInt8.xor_assoc, UInt8.xor_assoc, UInt8.xor_comm _ 29]
  · rw [if_pos (by decide), if_neg (by decide), if_neg (by decide), xor4]; simp
theorem mulR_left : ∀ (n : Nat) (x x' y o o' : UInt8), mulR n (x ^^^ x') y (o ^^^ o') = mulR n x y o ^^^ mulR n x' y o'
  | 0, _, _, _, _, _ => rfl
  | n + 1, x, x', y, o, o' => by
    show mulR n (xt (x ^^^ x')) (shrN y 1) (if y &&& 1 = 1 then (o ^^^ o') ^^^ (x ^^^ x') else o ^^^ o') = mulR n (xt x) (shrN y 1) _ ^^^ mulR n (xt x') (shrN y 1) _
    rw [xt_xor, ← mulR_left n]
    split
    · rw [xor4]
    · rfl
theorem mulR_right : ∀ (n : Nat) (x y y' o o' : UInt8), mulR n x (y ^^^ y') (o ^^^ o') = mulR n x y o ^^^ mulR n x y' o'
  | 0, _, _, _, _, _ => rfl
  | n + 1, x, y, y', o, o' => by
    show mulR n (xt x) (shrN (y ^^^ y') 1) (if (y ^^^ y') &&& 1 = 1 then (o ^^^ o') ^^^ x else o ^^^ o') = mulR n (xt x) (shrN y 1) _ ^^^ mulR n (xt x) (shrN y' 1) _
    rw [shr1_xor, ← mulR_right n, xor_and]
    congr 1
    rcases and1 y with h | h <;> rcases and1 y' with h2 | h2 <;> rw [h, h2]
    · rfl
    · rw [if_pos (by decide), if_neg (by decide), if_pos rfl, UInt8.xor_assoc]
    · rw [if_pos (by decide), if_pos rfl, if_neg (by decide), UInt8.xor_assoc, UInt8.xor_assoc, UInt8.xor_comm o' x]
    · rw [if_neg (by decide), if_pos rfl, if_pos rfl, xor4]; simp
theorem mul_xor_l (x x' y : UInt8) : mulG (x ^^^ x') y = mulG x y ^^^ mulG x' y := mulR_left 8 x x' y 0 0
theorem mul_xor_r (x y y' : UInt8) : mulG x (y ^^^ y') = mulG x y ^^^ mulG x y' := mulR_right 8 x y y' 0 0
/-- What is so at the eight bits, and for sums, is so for all. -/
theorem u8_ind {p : UInt8 → Prop} (h0 : p 0) (hb : ∀ k, k < 8 → p (UInt8.ofNat (2 ^ k))) (hx : ∀ a b, p a → p b → p (a ^^^ b)) (a : UInt8) : p a := by
  have key : ∀ k, k ≤ 8 → p (UInt8.ofNat (a.toNat % 2 ^ k)) := by
    intro k hk
    induction k with
    | zero => simpa [Nat.mod_one] using h0
    | succ k ih =>
      have ih := ih (by omega)
      have hs : UInt8.ofNat (a.toNat % 2 ^ (k + 1)) = UInt8.ofNat (a.toNat % 2 ^ k) ^^^ (if a.toNat.testBit k then UInt8.ofNat (2 ^ k) else 0) := by
        have := u8_all (p := fun a => (List.range 8).all fun k => UInt8.ofNat (a.toNat % 2 ^ (k + 1)) == UInt8.ofNat (a.toNat % 2 ^ k) ^^^ (if a.toNat.testBit k then UInt8.ofNat (2 ^ k) else 0)) (by decide +kernel) a
        have := List.all_eq_true.1 this k (List.mem_range.2 (by omega))
        simpa using this
      rw [hs]
      refine hx _ _ ih ?_
      split
      · exact hb k (by omega)
      · exact h0
  have := key 8 (Nat.le_refl _)
  have hlt := a.toNat_lt
  rw [Nat.mod_eq_of_lt hlt] at this
  simpa using this
theorem mul_zero_l (y : UInt8) : mulG 0 y = 0 := by
  have := mul_xor_l 0 0 y
  simpa using this
theorem mul_zero_r (x : UInt8) : mulG x 0 = 0 := by
  have := mul_xor_r x 0 0
  simpa using this
theorem mul_comm (a b : UInt8) : mulG a b = mulG b a := by
  revert b
  refine u8_ind (p := fun a => ∀ b, mulG a b = mulG b a) (fun b => by rw [mul_zero_l, mul_zero_r]) (fun k hk => ?_) (fun a a' h h' b => by rw [mul_xor_l, mul_xor_r, h, h']) a
  refine u8_ind (p := fun b => mulG (UInt8.ofNat (2 ^ k)) b = mulG b (UInt8.ofNat (2 ^ k))) (by rw [mul_zero_l, mul_zero_r]) (fun j hj => ?_) (fun b b' h h' => by rw [mul_xor_l, mul_xor_r, h, h'])
  have : (List.range 8).all (fun k => (List.range 8).all fun j => mulG (UInt8.ofNat (2 ^ k)) (UInt8.ofNat (2 ^ j)) == mulG (UInt8.ofNat (2 ^ j)) (UInt8.ofNat (2 ^ k))) = true := by decide +kernel
  simpa using List.all_eq_true.1 (List.all_eq_true.1 this k (List.mem_range.2 hk)) j (List.mem_range.2 hj)
theorem mul_assoc (a b c : UInt8) : mulG (mulG a b) c = mulG a (mulG b c) := by
  revert b c
  refine u8_ind (p := fun a => ∀ b c, mulG (mulG a b) c = mulG a (mulG b c)) (fun b c => by rw [mul_zero_l, mul_zero_l, mul_zero_l]) (fun k hk => ?_) (fun a a' h h' b c => by rw [mul_xor_l, mul_xor_l, mul_xor_l, h, h']) a
  refine u8_ind (p := fun b => ∀ c, mulG (mulG (UInt8.ofNat (2 ^ k)) b) c = mulG (UInt8.ofNat (2 ^ k)) (mulG b c)) (fun c => by rw [mul_zero_r, mul_zero_l, mul_zero_r]) (fun j hj => ?_) (fun b b' h h' c => by rw [mul_xor_r, mul_xor_l, mul_xor_l, mul_xor_r, h, h'])
  refine u8_ind (p := fun c => mulG (mulG (UInt8.ofNat (2 ^ k)) (UInt8.ofNat (2 ^ j))) c = mulG (UInt8.ofNat (2 ^ k)) (mulG (UInt8.ofNat (2 ^ j)) c)) (by rw [mul_zero_r, mul_zero_r, mul_zero_r]) (fun i hi => ?_) (fun c c' h h' => by rw [mul_xor_r, mul_xor_r, mul_xor_r, h, h'])
  have : (List.range 8).all (fun k => (List.range 8).all fun j => (List.range 8).all fun i => mulG (mulG (UInt8.ofNat (2 ^ k)) (UInt8.ofNat (2 ^ j))) (UInt8.ofNat (2 ^ i)) == mulG (UInt8.ofNat (2 ^ k)) (mulG (UInt8.ofNat (2 ^ j)) (UInt8.ofNat (2 ^ i)))) = true := by decide +kernel
  simpa using List.all_eq_true.1 (List.all_eq_true.1 (List.all_eq_true.1 this k (List.mem_range.2 hk)) j (List.mem_range.2 hj)) i (List.mem_range.2 hi)
theorem mul_one_r (a : UInt8) : mulG a 1 = a := by
  have := u8_all (p := fun a => mulG a 1 == a) (by decide +kernel) a
  simpa using this
theorem mul_one_l (a : UInt8) : mulG 1 a = a := by rw [mul_comm, mul_one_r]
/-- Powers. -/
def pw (a : UInt8) : Nat → UInt8
  | 0 => 1
  | n + 1 => mulG (pw a n) a
theorem pw_add (a : UInt8) (m : Nat) : ∀ n, pw a (m + n) = mulG (pw a m) (pw a n)
  | 0 => (mul_one_r _).symm
  | n + 1 => by
    show mulG (pw a (m + n)) a = mulG (pw a m) (mulG (pw a n) a)
    rw [pw_add a m n, mul_assoc]
theorem pw_sq (a : UInt8) : ∀ n, pw (mulG a a) n = pw a (2 * n)
  | 0 => rfl
  | n + 1 => by
    show mulG (pw (mulG a a) n) (mulG a a) = mulG (mulG (pw a (2 * n)) a) a
    rw [pw_sq a n, mul_assoc]
/-- The inverse of what is not 0. -/
def invG (a : UInt8) : UInt8 := pw a 254
theorem mulR_next {k : Nat} (hk : k < 8) (x b o : UInt8) : mulR (8 - k) x (shrN b k) o = mulR (8 - (k + 1)) (xt x) (shrN b (k + 1)) (if shrN b k &&& 1 = 1 then o ^^^ x else o) := by
  rw [show 8 - k = (8 - (k + 1)) + 1 from by omega, ← shrN_shrN]
  rfl
theorem xt_big (x : UInt8) (h : (255 : Int) < 2 * (x.toNat : Int)) : IntKind.i64.wrap ((BitVec.ofInt IntKind.i64.bits (2 * (x.toNat : Int)) ^^^ BitVec.ofInt IntKind.i64.bits 285).toNat : Int) = ((xt x).toNat : Int) := by
  have := u8_all (p := fun x => decide (¬ (255 : Int) < 2 * (x.toNat : Int)) || decide (IntKind.i64.wrap ((BitVec.ofInt IntKind.i64.bits (2 * (x.toNat : Int)) ^^^ BitVec.ofInt IntKind.i64.bits 285).toNat : Int) = ((xt x).toNat : Int))) (by decide +kernel) x
  simp only [Bool.or_eq_true, decide_eq_true_eq] at this
  exact this.resolve_left (fun h' => h' h)
theorem xt_small (x : UInt8) (h : ¬ (255 : Int) < 2 * (x.toNat : Int)) : 2 * (x.toNat : Int) = ((xt x).toNat : Int) := by
  have := u8_all (p := fun x => decide ((255 : Int) < 2 * (x.toNat : Int)) || decide (2 * (x.toNat : Int) = ((xt x).toNat : Int))) (by decide +kernel) x
  simp only [Bool.or_eq_true, decide_eq_true_eq] at this
  exact this.resolve_left h
theorem u8Of_nat (a : UInt8) : u8Of (a.toNat : Int) = a := by
  have := u8_all (p := fun a => u8Of (a.toNat : Int) == a) (by decide +kernel) a
  simpa using this
theorem inu64 {x : Int} (h : 0 ≤ x ∧ x ≤ 9223372036854775807) : IntKind.u64.wrap x = x := by
  simp [IntKind.wrap, IntKind.bits, IntKind.signed]; omega
theorem bv64 {a : UInt8} : BitVec.ofInt 64 (a.toNat : Int) = BitVec.ofNat 64 a.toNat := by
  apply BitVec.eq_of_toNat_eq
  have := a.toNat_lt
  simp [BitVec.toNat_ofInt]
section
variable {P : Program} {n : Nat} {L : Env} {w : World} {d : Option Tmp} {ty : TypeId} {p : String} {af : Array Edge} {g : Option (Nat × Bool)} {x y : Operand} {xt yt : TypeId}
theorem py_xorI (a b : UInt8) (hx : evL L x = some (.int .i64 a.toNat)) (hy : evL L y = some (.int .i64 b.toNat)) : Py P n L w ⟨d, .binOp .xor xt x y yt, ty, p, af, g⟩ (.int .i64 (a ^^^ b).toNat) := by
  have h := py_xor (P := P) (n := n) (w := w) (d := d) (ty := ty) (p := p) (af := af) (g := g) (xt := xt) (yt := yt) hx hy
  have e : (BitVec.ofNat 64 a.toNat ^^^ BitVec.ofNat 64 b.toNat).toNat = (a ^^^ b).toNat := by
    have ha := a.toNat_lt
    have hb := b.toNat_lt
    rw [BitVec.toNat_xor, BitVec.toNat_ofNat, BitVec.toNat_ofNat, Nat.mod_eq_of_lt (by omega), Nat.mod_eq_of_lt (by omega), UInt8.toNat_xor]
  have hlt := (a ^^^ b).toNat_lt
  rwa [show IntKind.i64.bits = 64 from rfl, bv64, bv64, e, wrap64 (by omega)] at h
end
theorem pw_step (o a : UInt8) (n : Nat) : mulG o (pw a (n + 1)) = mulG (mulG o a) (pw a n) := by
  show mulG o (mulG (pw a n) a) = _
  rw [mul_comm (pw a n) a, ← mul_assoc]
theorem pw_even (o x : UInt8) {m : Nat} (h : m % 2 ≠ 1) : mulG o (pw x m) = mulG o (pw (mulG x x) (m / 2)) := by
  rw [pw_sq, show 2 * (m / 2) = m from by omega]
theorem pw_odd (o x : UInt8) {m : Nat} (h : m % 2 = 1) : mulG o (pw x m) = mulG (mulG o x) (pw (mulG x x) (m / 2)) := by
  rw [pw_sq, ← pw_step, show 2 * (m / 2) + 1 = m from by omega]
/-- A weight of the code. -/
def cauchy (j i : Int) : UInt8 := invG (u8Of (128 + j) ^^^ u8Of i)
theorem inv_zero : invG 0 = 0 := by decide +kernel
section
variable {P : Program} {n : Nat} {L : Env} {w : World} {d : Option Tmp} {ty : TypeId} {p : String} {af : Array Edge} {g : Option (Nat × Bool)} {x y : Operand} {xt yt : TypeId}
theorem py_andI1 {m : Nat} (hm : m < 9223372036854775808) (hx : evL L x = some (.int .i64 m)) (hy : evL L y = some (.int .i64 1)) : Py P n L w ⟨d, .binOp .and xt x y yt, ty, p, af, g⟩ (.int .i64 ((m % 2 : Nat) : Int)) := by
  have h := py_and (P := P) (n := n) (w := w) (d := d) (ty := ty) (p := p) (af := af) (g := g) (xt := xt) (yt := yt) hx hy
  have e : (BitVec.ofInt 64 (m : Int) &&& BitVec.ofInt 64 1).toNat = m % 2 := by
    rw [BitVec.toNat_and, BitVec.toNat_ofInt, show (BitVec.ofInt 64 1).toNat = 1 from rfl, Nat.and_one_is_mod]
    omega
  rwa [show IntKind.i64.bits = 64 from rfl, e, wrap64 (by omega)] at h
theorem py_shrI1 {m : Nat} {k2 : IntKind} (hx : evL L x = some (.int .i64 m)) (hy : evL L y = some (.int k2 1)) : Py P n L w ⟨d, .binOp .shr xt x y yt, ty, p, af, g⟩ (.int .i64 ((m / 2 : Nat) : Int)) := by
  have h := py_shr (P := P) (n := n) (w := w) (d := d) (ty := ty) (p := p) (af := af) (g := g) (xt := xt) (yt := yt) hx hy (by omega)
  have e : ((m : Int).fdiv (2 ^ min ((1 : Int).toNat) IntKind.i64.bits)) = ((m / 2 : Nat) : Int) := by
    rw [show (2 : Int) ^ min ((1 : Int).toNat) IntKind.i64.bits = 2 from rfl, Int.fdiv_eq_ediv_of_nonneg _ (by omega)]
    norm_cast
  rwa [e] at h
end
end Go.Wk
