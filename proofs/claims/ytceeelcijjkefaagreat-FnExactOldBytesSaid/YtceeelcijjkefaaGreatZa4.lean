/-
  Laws on walking, and the functions walked, each once: what this claim comes to.
-/
import Derived.Test.YtceeelcijjkefaaGreatZa3
set_option linter.unusedVariables false
set_option linter.unusedSimpArgs false
namespace Go.Wk
def ivT : List (UInt8 × UInt8) := [(1, 1), (23, 102), (27, 128), (29, 131), (84, 129), (128, 27), (129, 84), (130, 161), (131, 29), (143, 245), (161, 130), (225, 63), (239, 106)]
set_option maxRecDepth 100000 in
theorem ivT_ok : (ivT.all fun e => decide (invG e.1 = e.2)) = true := by decide +kernel
def ivL (p : UInt8) : UInt8 := match ivT.find? (fun e => decide (e.1 = p)) with
  | some e => e.2
  | none => invG p
theorem ivL_eq : ivL = invG := by
  funext p
  unfold ivL
  split
  · rename_i e he
    have h1 := List.find?_some he
    have h2 := List.mem_of_find?_eq_some he
    have h3 := List.all_eq_true.1 ivT_ok e h2
    simp only [decide_eq_true_eq] at h1 h3
    rw [← h1, h3]
  · rfl
def normW (iv : UInt8 → UInt8) (m : Mat) (c r a : Nat) : Mat := (m.set a (m.getD r [])).set r (scaleG (m.getD a []) (iv (entry m a c)))
def stepW (iv : UInt8 → UInt8) (m : Mat) (c r : Nat) : Mat × Nat := if m.length ≤ pivAt m c r then (m, r) else (elimTo (normW iv m c r (pivAt m c r)) c r m.length, r + 1)
def redW (iv : UInt8 → UInt8) (m : Mat) : Nat → Mat × Nat
  | 0 => (m, 0)
  | c + 1 => stepW iv (redW iv m c).1 c (redW iv m c).2
theorem redW_eq (m : Mat) : ∀ n, redW invG m n = redM m n
  | 0 => rfl
  | n + 1 => by rw [redW, redM, redW_eq m n]; rfl
def chainW (iv : UInt8 → UInt8) : Nat → Mat × Nat → List (Mat × Nat) → Bool
  | _, _, [] => true
  | c, m, x :: t => decide (stepW iv m.1 c m.2 = x) && chainW iv (c + 1) x t
theorem chain_ok {iv : UInt8 → UInt8} {A : Mat} : ∀ {l : List (Mat × Nat)} {c : Nat} {m : Mat × Nat}, redW iv A c = m → chainW iv c m l = true → redW iv A (c + l.length) = l.getLastD m
  | [], _, _, h, _ => h
  | x :: t, c, m, h, hc => by
    unfold chainW at hc
    simp only [Bool.and_eq_true, decide_eq_true_eq] at hc
    have h2 : redW iv A (c + 1) = x := by rw [redW, h]; exact hc.1
    have := chain_ok (l := t) (c := c + 1) h2 hc.2
    rw [show c + (x :: t).length = c + 1 + t.length by simp; omega, this]
    cases t <;> rfl
def genAtW (iv : UInt8 → UInt8) (n : Nat) (p : Int) (i : Nat) : UInt8 := if (n : Int) ≤ p then iv (u8Of (128 + (0 + p - n)) ^^^ u8Of i) else if (i : Int) = p then 1 else 0
def genW (iv : UInt8 → UInt8) (n : Nat) (p : Int) : List UInt8 := (List.range n).map (genAtW iv n p)
structure Way where
  n : Nat
  hs : List Int
  x : Int
  g : List UInt8
  m : Mat
  steps : List (Mat × Nat)
  w : List UInt8
def Way.ok (iv : UInt8 → UInt8) (e : Way) : Bool :=
  decide (genW iv e.n e.x = e.g) && decide (trF (fun t => genW iv e.n (e.hs.getD t 0)) e.n e.n 0 = e.m) && chainW iv 0 (aug e.m e.g, 0) e.steps && decide (e.steps.length = e.n) && decide (e.m.length = e.n) &&
    decide (e.n ≤ (e.steps.getLastD (aug e.m e.g, 0)).2) && decide (colTo (e.steps.getLastD (aug e.m e.g, 0)).1 e.n e.n = e.w)
theorem Way.fact {e : Way} (h : e.ok ivL = true) : betw e.n e.hs e.x 0 = e.w := by
  rw [ivL_eq] at h
  unfold Way.ok at h
  simp only [Bool.and_eq_true, decide_eq_true_eq] at h
  obtain ⟨⟨⟨⟨⟨⟨h1, h2⟩, h3⟩, h4⟩, h5⟩, h6⟩, h7⟩ := h
  have hc := chain_ok (A := aug e.m e.g) (c := 0) rfl h3
  rw [Nat.zero_add, h4, redW_eq] at hc
  have e1 : betwM e.n e.hs 0 = e.m := h2
  have e2 : genG e.n e.x 0 = e.g := h1
  rw [betw, e1, e2]
  have h8 : ¬ (redM (aug e.m e.g) e.m.length).2 < e.m.length := by
    rw [h5, hc]; exact Nat.not_lt.2 h6
  rw [(sol_yes h8).2, h5, hc]
  exact h7
def ways : List Way := [
  ⟨1, [0], 0, [1], [[1]], [([[1, 1]], 1)], [1]⟩,
  ⟨1, [0], 1, [27], [[1]], [([[1, 27]], 1)], [27]⟩,
  ⟨1, [0], 2, [84], [[1]], [([[1, 84]], 1)], [84]⟩,
  ⟨1, [1], 0, [1], [[27]], [([[1, 128]], 1)], [128]⟩,
  ⟨1, [1], 1, [27], [[27]], [([[1, 1]], 1)], [1]⟩,
  ⟨1, [1], 2, [84], [[27]], [([[1, 85]], 1)], [85]⟩,
  ⟨1, [2], 0, [1], [[84]], [([[1, 129]], 1)], [129]⟩,
  ⟨1, [2], 1, [27], [[84]], [([[1, 26]], 1)], [26]⟩,
  ⟨1, [2], 2, [84], [[84]], [([[1, 1]], 1)], [1]⟩,
  ⟨2, [0, 1], 0, [1, 0], [[1, 0], [0, 1]], [([[1, 0, 1], [0, 1, 0]], 1), ([[1, 0, 1], [0, 1, 0]], 2)], [1, 0]⟩,
  ⟨2, [0, 1], 1, [0, 1], [[1, 0], [0, 1]], [([[1, 0, 0], [0, 1, 1]], 1), ([[1, 0, 0], [0, 1, 1]], 2)], [0, 1]⟩,
  ⟨2, [0, 1], 2, [27, 84], [[1, 0], [0, 1]], [([[1, 0, 27], [0, 1, 84]], 1), ([[1, 0, 27], [0, 1, 84]], 2)], [27, 84]⟩,
  ⟨2, [0, 1], 3, [84, 27], [[1, 0], [0, 1]], [([[1, 0, 84], [0, 1, 27]], 1), ([[1, 0, 84], [0, 1, 27]], 2)], [84, 27]⟩,
  ⟨2, [0, 2], 0, [1, 0], [[1, 27], [0, 84]], [([[1, 27, 1], [0, 84, 0]], 1), ([[1, 0, 1], [0, 1, 0]], 2)], [1, 0]⟩,
  ⟨2, [0, 2], 1, [0, 1], [[1, 27], [0, 84]], [([[1, 27, 0], [0, 84, 1]], 1), ([[1, 0, 26], [0, 1, 129]], 2)], [26, 129]⟩,
  ⟨2, [0, 2], 2, [27, 84], [[1, 27], [0, 84]], [([[1, 27, 27], [0, 84, 84]], 1), ([[1, 0, 0], [0, 1, 1]], 2)], [0, 1]⟩,
  ⟨2, [0, 2], 3, [84, 27], [[1, 27], [0, 84]], [([[1, 27, 84], [0, 84, 27]], 1), ([[1, 0, 23], [0, 1, 26]], 2)], [23, 26]⟩,
  ⟨2, [0, 3], 0, [1, 0], [[1, 84], [0, 27]], [([[1, 84, 1], [0, 27, 0]], 1), ([[1, 0, 1], [0, 1, 0]], 2)], [1, 0]⟩,
  ⟨2, [0, 3], 1, [0, 1], [[1, 84], [0, 27]], [([[1, 84, 0], [0, 27, 1]], 1), ([[1, 0, 85], [0, 1, 128]], 2)], [85, 128]⟩,
  ⟨2, [0, 3], 2, [27, 84], [[1, 84], [0, 27]], [([[1, 84, 27], [0, 27, 84]], 1), ([[1, 0, 143], [0, 1, 85]], 2)], [143, 85]⟩,
  ⟨2, [0, 3], 3, [84, 27], [[1, 84], [0, 27]], [([[1, 84, 84], [0, 27, 27]], 1), ([[1, 0, 0], [0, 1, 1]], 2)], [0, 1]⟩,
  ⟨2, [1, 2], 0, [1, 0], [[0, 27], [1, 84]], [([[1, 84, 0], [0, 27, 1]], 1), ([[1, 0, 85], [0, 1, 128]], 2)], [85, 128]⟩,
  ⟨2, [1, 2], 1, [0, 1], [[0, 27], [1, 84]], [([[1, 84, 1], [0, 27, 0]], 1), ([[1, 0, 1], [0, 1, 0]], 2)], [1, 0]⟩,
  ⟨2, [1, 2], 2, [27, 84], [[0, 27], [1, 84]], [([[1, 84, 84], [0, 27, 27]], 1), ([[1, 0, 0], [0, 1, 1]], 2)], [0, 1]⟩,
  ⟨2, [1, 2], 3, [84, 27], [[0, 27], [1, 84]], [([[1, 84, 27], [0, 27, 84]], 1), ([[1, 0, 143], [0, 1, 85]], 2)], [143, 85]⟩,
  ⟨2, [1, 3], 0, [1, 0], [[0, 84], [1, 27]], [([[1, 27, 0], [0, 84, 1]], 1), ([[1, 0, 26], [0, 1, 129]], 2)], [26, 129]⟩,
  ⟨2, [1, 3], 1, [0, 1], [[0, 84], [1, 27]], [([[1, 27, 1], [0, 84, 0]], 1), ([[1, 0, 1], [0, 1, 0]], 2)], [1, 0]⟩,
  ⟨2, [1, 3], 2, [27, 84], [[0, 84], [1, 27]], [([[1, 27, 84], [0, 84, 27]], 1), ([[1, 0, 23], [0, 1, 26]], 2)], [23, 26]⟩,
  ⟨2, [1, 3], 3, [84, 27], [[0, 84], [1, 27]], [([[1, 27, 27], [0, 84, 84]], 1), ([[1, 0, 0], [0, 1, 1]], 2)], [0, 1]⟩,
  ⟨2, [2, 3], 0, [1, 0], [[27, 84], [84, 27]], [([[1, 85, 128], [0, 143, 85]], 1), ([[1, 0, 245], [0, 1, 102]], 2)], [245, 102]⟩,
  ⟨2, [2, 3], 1, [0, 1], [[27, 84], [84, 27]], [([[1, 85, 0], [0, 143, 1]], 1), ([[1, 0, 102], [0, 1, 245]], 2)], [102, 245]⟩,
  ⟨2, [2, 3], 2, [27, 84], [[27, 84], [84, 27]], [([[1, 85, 1], [0, 143, 0]], 1), ([[1, 0, 1], [0, 1, 0]], 2)], [1, 0]⟩,
  ⟨2, [2, 3], 3, [84, 27], [[27, 84], [84, 27]], [([[1, 85, 85], [0, 143, 143]], 1), ([[1, 0, 0], [0, 1, 1]], 2)], [0, 1]⟩,
  ⟨3, [0, 1, 2], 0, [1, 0, 0], [[1, 0, 0], [0, 1, 0], [0, 0, 1]], [([[1, 0, 0, 1], [0, 1, 0, 0], [0, 0, 1, 0]], 1), ([[1, 0, 0, 1], [0, 1, 0, 0], [0, 0, 1, 0]], 2), ([[1, 0, 0, 1], [0, 1, 0, 0], [0, 0, 1, 0]], 3)], [1, 0, 0]⟩,
  ⟨3, [0, 1, 2], 1, [0, 1, 0], [[1, 0, 0], [0, 1, 0], [0, 0, 1]], [([[1, 0, 0, 0], [0, 1, 0, 1], [0, 0, 1, 0]], 1), ([[1, 0, 0, 0], [0, 1, 0, 1], [0, 0, 1, 0]], 2), ([[1, 0, 0, 0], [0, 1, 0, 1], [0, 0, 1, 0]], 3)], [0, 1, 0]⟩,
  ⟨3, [0, 1, 2], 2, [0, 0, 1], [[1, 0, 0], [0, 1, 0], [0, 0, 1]], [([[1, 0, 0, 0], [0, 1, 0, 0], [0, 0, 1, 1]], 1), ([[1, 0, 0, 0], [0, 1, 0, 0], [0, 0, 1, 1]], 2), ([[1, 0, 0, 0], [0, 1, 0, 0], [0, 0, 1, 1]], 3)], [0, 0, 1]⟩,
  ⟨3, [0, 1, 2], 3, [27, 84, 161], [[1, 0, 0], [0, 1, 0], [0, 0, 1]], [([[1, 0, 0, 27], [0, 1, 0, 84], [0, 0, 1, 161]], 1), ([[1, 0, 0, 27], [0, 1, 0, 84], [0, 0, 1, 161]], 2), ([[1, 0, 0, 27], [0, 1, 0, 84], [0, 0, 1, 161]], 3)], [27, 84, 161]⟩,
  ⟨3, [0, 1, 2], 4, [84, 27, 29], [[1, 0, 0], [0, 1, 0], [0, 0, 1]], [([[1, 0, 0, 84], [0, 1, 0, 27], [0, 0, 1, 29]], 1), ([[1, 0, 0, 84], [0, 1, 0, 27], [0, 0, 1, 29]], 2), ([[1, 0, 0, 84], [0, 1, 0, 27], [0, 0, 1, 29]], 3)], [84, 27, 29]⟩,
  ⟨3, [0, 1, 3], 0, [1, 0, 0], [[1, 0, 27], [0, 1, 84], [0, 0, 161]], [([[1, 0, 27, 1], [0, 1, 84, 0], [0, 0, 161, 0]], 1), ([[1, 0, 27, 1], [0, 1, 84, 0], [0, 0, 161, 0]], 2), ([[1, 0, 0, 1], [0, 1, 0, 0], [0, 0, 1, 0]], 3)], [1, 0, 0]⟩,
  ⟨3, [0, 1, 3], 1, [0, 1, 0], [[1, 0, 27], [0, 1, 84], [0, 0, 161]], [([[1, 0, 27, 0], [0, 1, 84, 1], [0, 0, 161, 0]], 1), ([[1, 0, 27, 0], [0, 1, 84, 1], [0, 0, 161, 0]], 2), ([[1, 0, 0, 0], [0, 1, 0, 1], [0, 0, 1, 0]], 3)], [0, 1, 0]⟩,
  ⟨3, [0, 1, 3], 2, [0, 0, 1], [[1, 0, 27], [0, 1, 84], [0, 0, 161]], [([[1, 0, 27, 0], [0, 1, 84, 0], [0, 0, 161, 1]], 1), ([[1, 0, 27, 0], [0, 1, 84, 0], [0, 0, 161, 1]], 2), ([[1, 0, 0, 55], [0, 1, 0, 253], [0, 0, 1, 130]], 3)], [55, 253, 130]⟩,
  ⟨3, [0, 1, 3], 3, [27, 84, 161], [[1, 0, 27], [0, 1, 84], [0, 0, 161]], [([[1, 0, 27, 27], [0, 1, 84, 84], [0, 0, 161, 161]], 1), ([[1, 0, 27, 27], [0, 1, 84, 84], [0, 0, 161, 161]], 2), ([[1, 0, 0, 0], [0, 1, 0, 0], [0, 0, 1, 1]], 3)], [0, 0, 1]⟩,
  ⟨3, [0, 1, 3], 4, [84, 27, 29], [[1, 0, 27], [0, 1, 84], [0, 0, 161]], [([[1, 0, 27, 84], [0, 1, 84, 27], [0, 0, 161, 29]], 1), ([[1, 0, 27, 84], [0, 1, 84, 27], [0, 0, 161, 29]], 2), ([[1, 0, 0, 77], [0, 1, 0, 229], [0, 0, 1, 28]], 3)], [77, 229, 28]⟩,
  ⟨3, [0, 1, 4], 0, [1, 0, 0], [[1, 0, 84], [0, 1, 27], [0, 0, 29]], [([[1, 0, 84, 1], [0, 1, 27, 0], [0, 0, 29, 0]], 1), ([[1, 0, 84, 1], [0, 1, 27, 0], [0, 0, 29, 0]], 2), ([[1, 0, 0, 1], [0, 1, 0, 0], [0, 0, 1, 0]], 3)], [1, 0, 0]⟩,
  ⟨3, [0, 1, 4], 1, [0, 1, 0], [[1, 0, 84], [0, 1, 27], [0, 0, 29]], [([[1, 0, 84, 0], [0, 1, 27, 1], [0, 0, 29, 0]], 1), ([[1, 0, 84, 0], [0, 1, 27, 1], [0, 0, 29, 0]], 2), ([[1, 0, 0, 0], [0, 1, 0, 1], [0, 0, 1, 0]], 3)], [0, 1, 0]⟩,
  ⟨3, [0, 1, 4], 2, [0, 0, 1], [[1, 0, 84], [0, 1, 27], [0, 0, 29]], [([[1, 0, 84, 0], [0, 1, 27, 0], [0, 0, 29, 1]], 1), ([[1, 0, 84, 0], [0, 1, 27, 0], [0, 0, 29, 1]], 2), ([[1, 0, 0, 169], [0, 1, 0, 44], [0, 0, 1, 131]], 3)], [169, 44, 131]⟩,
  ⟨3, [0, 1, 4], 3, [27, 84, 161], [[1, 0, 84], [0, 1, 27], [0, 0, 29]], [([[1, 0, 84, 27], [0, 1, 27, 84], [0, 0, 29, 161]], 1), ([[1, 0, 84, 27], [0, 1, 27, 84], [0, 0, 29, 161]], 2), ([[1, 0, 0, 28], [0, 1, 0, 18], [0, 0, 1, 160]], 3)], [28, 18, 160]⟩,
  ⟨3, [0, 1, 4], 4, [84, 27, 29], [[1, 0, 84], [0, 1, 27], [0, 0, 29]], [([[1, 0, 84, 84], [0, 1, 27, 27], [0, 0, 29, 29]], 1), ([[1, 0, 84, 84], [0, 1, 27, 27], [0, 0, 29, 29]], 2), ([[1, 0, 0, 0], [0, 1, 0, 0], [0, 0, 1, 1]], 3)], [0, 0, 1]⟩,
  ⟨3, [0, 2, 3], 0, [1, 0, 0], [[1, 0, 27], [0, 0, 84], [0, 1, 161]], [([[1, 0, 27, 1], [0, 0, 84, 0], [0, 1, 161, 0]], 1), ([[1, 0, 27, 1], [0, 1, 161, 0], [0, 0, 84, 0]], 2), ([[1, 0, 0, 1], [0, 1, 0, 0], [0, 0, 1, 0]], 3)], [1, 0, 0]⟩,
  ⟨3, [0, 2, 3], 1, [0, 1, 0], [[1, 0, 27], [0, 0, 84], [0, 1, 161]], [([[1, 0, 27, 0], [0, 0, 84, 1], [0, 1, 161, 0]], 1), ([[1, 0, 27, 0], [0, 1, 161, 0], [0, 0, 84, 1]], 2), ([[1, 0, 0, 26], [0, 1, 0, 255], [0, 0, 1, 129]], 3)], [26, 255, 129]⟩,
  ⟨3, [0, 2, 3], 2, [0, 0, 1], [[1, 0, 27], [0, 0, 84], [0, 1, 161]], [([[1, 0, 27, 0], [0, 0, 84, 0], [0, 1, 161, 1]], 1), ([[1, 0, 27, 0], [0, 1, 161, 1], [0, 0, 84, 0]], 2), ([[1, 0, 0, 0], [0, 1, 0, 1], [0, 0, 1, 0]], 3)], [0, 1, 0]⟩,
  ⟨3, [0, 2, 3], 3, [27, 84, 161], [[1, 0, 27], [0, 0, 84], [0, 1, 161]], [([[1, 0, 27, 27], [0, 0, 84, 84], [0, 1, 161, 161]], 1), ([[1, 0, 27, 27], [0, 1, 161, 161], [0, 0, 84, 84]], 2), ([[1, 0, 0, 0], [0, 1, 0, 0], [0, 0, 1, 1]], 3)], [0, 0, 1]⟩,
  ⟨3, [0, 2, 3], 4, [84, 27, 29], [[1, 0, 27], [0, 0, 84], [0, 1, 161]], [([[1, 0, 27, 84], [0, 0, 84, 27], [0, 1, 161, 29]], 1), ([[1, 0, 27, 84], [0, 1, 161, 29], [0, 0, 84, 27]], 2), ([[1, 0, 0, 23], [0, 1, 0, 225], [0, 0, 1, 26]], 3)], [23, 225, 26]⟩,
  ⟨3, [0, 2, 4], 0, [1, 0, 0], [[1, 0, 84], [0, 0, 27], [0, 1, 29]], [([[1, 0, 84, 1], [0, 0, 27, 0], [0, 1, 29, 0]], 1), ([[1, 0, 84, 1], [0, 1, 29, 0], [0, 0, 27, 0]], 2), ([[1, 0, 0, 1], [0, 1, 0, 0], [0, 0, 1, 0]], 3)], [1, 0, 0]⟩,
  ⟨3, [0, 2, 4], 1, [0, 1, 0], [[1, 0, 84], [0, 0, 27], [0, 1, 29]], [([[1, 0, 84, 0], [0, 0, 27, 1], [0, 1, 29, 0]], 1), ([[1, 0, 84, 0], [0, 1, 29, 0], [0, 0, 27, 1]], 2), ([[1, 0, 0, 85], [0, 1, 0, 38], [0, 0, 1, 128]], 3)], [85, 38, 128]⟩,
  ⟨3, [0, 2, 4], 2, [0, 0, 1], [[1, 0, 84], [0, 0, 27], [0, 1, 29]], [([[1, 0, 84, 0], [0, 0, 27, 0], [0, 1, 29, 1]], 1), ([[1, 0, 84, 0], [0, 1, 29, 1], [0, 0, 27, 0]], 2), ([[1, 0, 0, 0], [0, 1, 0, 1], [0, 0, 1, 0]], 3)], [0, 1, 0]⟩,
  ⟨3, [0, 2, 4], 3, [27, 84, 161], [[1, 0, 84], [0, 0, 27], [0, 1, 29]], [([[1, 0, 84, 27], [0, 0, 27, 84], [0, 1, 29, 161]], 1), ([[1, 0, 84, 27], [0, 1, 29, 161], [0, 0, 27, 84]], 2), ([[1, 0, 0, 143], [0, 1, 0, 22], [0, 0, 1, 85]], 3)], [143, 22, 85]⟩,
  ⟨3, [0, 2, 4], 4, [84, 27, 29], [[1, 0, 84], [0, 0, 27], [0, 1, 29]], [([[1, 0, 84, 84], [0, 0, 27, 27], [0, 1, 29, 29]], 1), ([[1, 0, 84, 84], [0, 1, 29, 29], [0, 0, 27, 27]], 2), ([[1, 0, 0, 0], [0, 1, 0, 0], [0, 0, 1, 1]], 3)], [0, 0, 1]⟩,
  ⟨3, [0, 3, 4], 0, [1, 0, 0], [[1, 27, 84], [0, 84, 27], [0, 161, 29]], [([[1, 27, 84, 1], [0, 84, 27, 0], [0, 161, 29, 0]], 1), ([[1, 0, 23, 1], [0, 1, 26, 0], [0, 0, 225, 0]], 2), ([[1, 0, 0, 1], [0, 1, 0, 0], [0, 0, 1, 0]], 3)], [1, 0, 0]⟩,
  ⟨3, [0, 3, 4], 1, [0, 1, 0], [[1, 27, 84], [0, 84, 27], [0, 161, 29]], [([[1, 27, 84, 0], [0, 84, 27, 1], [0, 161, 29, 0]], 1), ([[1, 0, 23, 26], [0, 1, 26, 129], [0, 0, 225, 255]], 2), ([[1, 0, 0, 245], [0, 1, 0, 192], [0, 0, 1, 177]], 3)], [245, 192, 177]⟩,
  ⟨3, [0, 3, 4], 2, [0, 0, 1], [[1, 27, 84], [0, 84, 27], [0, 161, 29]], [([[1, 27, 84, 0], [0, 84, 27, 0], [0, 161, 29, 1]], 1), ([[1, 0, 23, 0], [0, 1, 26, 0], [0, 0, 225, 1]], 2), ([[1, 0, 0, 106], [0, 1, 0, 76], [0, 0, 1, 63]], 3)], [106, 76, 63]⟩,
  ⟨3, [0, 3, 4], 3, [27, 84, 161], [[1, 27, 84], [0, 84, 27], [0, 161, 29]], [([[1, 27, 84, 27], [0, 84, 27, 84], [0, 161, 29, 161]], 1), ([[1, 0, 23, 0], [0, 1, 26, 1], [0, 0, 225, 0]], 2), ([[1, 0, 0, 0], [0, 1, 0, 1], [0, 0, 1, 0]], 3)], [0, 1, 0]⟩,
  ⟨3, [0, 3, 4], 4, [84, 27, 29], [[1, 27, 84], [0, 84, 27], [0, 161, 29]], [([[1, 27, 84, 84], [0, 84, 27, 27], [0, 161, 29, 29]], 1), ([[1, 0, 23, 23], [0, 1, 26, 26], [0, 0, 225, 225]], 2), ([[1, 0, 0, 0], [0, 1, 0, 0], [0, 0, 1, 1]], 3)], [0, 0, 1]⟩,
  ⟨3, [1, 2, 3], 0, [1, 0, 0], [[0, 0, 27], [1, 0, 84], [0, 1, 161]], [([[1, 0, 84, 0], [0, 0, 27, 1], [0, 1, 161, 0]], 1), ([[1, 0, 84, 0], [0, 1, 161, 0], [0, 0, 27, 1]], 2), ([[1, 0, 0, 85], [0, 1, 0, 94], [0, 0, 1, 128]], 3)], [85, 94, 128]⟩,
  ⟨3, [1, 2, 3], 1, [0, 1, 0], [[0, 0, 27], [1, 0, 84], [0, 1, 161]], [([[1, 0, 84, 1], [0, 0, 27, 0], [0, 1, 161, 0]], 1), ([[1, 0, 84, 1], [0, 1, 161, 0], [0, 0, 27, 0]], 2), ([[1, 0, 0, 1], [0, 1, 0, 0], [0, 0, 1, 0]], 3)], [1, 0, 0]⟩,
  ⟨3, [1, 2, 3], 2, [0, 0, 1], [[0, 0, 27], [1, 0, 84], [0, 1, 161]], [([[1, 0, 84, 0], [0, 0, 27, 0], [0, 1, 161, 1]], 1), ([[1, 0, 84, 0], [0, 1, 161, 1], [0, 0, 27, 0]], 2), ([[1, 0, 0, 0], [0, 1, 0, 1], [0, 0, 1, 0]], 3)], [0, 1, 0]⟩,
  ⟨3, [1, 2, 3], 3, [27, 84, 161], [[0, 0, 27], [1, 0, 84], [0, 1, 161]], [([[1, 0, 84, 84], [0, 0, 27, 27], [0, 1, 161, 161]], 1), ([[1, 0, 84, 84], [0, 1, 161, 161], [0, 0, 27, 27]], 2), ([[1, 0, 0, 0], [0, 1, 0, 0], [0, 0, 1, 1]], 3)], [0, 0, 1]⟩,
  ⟨3, [1, 2, 3], 4, [84, 27, 29], [[0, 0, 27], [1, 0, 84], [0, 1, 161]], [([[1, 0, 84, 27], [0, 0, 27, 84], [0, 1, 161, 29]], 1), ([[1, 0, 84, 27], [0, 1, 161, 29], [0, 0, 27, 84]], 2), ([[1, 0, 0, 143], [0, 1, 0, 239], [0, 0, 1, 85]], 3)], [143, 239, 85]⟩,
  ⟨3, [1, 2, 4], 0, [1, 0, 0], [[0, 0, 84], [1, 0, 27], [0, 1, 29]], [([[1, 0, 27, 0], [0, 0, 84, 1], [0, 1, 29, 0]], 1), ([[1, 0, 27, 0], [0, 1, 29, 0], [0, 0, 84, 1]], 2), ([[1, 0, 0, 26], [0, 1, 0, 59], [0, 0, 1, 129]], 3)], [26, 59, 129]⟩,
  ⟨3, [1, 2, 4], 1, [0, 1, 0], [[0, 0, 84], [1, 0, 27], [0, 1, 29]], [([[1, 0, 27, 1], [0, 0, 84, 0], [0, 1, 29, 0]], 1), ([[1, 0, 27, 1], [0, 1, 29, 0], [0, 0, 84, 0]], 2), ([[1, 0, 0, 1], [0, 1, 0, 0], [0, 0, 1, 0]], 3)], [1, 0, 0]⟩,
  ⟨3, [1, 2, 4], 2, [0, 0, 1], [[0, 0, 84], [1, 0, 27], [0, 1, 29]], [([[1, 0, 27, 0], [0, 0, 84, 0], [0, 1, 29, 1]], 1), ([[1, 0, 27, 0], [0, 1, 29, 1], [0, 0, 84, 0]], 2), ([[1, 0, 0, 0], [0, 1, 0, 1], [0, 0, 1, 0]], 3)], [0, 1, 0]⟩,
  ⟨3, [1, 2, 4], 3, [27, 84, 161], [[0, 0, 84], [1, 0, 27], [0, 1, 29]], [([[1, 0, 27, 84], [0, 0, 84, 27], [0, 1, 29, 161]], 1), ([[1, 0, 27, 84], [0, 1, 29, 161], [0, 0, 84, 27]], 2), ([[1, 0, 0, 23], [0, 1, 0, 190], [0, 0, 1, 26]], 3)], [23, 190, 26]⟩,
  ⟨3, [1, 2, 4], 4, [84, 27, 29], [[0, 0, 84], [1, 0, 27], [0, 1, 29]], [([[1, 0, 27, 27], [0, 0, 84, 84], [0, 1, 29, 29]], 1), ([[1, 0, 27, 27], [0, 1, 29, 29], [0, 0, 84, 84]], 2), ([[1, 0, 0, 0], [0, 1, 0, 0], [0, 0, 1, 1]], 3)], [0, 0, 1]⟩,
  ⟨3, [1, 3, 4], 0, [1, 0, 0], [[0, 27, 84], [1, 84, 27], [0, 161, 29]], [([[1, 84, 27, 0], [0, 27, 84, 1], [0, 161, 29, 0]], 1), ([[1, 0, 143, 85], [0, 1, 85, 128], [0, 0, 239, 94]], 2), ([[1, 0, 0, 143], [0, 1, 0, 160], [0, 0, 1, 103]], 3)], [143, 160, 103]⟩,
  ⟨3, [1, 3, 4], 1, [0, 1, 0], [[0, 27, 84], [1, 84, 27], [0, 161, 29]], [([[1, 84, 27, 1], [0, 27, 84, 0], [0, 161, 29, 0]], 1), ([[1, 0, 143, 1], [0, 1, 85, 0], [0, 0, 239, 0]], 2), ([[1, 0, 0, 1], [0, 1, 0, 0], [0, 0, 1, 0]], 3)], [1, 0, 0]⟩,
  ⟨3, [1, 3, 4], 2, [0, 0, 1], [[0, 27, 84], [1, 84, 27], [0, 161, 29]], [([[1, 84, 27, 0], [0, 27, 84, 0], [0, 161, 29, 1]], 1), ([[1, 0, 143, 0], [0, 1, 85, 0], [0, 0, 239, 1]], 2), ([[1, 0, 0, 95], [0, 1, 0, 174], [0, 0, 1, 106]], 3)], [95, 174, 106]⟩,
  ⟨3, [1, 3, 4], 3, [27, 84, 161], [[0, 27, 84], [1, 84, 27], [0, 161, 29]], [([[1, 84, 27, 84], [0, 27, 84, 27], [0, 161, 29, 161]], 1), ([[1, 0, 143, 0], [0, 1, 85, 1], [0, 0, 239, 0]], 2), ([[1, 0, 0, 0], [0, 1, 0, 1], [0, 0, 1, 0]], 3)], [0, 1, 0]⟩,
  ⟨3, [1, 3, 4], 4, [84, 27, 29], [[0, 27, 84], [1, 84, 27], [0, 161, 29]], [([[1, 84, 27, 27], [0, 27, 84, 84], [0, 161, 29, 29]], 1), ([[1, 0, 143, 143], [0, 1, 85, 85], [0, 0, 239, 239]], 2), ([[1, 0, 0, 0], [0, 1, 0, 0], [0, 0, 1, 1]], 3)], [0, 0, 1]⟩,
  ⟨3, [2, 3, 4], 0, [1, 0, 0], [[0, 27, 84], [0, 84, 27], [1, 161, 29]], [([[1, 161, 29, 0], [0, 84, 27, 0], [0, 27, 84, 1]], 1), ([[1, 0, 225, 0], [0, 1, 26, 0], [0, 0, 23, 1]], 2), ([[1, 0, 0, 239], [0, 1, 0, 245], [0, 0, 1, 102]], 3)], [239, 245, 102]⟩,
  ⟨3, [2, 3, 4], 1, [0, 1, 0], [[0, 27, 84], [0, 84, 27], [1, 161, 29]], [([[1, 161, 29, 0], [0, 84, 27, 1], [0, 27, 84, 0]], 1), ([[1, 0, 225, 255], [0, 1, 26, 129], [0, 0, 23, 26]], 2), ([[1, 0, 0, 65], [0, 1, 0, 102], [0, 0, 1, 245]], 3)], [65, 102, 245]⟩,
  ⟨3, [2, 3, 4], 2, [0, 0, 1], [[0, 27, 84], [0, 84, 27], [1, 161, 29]], [([[1, 161, 29, 1], [0, 84, 27, 0], [0, 27, 84, 0]], 1), ([[1, 0, 225, 1], [0, 1, 26, 0], [0, 0, 23, 0]], 2), ([[1, 0, 0, 1], [0, 1, 0, 0], [0, 0, 1, 0]], 3)], [1, 0, 0]⟩,
  ⟨3, [2, 3, 4], 3, [27, 84, 161], [[0, 27, 84], [0, 84, 27], [1, 161, 29]], [([[1, 161, 29, 161], [0, 84, 27, 84], [0, 27, 84, 27]], 1), ([[1, 0, 225, 0], [0, 1, 26, 1], [0, 0, 23, 0]], 2), ([[1, 0, 0, 0], [0, 1, 0, 1], [0, 0, 1, 0]], 3)], [0, 1, 0]⟩,
  ⟨3, [2, 3, 4], 4, [84, 27, 29], [[0, 27, 84], [0, 84, 27], [1, 161, 29]], [([[1, 161, 29, 29], [0, 84, 27, 27], [0, 27, 84, 84]], 1), ([[1, 0, 225, 225], [0, 1, 26, 26], [0, 0, 23, 23]], 2), ([[1, 0, 0, 0], [0, 1, 0, 0], [0, 0, 1, 1]], 3)], [0, 0, 1]⟩]
set_option maxRecDepth 100000 in
theorem ways_ok : (ways.all fun e => e.ok ivL) = true := by decide +kernel
def wayW (n : Nat) (hs : List Int) (x : Nat) : List UInt8 := match ways.find? (fun e => decide (e.n = n) && decide (e.hs = hs) && decide (e.x = (x : Int))) with
  | some e => e.w
  | none => []
def wayG (n : Nat) (x : Nat) : List UInt8 := match ways.find? (fun e => decide (e.n = n) && decide (e.x = (x : Int))) with
  | some e => e.g
  | none => []
def tabOk (n : Nat) (hs : List Int) : Bool :=
  (List.range (n + 2)).all fun x => decide (ways.find? (fun e => decide (e.n = n) && decide (e.hs = hs) && decide (e.x = (x : Int))) ≠ none) && decide ((wayW n hs x).length = n) &&
    ((List.range n).all fun t => decide (xorN (fun j => mulG ((wayG n (hs.getD j 0).toNat).getD t 0) ((wayW n hs x).getD j 0)) n = (wayG n x).getD t 0)) &&
    ((List.range n).all fun j => decide (xorN (fun i => mulG ((wayW n hs i).getD j 0) ((wayG n x).getD i 0)) n = (wayW n hs x).getD j 0))
end Go.Wk
namespace Go.Wk
open Rp (sz own)
set_option maxRecDepth 100000 in
theorem tab_all : ([1, 2, 3].all fun n => (candH n).all (tabOk n)) = true := by decide +kernel
theorem cand_of {n s : Nat} {hs : List Int} (hn : 1 ≤ n ∧ n ≤ 3) (h2 : s ≤ 2) (hr : rises hs ((n : Int) + s - 1) = true) (hl : hs.length = n) : hs ∈ candH n := by
  rw [rises, List.all_eq_true] at hr
  have hr : ∀ i, i < hs.length → riseAt hs ((n : Int) + s - 1) i = true := fun i hi => hr i (by simpa using hi)
  simp only [riseAt, Bool.and_eq_true, Bool.or_eq_true, decide_eq_true_eq] at hr
  have hc : n = 1 ∨ n = 2 ∨ n = 3 := by omega
  rcases hc with rfl | rfl | rfl
  · match hs, hl with
    | [a], _ =>
      have h0 := hr 0 (by simp)
      simp only [List.getD_cons_zero] at h0
      have : a = 0 ∨ a = 1 ∨ a = 2 := by omega
      rcases this with rfl | rfl | rfl <;> simp [candH]
  · match hs, hl with
    | [a, b], _ =>
      have h0 := hr 0 (by simp)
      have h1 := hr 1 (by simp)
      simp only [List.getD_cons_zero, List.getD_cons_succ, Nat.sub_self, Nat.one_ne_zero, false_or] at h0 h1
      have ha : a = 0 ∨ a = 1 ∨ a = 2 := by omega
      have hb : b = 1 ∨ b = 2 ∨ b = 3 := by omega
      rcases ha with rfl | rfl | rfl <;> rcases hb with rfl | rfl | rfl <;> first | (exfalso; omega) | simp [candH]
  · match hs, hl with
    | [a, b, c], _ =>
      have h0 := hr 0 (by simp)
      have h1 := hr 1 (by simp)
      have h2 := hr 2 (by simp)
      simp only [List.getD_cons_zero, List.getD_cons_succ, Nat.sub_self, Nat.one_ne_zero, false_or, Nat.succ_ne_zero, show (2 : Nat) - 1 = 1 from rfl, (by decide : ¬ (2 : Nat) = 0)] at h0 h1 h2
      have ha : a = 0 ∨ a = 1 ∨ a = 2 := by omega
      have hb : b = 1 ∨ b = 2 ∨ b = 3 := by omega
      have hc : c = 2 ∨ c = 3 ∨ c = 4 := by omega
      rcases ha with rfl | rfl | rfl <;> rcases hb with rfl | rfl | rfl <;> rcases hc with rfl | rfl | rfl <;> first | (exfalso; omega) | simp [candH]
theorem tab_of {n : Nat} {hs : List Int} (hn : 1 ≤ n ∧ n ≤ 3) (h : hs ∈ candH n) : tabOk n hs = true := by
  have h1 := List.all_eq_true.1 tab_all n (by have hc : n = 1 ∨ n = 2 ∨ n = 3 := by omega
                                              rcases hc with rfl | rfl | rfl <;> simp)
  exact List.all_eq_true.1 h1 hs h
theorem way_at {n : Nat} {hs : List Int} (h : tabOk n hs = true) {x : Nat} (hx : x < n + 2) : betw n hs x 0 = wayW n hs x ∧ genG n x 0 = wayG n x := by
  have h1 := List.all_eq_true.1 h x (by simpa using hx)
  simp only [Bool.and_eq_true, decide_eq_true_eq] at h1
  have h2 := h1.1.1.1
  have key : ∀ e ∈ ways, e.ok ivL = true := List.all_eq_true.1 ways_ok
  cases he : ways.find? (fun e => decide (e.n = n) && decide (e.hs = hs) && decide (e.x = (x : Int))) with
  | none => exact absurd he h2
  | some e =>
    have e1 := List.find?_some he
    simp only [Bool.and_eq_true, decide_eq_true_eq] at e1
    obtain ⟨⟨e2, e3⟩, e4⟩ := e1
    have hm := List.mem_of_find?_eq_some he
    refine ⟨?_, ?_⟩
    · have := Way.fact (key e hm)
      rw [e2, e3, e4] at this
      rw [this, wayW, he]
    · cases hf : ways.find? (fun e => decide (e.n = n) && decide (e.x = (x : Int))) with
      | none =>
        have := List.find?_eq_none.1 hf e hm
        simp [e2, e4] at this
      | some f =>
        have f1 := List.find?_some hf
        simp only [Bool.and_eq_true, decide_eq_true_eq] at f1
        have hg := key f (List.mem_of_find?_eq_some hf)
        rw [ivL_eq] at hg
        unfold Way.ok at hg
        simp only [Bool.and_eq_true, decide_eq_true_eq] at hg
        have h9 := hg.1.1.1.1.1.1
        rw [f1.1, f1.2] at h9
        rw [wayG, hf]
        exact h9
section
variable {n s : Nat} {hs : List Int} {x : Int}
theorem way_len (hn : 1 ≤ n ∧ n ≤ 3) (h2 : s ≤ 2) (hr : rises hs ((n : Int) + s - 1) = true) (hl : hs.length = n) (hx : 0 ≤ x ∧ x < n + 2) : (betw n hs x 0).length = n := by
  obtain ⟨x, rfl⟩ : ∃ k : Nat, x = k := ⟨x.toNat, by omega⟩
  have ht := tab_of hn (cand_of hn h2 hr hl)
  have hx' : x < n + 2 := by omega
  have h1 := List.all_eq_true.1 ht x (by simpa using hx')
  simp only [Bool.and_eq_true, decide_eq_true_eq] at h1
  rw [(way_at ht hx').1]
  exact h1.1.1.2
end
section
variable {n s : Nat} {xs : List (List UInt8)}
theorem rises_have (hl : xs.length = n + s) : rises (haveTo xs n xs.length) ((n : Int) + s - 1) = true := by
  have := have_rises (xs := xs) (n := n) (k := xs.length)
  rwa [show ((xs.length : Nat) : Int) - 1 = (n : Int) + s - 1 by omega] at this
end
end Go.Wk
namespace Go.Wk
theorem dec_lt {n xs} (h : decOk n xs = false) : (haveTo xs n xs.length).length < n := by
  simpa [decOk] using h
theorem dec_ge {n xs} (h : decOk n xs = true) : ¬ (haveTo xs n xs.length).length < n := by
  simp only [decOk, decide_eq_true_eq] at h; omega
theorem blk_at {n xs p} (h : decOk n xs = true) : blkL n xs p = decAt n xs p := (dec_yes (dec_ge h)).2.2 p
theorem dec_at {n xs} (h : decOk n xs = true) : decL n xs = decTo n xs n := (dec_yes (dec_ge h)).2.1
theorem have_end {xs : List (List UInt8)} {n k : Nat} (hk : k ≤ xs.length) (h : ¬ ((k : Int) < xs.length) ∨ ¬ (((haveTo xs n k).length : Int) < n)) :
    haveTo xs n xs.length = haveTo xs n k ∧ thereTo xs n xs.length = thereTo xs n k := by
  rcases h with h | h
  · rw [show k = xs.length by omega]; exact ⟨rfl, rfl⟩
  · have := have_le (xs := xs) (n := n) (k := k)
    exact have_full (by omega) _ hk
end Go.Wk
namespace Go.Wk
open Go.Proofs Rp
set_option maxRecDepth 10000
theorem Tryz_impl_rowCode_decode {w : World} {n s : Nat} {xs : List (List UInt8)} {xsA : Option Addr} {xsC : Nat} (hn : 1 ≤ n ∧ n ≤ 3 ∧ s ≤ 2) (hl : xs.length = n + s) (h4 : Part xs) (xsS : Sees w [.slice xsA xs.length xsC] xs) : Ret Tryz.prog 193 #[.agg #[.int .i64 n, .int .i64 s], .slice xsA xs.length xsC] w fun v w' => Ext No w w' ∧ (∃ A C, v = .tuple #[.slice A (decL n xs).length C, .bool (decOk n xs)] ∧ Res w w' [.slice A (decL n xs).length C] (decL n xs)) := by
 have xsL := sees_len xsS
 unfold maxLen at xsL
 obtain ⟨xsF, xsO⟩ := xsS
 refine ret_Q (vs := [.agg #[.int .i64 n, .int .i64 s], .slice xsA xs.length xsC]) Tryz.func193 rfl Tryz.ntmps193 rfl (fun Q hQ hN => ?_)
 have H0 := Sep.start (w := w) (F := [seen false [.slice xsA xs.length xsC] xs xsF]) (all_cons xsO (by simp))
 refine W_sr (s_box (wn rfl) rfl rfl H0 (fun b1 w1 e1 g1 H1 => ?_))
 refine sV rfl (py_assign rfl) (sV rfl (py_assign rfl) (s_nil (W_sr (s_lit0 (α := Int) (wn rfl) rfl Tryz.underlying25 Tryz_ty2 H1 (fun b2 w2 e2 g2 H2 => ?_)))))
 refine s_lit0 (α := View) (wn rfl) rfl Tryz.underlying163 Tryz_ty61 H2 (fun b3 w3 e3 g3 H3 => ?_)
 refine sV rfl (py_assign rfl) (sV rfl (py_assign rfl) (s_nil (W_seq (W_seq ?_))))
 have HR := H3.noRows (β := UInt8)
 try dsimp only [List.nil_append, List.cons_append, List.set_cons_zero, List.set_cons_succ] at HR
 refine W_reg (sV rfl (py_move rfl) (sV rfl (py_len Tryz.underlying163 rfl) (sV rfl (py_move rfl) (s_nil (W_block (W_loop (γ := Nat × Value × List Nat × Value × List View × List Nat × List Nat) (fun (k, vo, f, vp, vs, f2, g) => [(2, .pointer (some ⟨b1, 0, none⟩)), (6, vo), (7, vp), (14, .slice xsA xs.length xsC), (15, .int .i64 xs.length), (16, .int .i64 k)]) (fun (k, vo, f, vp, vs, f2, g) w' => Sep No w [box b1 (.cells #[.int .i64 n, .int .i64 s] 166), mine [vo] (haveTo xs n k) f, mine [vp] vs f2] [seen false [.slice xsA xs.length xsC] xs xsF, rows vs (thereTo xs n k) g] w' ∧ k ≤ xs.length ∧ vs.length = (thereTo xs n k).length) (fun (k, vo, f, vp, vs, f2, g) => xs.length - k) (0, _, _, _, _, _, _) ⟨rfl, rfl, rfl, rfl, rfl, rfl, trivial⟩ ⟨HR, by omega, rfl⟩ (fun (k, vo, f, vp, vs, f2, g) w4 H4 => ?_)))))))
 obtain ⟨H4, hk, vl⟩ := H4
 refine W_sr (sV rfl (py_lss rfl rfl) (s_nil (W_seq (W_ifd rfl (fun c1 => ?_) (fun c1 => ?_)))))
 ·refine W_skip (W_seq (W_block (W_seq ?_)))
  obtain ⟨eb1, eo1, ea1, ek1, ef1, ee1, ec1, eO1, eH1⟩ := elem_sl (H4.seen 0 rfl) k (by omega)
  have eP1 := H4.look1 0 rfl eO1 eH1
  refine W_reg (sV rfl (py_move rfl) (sV rfl (py_elz Tryz.underlying163 Tryz.sizeOf61 rfl rfl ee1 k (by omega) (by omega)) (sV rfl (py_load Tryz.underlying61 rfl rfl ec1) (sV rfl (py_assign rfl) (sV rfl (py_assign rfl) (s_nil (W_seq (W_drw (S := Ext No _) [(0, true), (1, true), (2, true), (3, true), (4, true), (6, true), (7, true), (5, false), (8, true), (9, false)] (by kernel_rfl) (by kernel_rfl) (by kernel_rfl) rfl (fun _ => Ext.refl.drawn _) (fun q1 => ?_)))))))))
  have H5 := eP1.drawn q1
  refine dV rfl rfl (fun zw hx => py_move rfl) (dV rfl rfl (fun zw hx => py_len Tryz.underlying61 rfl) (dV rfl rfl (fun zw hx => py_gtr rfl rfl) (dV rfl rfl (fun zw hx => py_move rfl) (d_case (t := 24) rfl (fun hg1 => ?_) (fun hg1 => ?_)))))
  ·try simp only [decide_eq_true_eq, decide_eq_false_iff_not] at hg1
   refine d_val rfl (wg rfl rfl rfl) rfl rfl (fun zw hx => py_move rfl) (d_val rfl (wg rfl rfl rfl) rfl rfl (fun zw hx => py_field Tryz.underlying166 rfl Tryz.sizeOf2 rfl rfl) (d_val rfl (wg rfl rfl rfl) rfl rfl (fun zw hx => py_load Tryz.underlying2 rfl rfl (cell_atL (hx.heap (H5.box 0 rfl)) rfl)) ?_))
   obtain ⟨a1, k1, q2⟩ := own_slice (H5.mine 1 rfl)
   cases q2
   refine d_call rfl (wg rfl rfl rfl) rfl rfl (pc_call Tryz.func155 rfl Tryz_nm155 rfl) (Tryz_impl_size_int64 (H5.msees 1 rfl)) (fun hS _ _ r _ => hS.trans r.1.no) (fun v1 w5 r1 => ?_)
   obtain ⟨e4, rfl⟩ := r1
   have H6 := H5.to e4
   refine d_val rfl (wg rfl rfl rfl) rfl rfl (fun zw hx => py_lss rfl rfl) (d_end rfl (wn rfl) rfl rfl (py_pickT rfl rfl) (d_nil (W_ifd rfl (fun c2 => ?_) (fun c2 => ?_))))
   ·have tl := there_len (xs := xs) (n := n) (k := k)
    have hl9 := have_le (xs := xs) (n := n) (k := k)
    refine W_reg (sV rfl (py_move rfl) (sV rfl (py_move rfl) (s_lit1 (wn rfl) rfl Tryz.underlying25 Tryz_ty2 rfl rfl rfl rfl H6 (fun b4 w6 e5 g4 H7 => ?_))))
    refine s_app1 (wn rfl) rfl Tryz.underlying25 Tryz_ty2 rfl rfl rfl H7 1 3 rfl rfl (own_bi (by first | assumption | (unfold I64ok; omega))) (by unfold maxLen; omega) (by omega) (fun v2 w7 fp1 H8 => ?_)
    refine sV rfl (py_move rfl) (sV rfl (py_move rfl) (s_lit1 (wn rfl) rfl Tryz.underlying163 Tryz_ty61 rfl rfl rfl rfl H8 (fun b5 w8 e6 g5 H9 => ?_)))
    refine s_app1 (α := View) (u := ⟨_, _, _⟩) (wn rfl) rfl Tryz.underlying163 Tryz_ty61 rfl rfl rfl H9 2 4 rfl rfl ⟨rfl, rfl⟩ (by unfold maxLen; omega) (by omega) (fun v3 w9 fp2 H10 => ?_)
    try dsimp only [List.nil_append, List.cons_append, List.set_cons_zero, List.set_cons_succ] at H10
    obtain ⟨rg1, H11, rh1⟩ := H10.rowApp 1 2 rfl rfl (by first | assumption | omega)
    try dsimp only [List.nil_append, List.cons_append, List.set_cons_zero, List.set_cons_succ] at H11
    refine sV rfl (py_assign rfl) (sV rfl (py_assign rfl) (s_nil (W_reg (sV rfl (py_add rfl rfl (in64 ⟨by omega, by omega⟩)) (sV rfl (py_move rfl) (s_nil ?_))))))
    have hy := have_yes (xs := xs) (n := n) (k := k) ⟨by omega, by omega⟩
    have hz := ((H11.ftake 2).dtake 3)
    rw [← hy.1, ← hy.2] at hz
    refine ⟨(k + 1, _, _, _, _, _, _), ⟨rfl, rfl, rfl, rfl, rfl, rfl, trivial⟩, ⟨hz, by omega, (by rw [hy.2, List.length_append, List.length_append]; simp only [List.length_cons, List.length_nil]; omega)⟩, by dsimp only; omega⟩
   ·refine W_skip (W_reg (sV rfl (py_add rfl rfl (in64 ⟨by omega, by omega⟩)) (sV rfl (py_move rfl) (s_nil ?_))))
    have hy := have_no (xs := xs) (n := n) (k := k) (by omega)
    have hz := (H6.ftake 2)
    refine ⟨(k + 1, _, _, _, _, _, _), ⟨rfl, rfl, rfl, rfl, rfl, rfl, trivial⟩, ⟨(by rw [hy.1, hy.2]; exact hz), by omega, (by rw [hy.2]; exact vl)⟩, by dsimp only; omega⟩
  ·try simp only [decide_eq_true_eq, decide_eq_false_iff_not] at hg1
   refine d_skip rfl (wog (b := false) rfl rfl rfl) rfl rfl (d_skip rfl (wog (b := false) rfl rfl rfl) rfl rfl (d_skip rfl (wog (b := false) rfl rfl rfl) rfl rfl (d_skipA rfl (wog (b := false) rfl rfl rfl) rfl rfl (d_skip rfl (wog (b := false) rfl rfl rfl) rfl rfl (d_end rfl (wn rfl) rfl rfl (py_pickF rfl rfl) (d_nil (W_iff rfl (W_skip (W_reg (sV rfl (py_add rfl rfl (in64 ⟨by omega, by omega⟩)) (sV rfl (py_move rfl) (s_nil ?_))))))))))))
   have hy := have_no (xs := xs) (n := n) (k := k) (by omega)
   have hz := (H5.ftake 2)
   refine ⟨(k + 1, _, _, _, _, _, _), ⟨rfl, rfl, rfl, rfl, rfl, rfl, trivial⟩, ⟨(by rw [hy.1, hy.2]; exact hz), by omega, (by rw [hy.2]; exact vl)⟩, by dsimp only; omega⟩
 ·refine W_exit (W_seq (W_seq ?_))
  obtain rfl : k = xs.length := by omega
  have hl8 := have_le (xs := xs) (n := n) (k := xs.length)
  refine W_drw (S := Ext No _) [(0, true), (2, true), (3, true), (1, false), (4, false)] (by kernel_rfl) (by kernel_rfl) (by kernel_rfl) rfl (fun _ => Ext.refl.drawn _) (fun q3 => ?_)
  have H12 := H4.drawn q3
  refine dV rfl rfl (fun zw hx => py_move rfl) (dV rfl rfl (fun zw hx => py_field Tryz.underlying166 rfl Tryz.sizeOf2 rfl rfl) (dV rfl rfl (fun zw hx => py_load Tryz.underlying2 rfl rfl (cell_atL (hx.heap (H12.box 0 rfl)) rfl)) ?_))
  obtain ⟨a2, k2, q4⟩ := own_slice (H12.mine 1 rfl)
  cases q4
  refine d_call rfl (wn rfl) rfl rfl (pc_call Tryz.func155 rfl Tryz_nm155 rfl) (Tryz_impl_size_int64 (H12.msees 1 rfl)) (fun hS _ _ r _ => hS.trans r.1.no) (fun v4 w10 r2 => ?_)
  obtain ⟨e7, rfl⟩ := r2
  have H13 := H12.to e7
  refine d_end rfl (wn rfl) rfl rfl (py_lss rfl rfl) (d_nil (W_ifd rfl (fun c3 => ?_) (fun c3 => ?_)))
  ·refine W_sr (sV rfl (py_assign rfl) (sV rfl (py_assign rfl) (s_nil (W_ret (hQ _ _ (fin2 Tryz.results193 rfl rfl ?_))))))
   obtain ⟨e1, e2, _⟩ := dec_no (xs := xs) (n := n) (by omega)
   exact ⟨H13.ext, none, 0, (by rw [e1, e2]; rfl), (by rw [e2]; exact ⟨[], .inr (.inl ⟨rfl, rfl, rfl⟩), .nil, by simp⟩)⟩
  ·refine W_skip (W_seq ?_)
   have tl := there_len (xs := xs) (n := n) (k := xs.length)
   have hl9 := have_le (xs := xs) (n := n) (k := xs.length)
   obtain ⟨pA, pC, pq⟩ := own_slice (H13.mine 2 rfl)
   rw [vl] at pq
   cases pq
   obtain ⟨tf, HV, _⟩ := H13.viewsIn 2 1 rfl rfl vl
   try dsimp only [List.nil_append, List.cons_append, List.set_cons_zero, List.set_cons_succ] at HV
   have hh : (haveTo xs n xs.length).length = n := by omega
   have hth : (thereTo xs n xs.length).length = n := by omega
   have ht4 := there4 (n := n) h4
   have hra : ∀ i, i < n → 0 ≤ (haveTo xs n xs.length).getD i 0 ∧ (haveTo xs n xs.length).getD i 0 ≤ 500 := fun i hi => by have := have_at (xs := xs) (n := n) (k := xs.length) i (by omega); omega
   have hrz : rises (haveTo xs n xs.length) ((n : Int) + s - 1) = true := by have := have_rises (xs := xs) (n := n) (k := xs.length); rwa [show ((xs.length : Nat) : Int) - 1 = (n : Int) + s - 1 by omega] at this
   refine W_reg (s_lit0 (α := UInt8) (wn rfl) rfl Tryz.underlying61 Tryz_ty5 HV (fun b6 w11 e8 g6 H14 => ?_))
   refine sV rfl (py_assign rfl) (s_nil (W_seq (W_sr (sV rfl (py_field Tryz.underlying166 rfl Tryz.sizeOf2 rfl rfl) (sV rfl (py_load Tryz.underlying2 rfl rfl (cell_atL (H14.box 0 rfl) rfl)) (sV rfl (py_move rfl) (s_nil (W_block (W_loop (γ := Nat × Value × List Nat) (fun (i, vo, f3) => [(2, .pointer (some ⟨b1, 0, none⟩)), (6, .slice a2 (haveTo xs n xs.length).length k2), (7, .slice pA (thereTo xs n xs.length).length pC), (10, vo), (47, .int .i64 n), (48, .int .i64 i)]) (fun (i, vo, f3) w' => Sep No w [box b1 (.cells #[.int .i64 n, .int .i64 s] 166), mine [.slice a2 (haveTo xs n xs.length).length k2] (haveTo xs n xs.length) f, gone, mine [vo] (decTo n xs i) f3] _ w' ∧ i ≤ n) (fun (i, vo, f3) => n - i) (0, _, _) ⟨rfl, rfl, rfl, rfl, rfl, rfl, trivial⟩ ⟨H14, by omega⟩ (fun (i, vo, f3) w12 H15 => ?_))))))))))
   obtain ⟨H15, hi⟩ := H15
   refine W_sr (sV rfl (py_lss rfl rfl) (s_nil (W_seq (W_ifd rfl (fun c4 => ?_) (fun c4 => ?_)))))
   ·refine W_skip (W_seq (W_block (W_sr (sV rfl (py_move rfl) (sV rfl (py_assign rfl) (s_nil ?_))))))
    have bl := way_len (n := n) (s := s) (hs := (haveTo xs n xs.length)) (x := (i : Int)) (by omega) (by omega) hrz (by omega) (by omega)
    have ml := mixTo_len (cs := betw n (haveTo xs n xs.length) i 0) ht4 (k := (thereTo xs n xs.length).length) (Nat.le_refl _)
    have dl := decTo_len (n := n) h4 i
    refine W_reg (sV rfl (py_move rfl) (sV rfl (py_move rfl) (sV rfl (py_loadS Tryz.underlying166 rfl Tryz.sizeOf166 rfl rfl (At.whole (H15.box 0 rfl))) (sV rfl (py_move rfl) (sV rfl (py_move rfl) (s_call (wn rfl) rfl rfl (pc_call Tryz.func251 rfl Tryz_nm251 rfl) (Tryz_impl_rowCode_between (H15.msees 1 rfl) (by omega) (by first | assumption | omega) (by assumption) (by first | assumption | omega)) (fun v5 w13 r3 => ?_)))))))
    obtain ⟨e9, r3⟩ := r3
    obtain ⟨fp3, H16⟩ := H15.res e9 r3
    obtain ⟨a3, k3, q5⟩ := own_slice (H16.mine 4 rfl)
    cases q5
    refine s_call (wn rfl) rfl rfl (pc_call Tryz.func230 rfl Tryz_nm230 rfl) (Tryz_impl_mixed (H16.sees 2 rfl) (H16.msees 4 rfl) (by omega) (by omega) (by assumption) (by omega)) (fun v6 w14 r4 => ?_)
    obtain ⟨e10, r4⟩ := r4
    obtain ⟨fp4, H17⟩ := H16.res e10 r4
    obtain ⟨a4, k4, q6⟩ := own_slice (H17.mine 5 rfl)
    cases q6
    refine s_appF (wn rfl) rfl Tryz.underlying61 Tryz_ty5 rfl rfl rfl H17 3 rfl (H17.mine 5 rfl) (by (try simp only [List.length_nil]); unfold maxLen; omega) (by (try simp only [List.length_nil]); omega) (fun v7 w15 fp5 H18 => ?_)
    refine sV rfl (py_assign rfl) (s_nil (W_reg (sV rfl (py_add rfl rfl (in64 ⟨by omega, by omega⟩)) (sV rfl (py_move rfl) (s_nil ?_)))))
    have hz := (H18.dtake 4)
    rw [decTo_step] at hz
    refine ⟨(i + 1, _, _), ⟨rfl, rfl, rfl, rfl, rfl, rfl, trivial⟩, ⟨hz, by omega⟩, by dsimp only; omega⟩
   ·refine W_exit (W_sr (sV rfl (py_move rfl) (sV rfl (py_assign rfl) (sV rfl (py_assign rfl) (s_nil (W_ret (hQ _ _ (fin2 Tryz.results193 rfl rfl ?_))))))))
    obtain rfl : n = i := by omega
    obtain ⟨e1, e2, _⟩ := dec_yes (xs := xs) (n := n) (by omega)
    obtain ⟨qa, qc, qq⟩ := own_slice (H15.mine 3 rfl)
    cases qq
    exact ⟨H15.ext, qa, qc, (by rw [e1, e2]), (by rw [e2]; exact H15.out 3 rfl)⟩
theorem Tryz_spec_l2Block {w : World} {n s : Nat} {p : Int} {xs : List (List UInt8)} {xsA : Option Addr} {xsC : Nat} (hn : 1 ≤ n ∧ n ≤ 3 ∧ s ≤ 2) (hl : xs.length = n + s) (h4 : Part xs) (hp : 0 ≤ p ∧ p ≤ (n : Int) + s - 1) (xsS : Sees w [.slice xsA xs.length xsC] xs) : Ret Tryz.prog 250 #[.int .i64 n, .slice xsA xs.length xsC, .int .i64 p] w fun v w' => Ext No w w' ∧ (∃ A C, v = .tuple #[.slice A (blkL n xs p).length C, .bool (decOk n xs)] ∧ Res w w' [.slice A (blkL n xs p).length C] (blkL n xs p)) := by
 have xsL := sees_len xsS
 unfold maxLen at xsL
 obtain ⟨xsF, xsO⟩ := xsS
 refine ret_Q (vs := [.int .i64 n, .slice xsA xs.length xsC, .int .i64 p]) Tryz.func250 rfl Tryz.ntmps250 rfl (fun Q hQ hN => ?_)
 have H0 := Sep.start (w := w) (F := [seen false [.slice xsA xs.length xsC] xs xsF]) (all_cons xsO (by simp))
 refine W_sr (sV rfl (py_assign rfl) (sV rfl (py_assign rfl) (s_nil (W_sr (s_lit0 (α := Int) (wn rfl) rfl Tryz.underlying25 Tryz_ty2 H0 (fun b1 w1 e1 g1 H1 => ?_))))))
 refine sV rfl (py_assign rfl) (s_nil (W_sr (s_lit0 (α := View) (wn rfl) rfl Tryz.underlying163 Tryz_ty61 H1 (fun b2 w2 e2 g2 H2 => ?_))))
 refine sV rfl (py_assign rfl) (s_nil (W_seq (W_seq ?_)))
 have HR := H2.noRows (β := UInt8)
 try dsimp only [List.nil_append, List.cons_append, List.set_cons_zero, List.set_cons_succ] at HR
 refine W_reg (sV rfl (py_assign rfl) (s_nil (W_block (W_loop (γ := Nat × Value × List Nat × Value × List View × List Nat × List Nat) (fun (k, vo, f, vp, vs, f2, g) => [(0, .int .i64 n), (1, .slice xsA xs.length xsC), (2, .int .i64 p), (8, vo), (9, vp), (10, .int .i64 k)]) (fun (k, vo, f, vp, vs, f2, g) w' => Sep No w [mine [vo] (haveTo xs n k) f, mine [vp] vs f2] [seen false [.slice xsA xs.length xsC] xs xsF, rows vs (thereTo xs n k) g] w' ∧ k ≤ xs.length ∧ vs.length = (thereTo xs n k).length) (fun (k, vo, f, vp, vs, f2, g) => xs.length - k) (0, _, _, _, _, _, _) ⟨rfl, rfl, rfl, rfl, rfl, rfl, trivial⟩ ⟨HR, by omega, rfl⟩ (fun (k, vo, f, vp, vs, f2, g) w3 H3 => ?_)))))
 obtain ⟨H3, hk, vl⟩ := H3
 refine W_seq (W_seq ?_)
 obtain ⟨a1, k1, q1⟩ := own_slice (H3.mine 0 rfl)
 cases q1
 refine W_reg (sV rfl (py_move rfl) (sV rfl (py_move rfl) (sV rfl (py_len Tryz.underlying163 rfl) (sV rfl (py_lss rfl rfl) (sV rfl (py_move rfl) (s_grp 4 (j := 4) (want := true) (t := 21) rfl rfl rfl rfl (fun hg1 kk1 => s_val (wgE rfl rfl rfl hg1) rfl rfl (py_move rfl) (s_val (wgE rfl rfl rfl hg1) rfl rfl (py_len Tryz.underlying25 rfl) (s_val (wgE rfl rfl rfl hg1) rfl rfl (py_move rfl) (s_val (wgE rfl rfl rfl hg1) rfl rfl (py_lss rfl rfl) (kk1 _ _ (kx rfl (kx rfl (kx rfl (kx rfl k0)))) rfl Ext.refl))))) (fun w4 e3 => ?_)))))))
 have H4 := H3.to e3
 refine sV rfl (py_band rfl rfl) (s_nil (W_if rfl (fun c1 => ?_) (fun c1 => ?_)))
 ·simp only [Bool.and_eq_true, decide_eq_true_eq] at c1
  refine W_skip (W_seq (W_block (W_seq ?_)))
  obtain ⟨eb1, eo1, ea1, ek1, ef1, ee1, ec1, eO1, eH1⟩ := elem_sl (H4.seen 0 rfl) k (by omega)
  have eP1 := H4.look1 0 rfl eO1 eH1
  refine W_reg (sV rfl (py_move rfl) (sV rfl (py_move rfl) (sV rfl (py_elz Tryz.underlying163 Tryz.sizeOf61 rfl rfl ee1 k (by omega) (by omega)) (sV rfl (py_load Tryz.underlying61 rfl rfl ec1) (sV rfl (py_len Tryz.underlying61 rfl) (sV rfl (py_gtr rfl rfl) (s_nil (W_ifd rfl (fun c2 => ?_) (fun c2 => ?_)))))))))
  ·refine W_seq ?_
   have tl := there_len (xs := xs) (n := n) (k := k)
   have hl9 := have_le (xs := xs) (n := n) (k := k)
   refine W_reg (sV rfl (py_move rfl) (sV rfl (py_move rfl) (s_lit1 (wn rfl) rfl Tryz.underlying25 Tryz_ty2 rfl rfl rfl rfl eP1 (fun b3 w5 e4 g3 H5 => ?_))))
   refine s_app1 (wn rfl) rfl Tryz.underlying25 Tryz_ty2 rfl rfl rfl H5 0 2 rfl rfl (own_bi (by first | assumption | (unfold I64ok; omega))) (by unfold maxLen; omega) (by omega) (fun v1 w6 fp1 H6 => ?_)
   refine sV rfl (py_assign rfl) (s_nil ?_)
   obtain ⟨eb2, eo2, ea2, ek2, ef2, ee2, ec2, eO2, eH2⟩ := elem_sl (H6.seen 0 rfl) k (by omega)
   have eP2 := H6.look1 0 rfl eO2 eH2
   refine W_reg (sV rfl (py_move rfl) (sV rfl (py_move rfl) (sV rfl (py_move rfl) (sV rfl (py_elz Tryz.underlying163 Tryz.sizeOf61 rfl rfl ee2 k (by omega) (by omega)) (sV rfl (py_load Tryz.underlying61 rfl rfl ec2) (s_lit1 (wn rfl) rfl Tryz.underlying163 Tryz_ty61 rfl rfl rfl rfl eP2 (fun b4 w7 e5 g4 H7 => ?_)))))))
   refine s_app1 (α := View) (u := ⟨_, _, _⟩) (wn rfl) rfl Tryz.underlying163 Tryz_ty61 rfl rfl rfl H7 1 3 rfl rfl ⟨rfl, rfl⟩ (by unfold maxLen; omega) (by omega) (fun v2 w8 fp2 H8 => ?_)
   try dsimp only [List.nil_append, List.cons_append, List.set_cons_zero, List.set_cons_succ] at H8
   obtain ⟨rg1, H9, rh1⟩ := H8.rowApp 1 3 rfl rfl (by first | assumption | omega)
   try dsimp only [List.nil_append, List.cons_append, List.set_cons_zero, List.set_cons_succ] at H9
   refine sV rfl (py_assign rfl) (s_nil (W_reg (sV rfl (py_move rfl) (sV rfl (py_add rfl rfl (in64 ⟨by omega, by omega⟩)) (sV rfl (py_assign rfl) (s_nil ?_))))))
   have hy := have_yes (xs := xs) (n := n) (k := k) ⟨by omega, by omega⟩
   have hz := ((H9.ftake 2).dtake 2)
   rw [← hy.1, ← hy.2] at hz
   refine ⟨(k + 1, _, _, _, _, _, _), ⟨rfl, rfl, rfl, rfl, rfl, rfl, trivial⟩, ⟨hz, by omega, (by rw [hy.2, List.length_append, List.length_append]; simp only [List.length_cons, List.length_nil]; omega)⟩, by dsimp only; omega⟩
  ·refine W_skip (W_reg (sV rfl (py_move rfl) (sV rfl (py_add rfl rfl (in64 ⟨by omega, by omega⟩)) (sV rfl (py_assign rfl) (s_nil ?_)))))
   have hy := have_no (xs := xs) (n := n) (k := k) (by omega)
   have hz := (eP1.ftake 2)
   refine ⟨(k + 1, _, _, _, _, _, _), ⟨rfl, rfl, rfl, rfl, rfl, rfl, trivial⟩, ⟨(by rw [hy.1, hy.2]; exact hz), by omega, (by rw [hy.2]; exact vl)⟩, by dsimp only; omega⟩
 ·simp only [Bool.and_eq_false_iff, decide_eq_false_iff_not] at c1
  have hend := have_end hk c1
  refine W_exit (W_seq (W_sr (sV rfl (py_move rfl) (sV rfl (py_len Tryz.underlying25 rfl) (sV rfl (py_move rfl) (sV rfl (py_lss rfl rfl) (s_nil (W_ifd rfl (fun c3 => ?_) (fun c3 => ?_)))))))))
  ·refine W_sr (sV rfl (py_assign rfl) (sV rfl (py_assign rfl) (s_nil (W_ret (hQ _ _ (fin2 Tryz.results250 rfl rfl ?_))))))
   obtain ⟨e1, _, e2⟩ := dec_no (xs := xs) (n := n) (by rw [hend.1]; omega)
   exact ⟨H4.ext, none, 0, (by rw [e1, e2]; rfl), (by rw [e2]; exact ⟨[], .inr (.inl ⟨rfl, rfl, rfl⟩), .nil, by simp⟩)⟩
  ·refine W_skip (W_seq ?_)
   have hl9 := have_le (xs := xs) (n := n) (k := k)
   have tl := there_len (xs := xs) (n := n) (k := k)
   obtain ⟨pA, pC, pq⟩ := own_slice (H4.mine 1 rfl)
   rw [vl] at pq
   cases pq
   obtain ⟨tf, HV, _⟩ := H4.viewsIn 1 1 rfl rfl vl
   try dsimp only [List.nil_append, List.cons_append, List.set_cons_zero, List.set_cons_succ] at HV
   have hh : (haveTo xs n k).length = n := by omega
   have hth : (thereTo xs n k).length = n := by omega
   have ht4 := there4 (n := n) h4
   rw [hend.2] at ht4
   have hrz := rises_have (xs := xs) (n := n) (s := s) hl
   rw [hend.1] at hrz
   have hra : ∀ i, i < n → 0 ≤ (haveTo xs n k).getD i 0 ∧ (haveTo xs n k).getD i 0 ≤ 500 := fun i hi => by have := have_at (xs := xs) (n := n) (k := k) i (by omega); omega
   have bl := way_len (n := n) (s := s) (hs := (haveTo xs n k)) (x := p) (by omega) (by omega) hrz (by omega) (by omega)
   refine W_reg (sV rfl (py_move rfl) (sV rfl (py_move rfl) (sV rfl (py_move rfl) (sV rfl (py_move rfl) (s_call (wn rfl) rfl rfl (pc_call Tryz.func247 rfl Tryz_nm247 rfl) (Tryz_spec_l2Weights (HV.msees 0 rfl) (by omega) (by first | assumption | omega) (by assumption) (by first | assumption | omega)) (fun v3 w9 r1 => ?_))))))
   obtain ⟨e6, r1⟩ := r1
   obtain ⟨fp3, H10⟩ := HV.res e6 r1
   obtain ⟨a2, k2, q2⟩ := own_slice (H10.mine 2 rfl)
   cases q2
   refine s_call (wn rfl) rfl rfl (pc_call Tryz.func225 rfl Tryz_nm225 rfl) (Tryz_spec_l1Mix (H10.sees 2 rfl) (H10.msees 2 rfl) (by omega) (by omega) (by assumption) (by omega)) (fun v4 w10 r2 => ?_)
   obtain ⟨e7, r2⟩ := r2
   obtain ⟨fp4, H11⟩ := H10.res e7 r2
   obtain ⟨a3, k3, q3⟩ := own_slice (H11.mine 3 rfl)
   cases q3
   refine sV rfl (py_assign rfl) (sV rfl (py_assign rfl) (s_nil (W_ret (hQ _ _ (fin2 Tryz.results250 rfl rfl ?_)))))
   obtain ⟨e1, _, e2⟩ := dec_yes (xs := xs) (n := n) (by rw [hend.1]; omega)
   have e3 := e2 p
   rw [decAt, hend.1, hend.2] at e3
   obtain ⟨qa, qc, qq⟩ := own_slice (H11.mine 3 rfl)
   exact ⟨H11.ext, _, _, (by rw [e1, e3]), (by rw [e3]; exact H11.out 3 rfl)⟩
theorem Tryz_spec_l2Decode {w : World} {n s : Nat} {xs : List (List UInt8)} {xsA : Option Addr} {xsC : Nat} (hn : 1 ≤ n ∧ n ≤ 3 ∧ s ≤ 2) (hl : xs.length = n + s) (h4 : Part xs) (xsS : Sees w [.slice xsA xs.length xsC] xs) : Ret Tryz.prog 192 #[.int .i64 n, .slice xsA xs.length xsC] w fun v w' => Ext No w w' ∧ (∃ A C, v = .tuple #[.slice A (decL n xs).length C, .bool (decOk n xs)] ∧ Res w w' [.slice A (decL n xs).length C] (decL n xs)) := by
 have xsL := sees_len xsS
 unfold maxLen at xsL
 obtain ⟨xsF, xsO⟩ := xsS
 refine ret_Q (vs := [.int .i64 n, .slice xsA xs.length xsC]) Tryz.func192 rfl Tryz.ntmps192 rfl (fun Q hQ hN => ?_)
 have H0 := Sep.start (w := w) (F := [seen false [.slice xsA xs.length xsC] xs xsF]) (all_cons xsO (by simp))
 refine W_sr (sV rfl (py_assign rfl) (sV rfl (py_assign rfl) (s_nil (W_sr (s_lit0 (α := UInt8) (wn rfl) rfl Tryz.underlying61 Tryz_ty5 H0 (fun b1 w1 e1 g1 H1 => ?_))))))
 refine sV rfl (py_assign rfl) (s_nil (W_seq (W_sr (sV rfl (py_assign rfl) (s_nil (W_block (W_loop (γ := Nat × Value × List Nat) (fun (i, vo, f) => [(0, .int .i64 n), (1, .slice xsA xs.length xsC), (6, vo), (7, .int .i64 i)]) (fun (i, vo, f) w' => Sep No w [mine [vo] (decTo n xs i) f] [seen false [.slice xsA xs.length xsC] xs xsF] w' ∧ i ≤ n ∧ (0 < i → decOk n xs = true)) (fun (i, vo, f) => n - i) (0, _, _) ⟨rfl, rfl, rfl, rfl, trivial⟩ ⟨H1, by omega, fun h => absurd h (by omega)⟩ (fun (i, vo, f) w2 H2 => ?_))))))))
 obtain ⟨H2, hi, hok⟩ := H2
 refine W_seq (W_sr (sV rfl (py_move rfl) (sV rfl (py_move rfl) (sV rfl (py_lss rfl rfl) (s_nil (W_ifd rfl (fun c1 => ?_) (fun c1 => ?_)))))))
 ·refine W_skip (W_seq (W_block (W_sr (sV rfl (py_move rfl) (sV rfl (py_move rfl) (sV rfl (py_move rfl) (s_call (wn rfl) rfl rfl (pc_call Tryz.func250 rfl Tryz_nm250 rfl) (Tryz_spec_l2Block (s := s) (by omega) (by omega) h4 (by omega) (H2.sees 0 rfl)) (fun v1 w3 r1 => ?_))))))))
  obtain ⟨e2, sa1, sk1, rfl, r1⟩ := r1
  obtain ⟨fp1, H3⟩ := H2.res e2 r1
  refine sV rfl (py_move rfl) (sV rfl (py_extr rfl rfl) (sV rfl (py_extr rfl rfl) (sV rfl (py_assign rfl) (sV rfl (py_assign rfl) (s_nil (W_seq (W_sr (sV rfl (py_move rfl) (sV rfl (py_not rfl) (s_nil (W_if rfl (fun c2 => ?_) (fun c2 => ?_))))))))))))
  ·refine W_sr (sV rfl (py_assign rfl) (sV rfl (py_assign rfl) (s_nil (W_ret (hQ _ _ (fin2 Tryz.results192 rfl rfl ?_))))))
   obtain ⟨e1, e2, _⟩ := dec_no (xs := xs) (n := n) (dec_lt (not_true c2))
   exact ⟨H3.ext, none, 0, (by rw [e1, e2]; rfl), (by rw [e2]; exact ⟨[], .inr (.inl ⟨rfl, rfl, rfl⟩), .nil, by simp⟩)⟩
  ·refine W_skip ?_
   have hok2 := not_false c2
   have dl := decTo_len (n := n) h4 i
   have bl : (blkL n xs i).length = 4 := by rw [blk_at hok2]; exact decAt_len h4
   refine W_reg (sV rfl (py_move rfl) (sV rfl (py_move rfl) (s_appF (wn rfl) rfl Tryz.underlying61 Tryz_ty5 rfl rfl rfl H3 0 rfl (H3.mine 1 rfl) (by (try simp only [List.length_nil]); unfold maxLen; omega) (by (try simp only [List.length_nil]); omega) (fun v2 w4 fp2 H4 => ?_))))
   refine sV rfl (py_assign rfl) (s_nil (W_reg (sV rfl (py_move rfl) (sV rfl (py_add rfl rfl (in64 ⟨by omega, by omega⟩)) (sV rfl (py_assign rfl) (s_nil ?_))))))
   have hz := (H4.dtake 1)
   rw [blk_at hok2, decAt, decTo_step] at hz
   refine ⟨(i + 1, _, _), ⟨rfl, rfl, rfl, rfl, trivial⟩, ⟨hz, by omega, fun _ => hok2⟩, by dsimp only; omega⟩
 ·refine W_exit (W_sr (sV rfl (py_move rfl) (sV rfl (py_assign rfl) (sV rfl (py_assign rfl) (s_nil (W_ret (hQ _ _ (fin2 Tryz.results192 rfl rfl ?_))))))))
  obtain rfl : n = i := by omega
  have e1 := hok (by omega)
  have e2 := dec_at e1
  obtain ⟨qa, qc, qq⟩ := own_slice (H2.mine 0 rfl)
  cases qq
  exact ⟨H2.ext, qa, qc, (by rw [e1, e2]), (by rw [e2]; exact H2.out 0 rfl)⟩
end Go.Wk
namespace Go.Wk
open Rp (sz own)
theorem Sep.nilF {M : Nat → Prop} {w0 w : World} {Δ F : List Rsc} {β : Type} [Rp β] (h : Sep M w0 Δ F w) : Sep M w0 Δ (F ++ [Wk.seen false [.slice none 0 0] ([] : List β) []]) w :=
  h.look (r := Wk.seen false [.slice none 0 0] ([] : List β) []) (.inr (.inl ⟨rfl, rfl, rfl⟩)) (by simp [Wk.seen])
end Go.Wk

namespace Go.Wk
open Rp (sz own)
section
variable {M : Nat → Prop} {w0 w w' : World} {Δ F : List Rsc}
theorem Sep.lookS {α β : Type} [Rp α] [Rp β] (h : Sep M w0 Δ F w) (e : Ext No w w') (j : Nat) {s cs fp0} {y : β} (hj : F[j]? = some (Wk.seen s cs y fp0)) {v : List Value} {x : α} {fp} (o : own false w' v x fp) (hfp : ∀ b ∈ fp, b ∈ fp0 ∨ w.heap.size ≤ b) :
    Sep M w0 Δ (F ++ [Wk.seen false v x fp]) w' :=
  (h.to e).look (r := Wk.seen false v x fp) o fun b hb hm => (hfp b hb).elim (fun hb => h.ap _ (List.mem_of_getElem? hj) b hb hm) fun hb => by have := h.lt b hm; omega
end
section
variable {P : Program} {n : Nat} {c : Code} {Q : Post} {L : Env} {w w0 : World} {M : Nat → Prop} {Δ F : List Rsc}
theorem W_loopV {β : Type} [Rp β] {γ : Type} {v0 : Value} {fp0 : List Nat} (f : γ → List (List β)) (g0 : γ) (H : Sep M w0 Δ F w) (i : Nat) (hi : Δ[i]? = some (mine [v0] ([] : List View) fp0)) (j : Nat) (hj : F[j]? = some (rows ([] : List View) ([] : List (List β)) [])) (hf : f g0 = []) (t : Nat) (ht : look L t = some v0)
  (G : List Nat → Prop) (hG : G []) (E2 : Env) (h2 : sub L E2) (E : γ → Env) (I : γ → Prop) (μ : γ → Nat) (hs : sub L (E g0)) (h0 : I g0)
  (round : ∀ g v fp vs gg w, Sep M w0 (Δ.set i (mine [v] vs fp)) (F.set j (rows vs (f g) gg)) w → vs.length = (f g).length → G gg → I g →
   W P n c (again (fun x : γ × Value × List Nat × List View × List Nat => (t, x.2.1) :: (E x.1 ++ E2)) (fun x w' => Sep M w0 (Δ.set i (mine [x.2.1] x.2.2.2.1 x.2.2.1)) (F.set j (rows x.2.2.2.1 (f x.1) x.2.2.2.2)) w' ∧ x.2.2.2.1.length = (f x.1).length ∧ G x.2.2.2.2 ∧ I x.1) (fun x => μ x.1) (g, v, fp, vs, gg) Q) ((t, v) :: (E g ++ E2)) w) : W P n (.loop c) Q L w :=
 W_loop (fun x : γ × Value × List Nat × List View × List Nat => (t, x.2.1) :: (E x.1 ++ E2)) (fun x w' => Sep M w0 (Δ.set i (mine [x.2.1] x.2.2.2.1 x.2.2.1)) (F.set j (rows x.2.2.2.1 (f x.1) x.2.2.2.2)) w' ∧ x.2.2.2.1.length = (f x.1).length ∧ G x.2.2.2.2 ∧ I x.1) (fun x => μ x.1) (g0, v0, fp0, [], [])
  ⟨ht, sub_append hs h2⟩ ⟨by rw [set_getD hi, hf, set_getD hj]; exact H, by simp [hf], hG, h0⟩ fun x w h => round x.1 x.2.1 x.2.2.1 x.2.2.2.1 x.2.2.2.2 w h.1 h.2.1 h.2.2.1 h.2.2.2
end
def blkAt (G : List Drive) (row i : Nat) : List UInt8 := if (G.getD i default).Wiped = true then [] else ((G.getD i default).Blocks.getD row default).Bytes
def blkTo (G : List Drive) (row k : Nat) : List (List UInt8) := (List.range k).map (blkAt G row)
def blkOf (z : Wld) (g row : Int) : List (List UInt8) := blkTo (z.Groups.getD g.toNat []) row.toNat (z.Groups.getD g.toNat []).length
section
variable {G : List Drive} {row k : Nat}
theorem blk_len : (blkTo G row k).length = k := by simp [blkTo]
theorem blk_wiped (h : (G.getD k default).Wiped = true) : blkTo G row (k + 1) = blkTo G row k ++ [[]] := by simp only [blkTo, List.range_succ, List.map_append, List.map_cons, List.map_nil]; rw [blkAt, if_pos h]
theorem blk_live (h : (G.getD k default).Wiped = false) : blkTo G row (k + 1) = blkTo G row k ++ [((G.getD k default).Blocks.getD row default).Bytes] := by
  simp only [blkTo, List.range_succ, List.map_append, List.map_cons, List.map_nil]; rw [blkAt, if_neg (by rw [h]; simp)]
theorem blk_get {i : Nat} (h : i < k) : (blkTo G row k).getD i [] = blkAt G row i := by simp [blkTo, List.getD, h]
def cntTo (xs : List (List UInt8)) : Nat → Nat
  | 0 => 0
  | k + 1 => if 0 < (xs.getD k []).length then cntTo xs k + 1 else cntTo xs k
theorem have_cnt {xs : List (List UInt8)} {n : Nat} : ∀ k, (haveTo xs n k).length = min n (cntTo xs k)
  | 0 => by simp [haveTo, cntTo]
  | k + 1 => by
    have ih := have_cnt (xs := xs) (n := n) k
    rw [cntTo]
    by_cases h : 0 < (xs.getD k []).length
    · rw [if_pos h]
      by_cases h2 : (haveTo xs n k).length < n
      · rw [(have_yes ⟨h, h2⟩).1, List.length_append]; simp; omega
      · rw [(have_no (by omega)).1]; omega
    · rw [if_neg h, (have_no (by omega)).1]; exact ih
theorem cnt_wiped {m : Nat} (h : ∀ i, i < m → (G.getD i default).Wiped = false → 0 < ((G.getD i default).Blocks.getD row default).Bytes.length) : ∀ k, k ≤ m → cntTo (blkTo G row m) k + (wipedTo G k).length = k
  | 0, _ => rfl
  | k + 1, hk => by
    have ih := cnt_wiped h k (by omega)
    rw [cntTo, blk_get (by omega)]
    by_cases hw : (G.getD k default).Wiped = true
    · rw [wiped_yes hw, blkAt, if_pos hw, if_neg (by simp), List.length_append]; simp; omega
    · have hw' : (G.getD k default).Wiped = false := by simpa using hw
      rw [wiped_no hw', blkAt, if_neg hw, if_pos (h k (by omega) hw')]; omega
end
section
variable {z : Wld} {g row : Int}
theorem blk_part (hs : z.Shape.ok = true) (hG : groupsOK z = true) (hg : ins g 0 (z.Shape.Groups + z.Shape.Column - 1) = true) (hr : ins row 0 (z.Shape.Rows - 1) = true) :
    (blkOf z g row).length = z.Shape.Data.toNat + z.Shape.Spare.toNat ∧ Part (blkOf z g row) ∧ decOk z.Shape.Data.toNat (blkOf z g row) = !deadF z g := by
  have hsd := shape_bd hs
  have hgg := groups_get hG
  have hgi := ins_iff.1 hg
  have hri := ins_iff.1 hr
  obtain ⟨hl, hd⟩ := hgg.2 g.toNat (by omega)
  have hb : ∀ i, i < (z.Groups.getD g.toNat []).length → (((z.Groups.getD g.toNat []).getD i default).Blocks.getD row.toNat default).Bytes.length = 4 := fun i hi => by
    obtain ⟨h1, h2⟩ := hd i hi
    exact (blockOK_get (h2 row.toNat (by omega))).2.2
  have hlen : (blkOf z g row).length = (z.Groups.getD g.toNat []).length := blk_len
  refine ⟨by omega, fun i hi => ?_, ?_⟩
  · rw [hlen] at hi
    unfold blkOf
    rw [blk_get hi, blkAt]
    split
    · exact .inr rfl
    · exact .inl (hb i hi)
  · have hc := cnt_wiped (G := z.Groups.getD g.toNat []) (row := row.toNat) (m := (z.Groups.getD g.toNat []).length) (fun i hi _ => by rw [hb i hi]; omega) (z.Groups.getD g.toNat []).length (Nat.le_refl _)
    have hh := have_cnt (xs := blkOf z g row) (n := z.Shape.Data.toNat) (blkOf z g row).length
    rw [hlen] at hh
    unfold decOk deadF wipedL
    rw [hlen, hh]
    change cntTo (blkOf z g row) _ + _ = _ at hc
    rw [← decide_not]
    exact decide_eq_decide.2 (by omega)
def rowB (z : Wld) (g row : Int) : List UInt8 := decL z.Shape.Data.toNat (blkOf z g row)
end
end Go.Wk
namespace Go.Wk
open Go.Proofs Rp
set_option maxRecDepth 10000
theorem Tryz_impl_Shape_row {w : World} {s : Shape} (hs : s.ok = true) : Ret Tryz.prog 160 #[s.v] w fun v w' => Ext No w w' ∧ (v = .agg #[.int .i64 (s.Data.toNat : Nat), .int .i64 (s.Spare.toNat : Nat)]) := by
 have sbd := shape_bd hs
 refine ret_Q (vs := [s.v]) Tryz.func160 rfl Tryz.ntmps160 rfl (fun Q hQ hN => ?_)
 have H0 := Sep.start (w := w) (F := []) (by simp)
 refine W_sr (s_box (wn rfl) rfl rfl H0 (fun b1 w1 e1 g1 H1 => ?_))
 refine s_var (wn rfl) rfl Tryz.zeroValue166 H1 (fun b2 w2 e2 g2 H2 => ?_)
 refine s_nil (W_sr (sV rfl (py_field Tryz.underlying33 rfl Tryz.sizeOf2 rfl rfl) (sV rfl (py_load Tryz.underlying2 rfl rfl (cell_atL (H2.box 0 rfl) rfl)) (sV rfl (py_field Tryz.underlying33 rfl Tryz.sizeOf2 rfl rfl) (sV rfl (py_load Tryz.underlying2 rfl rfl (cell_atL (H2.box 0 rfl) rfl)) (sV rfl (py_buildS Tryz_pl166 rfl rfl) (s_stoS (wn rfl) Tryz.sizeOf166 rfl rfl rfl rfl H2 1 rfl rfl (fun w3 e3 H3 => ?_))))))))
 dsimp only [List.nil_append, List.cons_append, List.set_cons_zero, List.set_cons_succ, layL] at H3
 refine s_nil (W_ret (hQ _ _ (finC Tryz.results160 rfl (run_loadVarS Tryz.underlying166 rfl Tryz.sizeOf166 rfl (At.whole (H3.box 1 rfl))) (⟨H3.ext, ?_⟩))))
 rw [Int.toNat_of_nonneg (by omega), Int.toNat_of_nonneg (by omega)]
 rfl
theorem Tryz_impl_World_blocks {w : World} {zb : Nat} {z : Wld} {zA9 : Option Addr} {zC9 : Nat} {zA10 : Option Addr} {zC10 : Nat} {zA11 : Option Addr} {zC11 : Nat} {zF9 : List Nat} {zF10 : List Nat} {zF11 : List Nat} {g : Int} {row : Int} (zB : w.heap[zb]? = some (.cells [.int .i64 z.Shape.Groups, .int .i64 z.Shape.Column, .int .i64 z.Shape.Data, .int .i64 z.Shape.Spare, .int .i64 z.Shape.Rows, .int .i64 z.Shape.Cap, .int .i64 z.Shape.Batch, .int .i64 z.Shape.Queue, .int .i64 z.Shape.Stage, .slice zA9 z.Groups.length zC9, .slice zA10 z.On.length zC10, .slice zA11 z.Tapes.length zC11, .int .i64 z.Writes, .int .i64 z.Stop, .bool z.Down].toArray 37)) (zK : z.Ok) (zO9 : own false w [.slice zA9 z.Groups.length zC9] z.Groups zF9) (zO10 : own false w [.slice zA10 z.On.length zC10] z.On zF10) (zO11 : own false w [.slice zA11 z.Tapes.length zC11] z.Tapes zF11) (hs : z.Shape.ok = true) (hG : groupsOK z = true) (hg : ins g 0 (z.Shape.Groups + z.Shape.Column - 1) = true) (hr : ins row 0 (z.Shape.Rows - 1) = true) : Ret Tryz.prog 162 #[.pointer (some ⟨zb, 0, none⟩), .int .i64 g, .int .i64 row] w fun v w' => Ext No w w' ∧ (∃ fp, own false w' [v] (blkOf z g row) fp ∧ ∀ b ∈ fp, b ∈ zF9 ∨ w.heap.size ≤ b) := by
 have zK2 := zK
 unfold Wld.Ok Shape.Ok at zK2
 try unfold I64ok at zK2
 try unfold maxLen at zK2
 have zL9 := own_len_le zO9
 unfold maxLen at zL9
 have zL10 := own_len_le zO10
 unfold maxLen at zL10
 have zL11 := own_len_le zO11
 unfold maxLen at zL11
 have sbd := shape_bd hs
 have hgg := groups_get hG
 have hgl := hgg.1
 have hgi := ins_iff.1 hg
 obtain ⟨hdl, hdd⟩ := hgg.2 g.toNat (by omega)
 have hri := ins_iff.1 hr
 refine ret_Q (vs := [.pointer (some ⟨zb, 0, none⟩), .int .i64 g, .int .i64 row]) Tryz.func162 rfl Tryz.ntmps162 rfl (fun Q hQ hN => ?_)
 have H0 := Sep.start (w := w) (F := [box zb (.cells [.int .i64 z.Shape.Groups, .int .i64 z.Shape.Column, .int .i64 z.Shape.Data, .int .i64 z.Shape.Spare, .int .i64 z.Shape.Rows, .int .i64 z.Shape.Cap, .int .i64 z.Shape.Batch, .int .i64 z.Shape.Queue, .int .i64 z.Shape.Stage, .slice zA9 z.Groups.length zC9, .slice zA10 z.On.length zC10, .slice zA11 z.Tapes.length zC11, .int .i64 z.Writes, .int .i64 z.Stop, .bool z.Down].toArray 37), seen false [.slice zA9 z.Groups.length zC9] z.Groups zF9, seen false [.slice zA10 z.On.length zC10] z.On zF10, seen false [.slice zA11 z.Tapes.length zC11] z.Tapes zF11]) (all_cons (by exact zB) (all_cons zO9 (all_cons zO10 (all_cons zO11 (by simp)))))
 refine W_sr (sV rfl (py_assign rfl) (s_nil (W_sr (s_lit0 (α := View) (wn rfl) rfl Tryz.underlying163 Tryz_ty61 H0 (fun b1 w1 e1 g1 H1 => ?_)))))
 refine sV rfl (py_assign rfl) (s_nil (W_seq (W_seq ?_)))
 obtain ⟨eb1, eo1, ea1, ek1, ef1, ee1, ec1, eO1, eH1⟩ := elem_sl (H1.seen 1 rfl) g.toNat (by omega)
 have eP1 := H1.look1 1 rfl eO1 eH1
 refine W_reg (sV rfl (py_move rfl) (sV rfl (py_nil rfl) (sV rfl (py_field Tryz.underlying37 rfl Tryz.sizeOf34 rfl rfl) (sV rfl (py_load Tryz.underlying34 rfl rfl (cell_atL (eP1.fbox 0 rfl) rfl)) (sV rfl (py_move rfl) (sV rfl (py_elz Tryz.underlying34 Tryz.sizeOf147 rfl rfl ee1 g.toNat (by omega) (by omega)) (sV rfl (py_load Tryz.underlying147 rfl rfl ec1) (sV rfl (py_len Tryz.underlying147 rfl) (sV rfl (py_move rfl) (s_nil (W_block ?_)))))))))))
 have H3 := eP1.noRows (β := UInt8)
 try dsimp only [List.nil_append, List.cons_append, List.set_cons_zero, List.set_cons_succ] at H3
 refine W_loopV (β := UInt8) (γ := Nat) (fun k => blkTo (z.Groups.getD g.toNat []) row.toNat k) 0 H3 0 rfl 5 rfl rfl 7 rfl (fun gg => ∀ b ∈ gg, b ∈ zF9) (by simp) [(2, _), (6, _), (17, _), (18, _)] ⟨rfl, rfl, rfl, rfl, trivial⟩ (fun k => [(19, .int .i64 k)]) (fun k => k ≤ (z.Groups.getD g.toNat []).length ∧ True) (fun k => (z.Groups.getD g.toNat []).length - k) ⟨rfl, trivial⟩ ⟨by omega, trivial⟩ (fun k vA1 fA1 vs1 gA1 w2 H2 vl vg ⟨hk, _⟩ => ?_)
 dsimp only [List.cons_append, List.nil_append, List.set_cons_zero, List.set_cons_succ] at H2 ⊢
 refine W_sr (sV rfl (py_lss rfl rfl) (s_nil (W_seq (W_ifd rfl (fun c1 => ?_) (fun c1 => ?_)))))
 ·refine W_skip (W_seq (W_block (W_seq ?_)))
  obtain ⟨eb2, eo2, es1, ef2, ee2, ec2, eO2, eH2, em1⟩ := elem_st (H2.seen 4 rfl) k (by omega)
  obtain ⟨ea2, ek2, eg1, rfl, eq1, eK1, eo3⟩ := own_Drive eO2
  have eP2 := H2.look1 4 rfl eo3 (fun b hb => eH2 b (by rw [eq1]; simp [hb]))
  have eL1 := own_len_le eo3
  unfold maxLen at eL1
  refine W_reg (sV rfl (py_elz Tryz.underlying147 Tryz.sizeOf150 rfl rfl ee2 k (by omega) (by omega)) (sV rfl (py_loadS Tryz.underlying150 rfl Tryz.sizeOf150 rfl rfl ec2) (s_var (wn rfl) rfl Tryz.zeroValue150 eP2 (fun b2 w3 e2 g2 H4 => ?_))))
  refine s_stoS (wn rfl) Tryz.sizeOf150 rfl rfl rfl rfl H4 1 rfl rfl (fun w4 e3 H5 => ?_)
  dsimp only [List.nil_append, List.cons_append, List.set_cons_zero, List.set_cons_succ, layL] at H5
  refine s_nil (W_sr (sV rfl (py_field Tryz.underlying150 rfl Tryz.sizeOf4 rfl rfl) (sV rfl (py_load Tryz.underlying4 rfl rfl (cell_atL (H5.box 1 rfl) rfl)) (s_nil (W_if rfl (fun c2 => ?_) (fun c2 => ?_))))))
  ·have bl := blk_len (G := (z.Groups.getD g.toNat [])) (row := row.toNat) (k := k)
   refine W_reg (sV rfl (py_move rfl) (s_lit1 (wn rfl) rfl Tryz.underlying163 Tryz_ty61 rfl rfl rfl rfl H5 (fun b3 w5 e4 g3 H6 => ?_)))
   have H8 := H6.nilF (β := UInt8)
   try dsimp only [List.nil_append, List.cons_append, List.set_cons_zero, List.set_cons_succ] at H8
   refine s_app1 (α := View) (u := ⟨_, _, _⟩) (wn rfl) rfl Tryz.underlying163 Tryz_ty61 rfl rfl rfl H8 0 2 rfl rfl ⟨rfl, rfl⟩ (by unfold maxLen; omega) (by omega) (fun v1 w6 fp1 H7 => ?_)
   try dsimp only [List.nil_append, List.cons_append, List.set_cons_zero, List.set_cons_succ] at H7
   obtain ⟨rg1, H9, rh1⟩ := H7.rowApp (y := ([] : List UInt8)) 5 7 rfl rfl (by first | assumption | omega)
   try dsimp only [List.nil_append, List.cons_append, List.set_cons_zero, List.set_cons_succ] at H9
   refine sV rfl (py_assign rfl) (s_nil (W_reg (sV rfl (py_add rfl rfl (in64 ⟨by omega, by omega⟩)) (sV rfl (py_move rfl) (s_nil ?_)))))
   have bq := blk_wiped (row := row.toNat) c2
   rw [← bq] at H9
   exact ⟨(k + 1, _, _, _, _), ⟨rfl, rfl, rfl, rfl, rfl, rfl, trivial⟩, ⟨((H9.ftake 6).dtake 1), by rw [bq, List.length_append, List.length_append, vl]; rfl, (fun b hb => (rh1 b hb).elim (vg b) (fun h => absurd h (by simp))), by omega, trivial⟩, by dsimp only; omega⟩
  ·have bl := blk_len (G := (z.Groups.getD g.toNat [])) (row := row.toNat) (k := k)
   have hbl := hdd k (by omega)
   obtain ⟨eb3, eo4, es2, ef3, ee3, ec3, eO3, eH3, em2⟩ := elem_st (H5.seen 6 rfl) row.toNat (by omega)
   obtain ⟨ea3, ek3, eg2, rfl, eq2, eK2, eo5⟩ := own_Block eO3
   have eK2U := eK2
   unfold Block.Ok at eK2U
   try unfold I64ok at eK2U
   try unfold maxLen at eK2U
   have eP3 := H5.look1 6 rfl eo5 (fun b hb => eH3 b (by rw [eq2]; simp [hb]))
   have eL2 := own_len_le eo5
   unfold maxLen at eL2
   refine W_reg (sV rfl (py_move rfl) (sV rfl (py_field Tryz.underlying150 rfl Tryz.sizeOf148 rfl rfl) (sV rfl (py_load Tryz.underlying148 rfl rfl (cell_atL (eP3.box 1 rfl) rfl)) (sV rfl (py_move rfl) (sV rfl (py_elz Tryz.underlying148 Tryz.sizeOf152 rfl rfl ee3 row.toNat (by omega) (by omega)) (sV rfl (py_field Tryz.underlying152 rfl Tryz.sizeOf61 rfl rfl) (sV rfl (py_load Tryz.underlying61 rfl rfl (at_cell ec3 1 rfl)) (s_lit1 (wn rfl) rfl Tryz.underlying163 Tryz_ty61 rfl rfl rfl rfl eP3 (fun b4 w7 e5 g4 H10 => ?_)))))))))
   refine s_app1 (α := View) (u := ⟨_, _, _⟩) (wn rfl) rfl Tryz.underlying163 Tryz_ty61 rfl rfl rfl H10 0 2 rfl rfl ⟨rfl, rfl⟩ (by unfold maxLen; omega) (by omega) (fun v2 w8 fp2 H11 => ?_)
   try dsimp only [List.nil_append, List.cons_append, List.set_cons_zero, List.set_cons_succ] at H11
   obtain ⟨rg2, H12, rh2⟩ := H11.rowApp 5 7 rfl rfl (by first | assumption | omega)
   try dsimp only [List.nil_append, List.cons_append, List.set_cons_zero, List.set_cons_succ] at H12
   refine sV rfl (py_assign rfl) (s_nil (W_reg (sV rfl (py_add rfl rfl (in64 ⟨by omega, by omega⟩)) (sV rfl (py_move rfl) (s_nil ?_)))))
   have bq := blk_live (row := row.toNat) c2
   rw [← bq] at H12
   exact ⟨(k + 1, _, _, _, _), ⟨rfl, rfl, rfl, rfl, rfl, rfl, trivial⟩, ⟨((H12.ftake 6).dtake 1), by rw [bq, List.length_append, List.length_append, vl]; rfl, (fun b hb => (rh2 b hb).elim (vg b) (fun h => eH1 _ (eH2 _ (by rw [eq1]; exact eH3 _ (by rw [eq2]; exact h))))), by omega, trivial⟩, by dsimp only; omega⟩
 ·refine W_exit (W_sr (sV rfl (py_move rfl) (sV rfl (py_assign rfl) (s_nil (W_ret (hQ _ _ (fin1 Tryz.results162 rfl ?_)))))))
  obtain rfl : k = (z.Groups.getD g.toNat []).length := by omega
  obtain ⟨fpV, HV, hfV⟩ := H2.viewsIn 0 5 rfl rfl vl
  exact ⟨H2.ext, fpV, (HV.seen 6 rfl), fun b hb => (hfV b hb).elim (fun h => .inr (H2.freshD 0 rfl b h)) (fun h => .inl (vg b h))⟩
theorem Tryz_impl_World_rowBytes {w : World} {zb : Nat} {z : Wld} {zA9 : Option Addr} {zC9 : Nat} {zA10 : Option Addr} {zC10 : Nat} {zA11 : Option Addr} {zC11 : Nat} {zF9 : List Nat} {zF10 : List Nat} {zF11 : List Nat} {g : Int} {row : Int} (zB : w.heap[zb]? = some (.cells [.int .i64 z.Shape.Groups, .int .i64 z.Shape.Column, .int .i64 z.Shape.Data, .int .i64 z.Shape.Spare, .int .i64 z.Shape.Rows, .int .i64 z.Shape.Cap, .int .i64 z.Shape.Batch, .int .i64 z.Shape.Queue, .int .i64 z.Shape.Stage, .slice zA9 z.Groups.length zC9, .slice zA10 z.On.length zC10, .slice zA11 z.Tapes.length zC11, .int .i64 z.Writes, .int .i64 z.Stop, .bool z.Down].toArray 37)) (zK : z.Ok) (zO9 : own false w [.slice zA9 z.Groups.length zC9] z.Groups zF9) (zO10 : own false w [.slice zA10 z.On.length zC10] z.On zF10) (zO11 : own false w [.slice zA11 z.Tapes.length zC11] z.Tapes zF11) (hs : z.Shape.ok = true) (hG : groupsOK z = true) (hg : ins g 0 (z.Shape.Groups + z.Shape.Column - 1) = true) (hr : ins row 0 (z.Shape.Rows - 1) = true) : Ret Tryz.prog 117 #[.pointer (some ⟨zb, 0, none⟩), .int .i64 g, .int .i64 row] w fun v w' => Ext No w w' ∧ (Res w w' [v] (rowB z g row)) := by
 have zK2 := zK
 unfold Wld.Ok Shape.Ok at zK2
 try unfold I64ok at zK2
 try unfold maxLen at zK2
 have zL9 := own_len_le zO9
 unfold maxLen at zL9
 have zL10 := own_len_le zO10
 unfold maxLen at zL10
 have zL11 := own_len_le zO11
 unfold maxLen at zL11
 have sbd := shape_bd hs
 have hgg := groups_get hG
 have hgl := hgg.1
 have hgi := ins_iff.1 hg
 obtain ⟨hdl, hdd⟩ := hgg.2 g.toNat (by omega)
 have hri := ins_iff.1 hr
 obtain ⟨pl, pp, pd⟩ := blk_part (row := row) hs hG hg hr
 refine ret_Q (vs := [.pointer (some ⟨zb, 0, none⟩), .int .i64 g, .int .i64 row]) Tryz.func117 rfl Tryz.ntmps117 rfl (fun Q hQ hN => ?_)
 have H0 := Sep.start (w := w) (F := [box zb (.cells [.int .i64 z.Shape.Groups, .int .i64 z.Shape.Column, .int .i64 z.Shape.Data, .int .i64 z.Shape.Spare, .int .i64 z.Shape.Rows, .int .i64 z.Shape.Cap, .int .i64 z.Shape.Batch, .int .i64 z.Shape.Queue, .int .i64 z.Shape.Stage, .slice zA9 z.Groups.length zC9, .slice zA10 z.On.length zC10, .slice zA11 z.Tapes.length zC11, .int .i64 z.Writes, .int .i64 z.Stop, .bool z.Down].toArray 37), seen false [.slice zA9 z.Groups.length zC9] z.Groups zF9, seen false [.slice zA10 z.On.length zC10] z.On zF10, seen false [.slice zA11 z.Tapes.length zC11] z.Tapes zF11]) (all_cons (by exact zB) (all_cons zO9 (all_cons zO10 (all_cons zO11 (by simp)))))
 refine W_sr (sV rfl (py_assign rfl) (s_nil (W_sr (sV rfl (py_move rfl) (sV rfl (py_nil rfl) (sV rfl (py_field Tryz.underlying37 rfl Tryz.sizeOf33 rfl rfl) (sV rfl (py_loadS Tryz.underlying33 rfl Tryz.sizeOf33 rfl rfl (At.sub (H0.fbox 0 rfl) 9)) (s_call (wn rfl) rfl rfl (pc_call Tryz.func160 rfl Tryz_nm160 rfl) (Tryz_impl_Shape_row (by assumption)) (fun v1 w1 r1 => ?_)))))))))
 obtain ⟨e1, rfl⟩ := r1
 have H1 := H0.to e1
 refine sV rfl (py_move rfl) (sV rfl (py_move rfl) (sV rfl (py_move rfl) (s_call (wn rfl) rfl rfl (pc_call Tryz.func162 rfl Tryz_nm162 rfl) (Tryz_impl_World_blocks (H1.fbox 0 rfl) (by assumption) (own_weak (H1.seen 1 rfl)) (own_weak (H1.seen 2 rfl)) (own_weak (H1.seen 3 rfl)) (by assumption) (by assumption) (by assumption) (by assumption)) (fun v2 w2 r2 => ?_))))
 obtain ⟨e2, fpS1, oS1, hS1⟩ := r2
 have H2 := H1.lookS e2 1 rfl oS1 hS1
 obtain ⟨a1, k1, q1⟩ := own_slice (H2.seen 4 rfl)
 cases q1
 refine s_call (wn rfl) rfl rfl (pc_call Tryz.func193 rfl Tryz_nm193 rfl) (Tryz_impl_rowCode_decode (n := z.Shape.Data.toNat) (s := z.Shape.Spare.toNat) (by omega) pl pp (H2.sees 4 rfl)) (fun v3 w3 r3 => ?_)
 obtain ⟨e3, sa1, sk1, rfl, r3⟩ := r3
 obtain ⟨fp1, H3⟩ := H2.res e3 r3
 refine sV rfl (py_move rfl) (sV rfl (py_extr rfl rfl) (sV rfl (py_extr rfl rfl) (sV rfl (py_assign rfl) (sV rfl (py_assign rfl) (s_nil (W_sr (sV rfl (py_move rfl) (sV rfl (py_assign rfl) (s_nil (W_ret (hQ _ _ (fin1 Tryz.results117 rfl ?_))))))))))))
 exact ⟨H3.ext, H3.out 0 rfl⟩
theorem Tryz_spec_l7Bytes {w : World} {zb : Nat} {z : Wld} {zA9 : Option Addr} {zC9 : Nat} {zA10 : Option Addr} {zC10 : Nat} {zA11 : Option Addr} {zC11 : Nat} {g : Int} {row : Int} (zB : w.heap[zb]? = some (.cells [.int .i64 z.Shape.Groups, .int .i64 z.Shape.Column, .int .i64 z.Shape.Data, .int .i64 z.Shape.Spare, .int .i64 z.Shape.Rows, .int .i64 z.Shape.Cap, .int .i64 z.Shape.Batch, .int .i64 z.Shape.Queue, .int .i64 z.Shape.Stage, .slice zA9 z.Groups.length zC9, .slice zA10 z.On.length zC10, .slice zA11 z.Tapes.length zC11, .int .i64 z.Writes, .int .i64 z.Stop, .bool z.Down].toArray 37)) (zK : z.Ok) (zS9 : Sees w [.slice zA9 z.Groups.length zC9] z.Groups) (zS10 : Sees w [.slice zA10 z.On.length zC10] z.On) (zS11 : Sees w [.slice zA11 z.Tapes.length zC11] z.Tapes) (hs : z.Shape.ok = true) (hG : groupsOK z = true) (hg : ins g 0 (z.Shape.Groups + z.Shape.Column - 1) = true) (hr : ins row 0 (z.Shape.Rows - 1) = true) : Ret Tryz.prog 116 #[.pointer (some ⟨zb, 0, none⟩), .int .i64 g, .int .i64 row] w fun v w' => Ext No w w' ∧ (∃ A C, v = .tuple #[.slice A (rowB z g row).length C, .bool (!deadF z g)] ∧ Res w w' [.slice A (rowB z g row).length C] (rowB z g row)) := by
 have zK2 := zK
 unfold Wld.Ok Shape.Ok at zK2
 try unfold I64ok at zK2
 try unfold maxLen at zK2
 have zL9 := sees_len zS9
 unfold maxLen at zL9
 obtain ⟨zF9, zO9⟩ := zS9
 have zL10 := sees_len zS10
 unfold maxLen at zL10
 obtain ⟨zF10, zO10⟩ := zS10
 have zL11 := sees_len zS11
 unfold maxLen at zL11
 obtain ⟨zF11, zO11⟩ := zS11
 have sbd := shape_bd hs
 have hgg := groups_get hG
 have hgl := hgg.1
 have hgi := ins_iff.1 hg
 obtain ⟨hdl, hdd⟩ := hgg.2 g.toNat (by omega)
 have hri := ins_iff.1 hr
 obtain ⟨pl, pp, pd⟩ := blk_part (row := row) hs hG hg hr
 refine ret_Q (vs := [.pointer (some ⟨zb, 0, none⟩), .int .i64 g, .int .i64 row]) Tryz.func116 rfl Tryz.ntmps116 rfl (fun Q hQ hN => ?_)
 have H0 := Sep.start (w := w) (F := [box zb (.cells [.int .i64 z.Shape.Groups, .int .i64 z.Shape.Column, .int .i64 z.Shape.Data, .int .i64 z.Shape.Spare, .int .i64 z.Shape.Rows, .int .i64 z.Shape.Cap, .int .i64 z.Shape.Batch, .int .i64 z.Shape.Queue, .int .i64 z.Shape.Stage, .slice zA9 z.Groups.length zC9, .slice zA10 z.On.length zC10, .slice zA11 z.Tapes.length zC11, .int .i64 z.Writes, .int .i64 z.Stop, .bool z.Down].toArray 37), seen false [.slice zA9 z.Groups.length zC9] z.Groups zF9, seen false [.slice zA10 z.On.length zC10] z.On zF10, seen false [.slice zA11 z.Tapes.length zC11] z.Tapes zF11]) (all_cons (by exact zB) (all_cons zO9 (all_cons zO10 (all_cons zO11 (by simp)))))
 refine W_sr (sV rfl (py_assign rfl) (sV rfl (py_assign rfl) (s_nil (W_sr (s_lit0 (α := View) (wn rfl) rfl Tryz.underlying163 Tryz_ty61 H0 (fun b1 w1 e1 g1 H1 => ?_))))))
 refine sV rfl (py_assign rfl) (s_nil (W_seq (W_sr (sV rfl (py_assign rfl) (s_nil (W_block ?_))))))
 have H3 := H1.noRows (β := UInt8)
 try dsimp only [List.nil_append, List.cons_append, List.set_cons_zero, List.set_cons_succ] at H3
 refine W_loopV (β := UInt8) (γ := Nat) (fun k => blkTo (z.Groups.getD g.toNat []) row.toNat k) 0 H3 0 rfl 4 rfl rfl 8 rfl (fun _ => True) trivial [(0, _), (1, _), (2, _), (6, _), (7, _)] ⟨rfl, rfl, rfl, rfl, rfl, trivial⟩ (fun k => [(9, .int .i64 k)]) (fun k => k ≤ (z.Groups.getD g.toNat []).length ∧ True) (fun k => (z.Groups.getD g.toNat []).length - k) ⟨rfl, trivial⟩ ⟨by omega, trivial⟩ (fun k vA1 fA1 vs1 gA1 w2 H2 vl vg ⟨hk, _⟩ => ?_)
 dsimp only [List.cons_append, List.nil_append, List.set_cons_zero, List.set_cons_succ] at H2 ⊢
 refine W_seq (W_seq ?_)
 obtain ⟨eb1, eo1, ea1, ek1, ef1, ee1, ec1, eO1, eH1⟩ := elem_sl (H2.seen 1 rfl) g.toNat (by omega)
 have eP1 := H2.look1 1 rfl eO1 eH1
 refine W_reg (sV rfl (py_move rfl) (sV rfl (py_move rfl) (sV rfl (py_nil rfl) (sV rfl (py_field Tryz.underlying37 rfl Tryz.sizeOf34 rfl rfl) (sV rfl (py_load Tryz.underlying34 rfl rfl (cell_atL (eP1.fbox 0 rfl) rfl)) (sV rfl (py_move rfl) (sV rfl (py_elz Tryz.underlying34 Tryz.sizeOf147 rfl rfl ee1 g.toNat (by omega) (by omega)) (sV rfl (py_load Tryz.underlying147 rfl rfl ec1) (sV rfl (py_len Tryz.underlying147 rfl) (sV rfl (py_lss rfl rfl) (s_nil (W_ifd rfl (fun c1 => ?_) (fun c1 => ?_)))))))))))))
 ·refine W_skip (W_seq (W_block (W_seq ?_)))
  obtain ⟨eb2, eo2, ea2, ek2, ef2, ee2, ec2, eO2, eH2⟩ := elem_sl (eP1.seen 1 rfl) g.toNat (by omega)
  have eP2 := eP1.look1 1 rfl eO2 eH2
  obtain ⟨eb3, eo3, es1, ef3, ee3, ec3, eO3, eH3, em1⟩ := elem_st (eP2.seen 6 rfl) k (by omega)
  obtain ⟨ea3, ek3, eg1, rfl, eq1, eK1, eo4⟩ := own_Drive eO3
  have eP3 := eP2.look1 6 rfl eo4 (fun b hb => eH3 b (by rw [eq1]; simp [hb]))
  have eL1 := own_len_le eo4
  unfold maxLen at eL1
  refine W_reg (sV rfl (py_move rfl) (sV rfl (py_nil rfl) (sV rfl (py_field Tryz.underlying37 rfl Tryz.sizeOf34 rfl rfl) (sV rfl (py_load Tryz.underlying34 rfl rfl (cell_atL (eP3.fbox 0 rfl) rfl)) (sV rfl (py_move rfl) (sV rfl (py_elz Tryz.underlying34 Tryz.sizeOf147 rfl rfl ee2 g.toNat (by omega) (by omega)) (sV rfl (py_load Tryz.underlying147 rfl rfl ec2) (sV rfl (py_move rfl) (sV rfl (py_elz Tryz.underlying147 Tryz.sizeOf150 rfl rfl ee3 k (by omega) (by omega)) (sV rfl (py_field Tryz.underlying150 rfl Tryz.sizeOf4 rfl rfl) (sV rfl (py_load Tryz.underlying4 rfl rfl (at_cell ec3 0 rfl)) (s_nil (W_if rfl (fun c2 => ?_) (fun c2 => ?_))))))))))))))
  ·have bl := blk_len (G := (z.Groups.getD g.toNat [])) (row := row.toNat) (k := k)
   refine W_reg (sV rfl (py_move rfl) (s_lit1 (wn rfl) rfl Tryz.underlying163 Tryz_ty61 rfl rfl rfl rfl eP3 (fun b2 w3 e2 g2 H4 => ?_)))
   have H6 := H4.nilF (β := UInt8)
   try dsimp only [List.nil_append, List.cons_append, List.set_cons_zero, List.set_cons_succ] at H6
   refine s_app1 (α := View) (u := ⟨_, _, _⟩) (wn rfl) rfl Tryz.underlying163 Tryz_ty61 rfl rfl rfl H6 0 1 rfl rfl ⟨rfl, rfl⟩ (by unfold maxLen; omega) (by omega) (fun v1 w4 fp1 H5 => ?_)
   try dsimp only [List.nil_append, List.cons_append, List.set_cons_zero, List.set_cons_succ] at H5
   obtain ⟨rg1, H7, rh1⟩ := H5.rowApp (y := ([] : List UInt8)) 4 8 rfl rfl (by first | assumption | omega)
   try dsimp only [List.nil_append, List.cons_append, List.set_cons_zero, List.set_cons_succ] at H7
   refine sV rfl (py_assign rfl) (s_nil (W_reg (sV rfl (py_move rfl) (sV rfl (py_add rfl rfl (in64 ⟨by omega, by omega⟩)) (sV rfl (py_assign rfl) (s_nil ?_))))))
   have bq := blk_wiped (row := row.toNat) c2
   rw [← bq] at H7
   exact ⟨(k + 1, _, _, _, _), ⟨rfl, rfl, rfl, rfl, rfl, rfl, rfl, trivial⟩, ⟨((H7.ftake 5).dtake 1), by rw [bq, List.length_append, List.length_append, vl]; rfl, trivial, by omega, trivial⟩, by dsimp only; omega⟩
  ·have bl := blk_len (G := (z.Groups.getD g.toNat [])) (row := row.toNat) (k := k)
   have hbl := hdd k (by omega)
   obtain ⟨eb4, eo5, ea4, ek4, ef4, ee4, ec4, eO4, eH4⟩ := elem_sl (eP3.seen 1 rfl) g.toNat (by omega)
   have eP4 := eP3.look1 1 rfl eO4 eH4
   obtain ⟨eb5, eo6, es2, ef5, ee5, ec5, eO5, eH5, em2⟩ := elem_st (eP4.seen 8 rfl) k (by omega)
   obtain ⟨ea5, ek5, eg2, rfl, eq2, eK2, eo7⟩ := own_Drive eO5
   have eP5 := eP4.look1 8 rfl eo7 (fun b hb => eH5 b (by rw [eq2]; simp [hb]))
   have eL2 := own_len_le eo7
   unfold maxLen at eL2
   obtain ⟨eb6, eo8, es3, ef6, ee6, ec6, eO6, eH6, em3⟩ := elem_st (eP5.seen 9 rfl) row.toNat (by omega)
   obtain ⟨ea6, ek6, eg3, rfl, eq3, eK3, eo9⟩ := own_Block eO6
   have eK3U := eK3
   unfold Block.Ok at eK3U
   try unfold I64ok at eK3U
   try unfold maxLen at eK3U
   have eP6 := eP5.look1 9 rfl eo9 (fun b hb => eH6 b (by rw [eq3]; simp [hb]))
   have eL3 := own_len_le eo9
   unfold maxLen at eL3
   refine W_reg (sV rfl (py_move rfl) (sV rfl (py_move rfl) (sV rfl (py_nil rfl) (sV rfl (py_field Tryz.underlying37 rfl Tryz.sizeOf34 rfl rfl) (sV rfl (py_load Tryz.underlying34 rfl rfl (cell_atL (eP6.fbox 0 rfl) rfl)) (sV rfl (py_move rfl) (sV rfl (py_elz Tryz.underlying34 Tryz.sizeOf147 rfl rfl ee4 g.toNat (by omega) (by omega)) (sV rfl (py_load Tryz.underlying147 rfl rfl ec4) (sV rfl (py_move rfl) (sV rfl (py_elz Tryz.underlying147 Tryz.sizeOf150 rfl rfl ee5 k (by omega) (by omega)) (sV rfl (py_field Tryz.underlying150 rfl Tryz.sizeOf148 rfl rfl) (sV rfl (py_load Tryz.underlying148 rfl rfl (at_cell ec5 1 rfl)) (sV rfl (py_move rfl) (sV rfl (py_elz Tryz.underlying148 Tryz.sizeOf152 rfl rfl ee6 row.toNat (by omega) (by omega)) (sV rfl (py_field Tryz.underlying152 rfl Tryz.sizeOf61 rfl rfl) (sV rfl (py_load Tryz.underlying61 rfl rfl (at_cell ec6 1 rfl)) (s_lit1 (wn rfl) rfl Tryz.underlying163 Tryz_ty61 rfl rfl rfl rfl eP6 (fun b3 w5 e3 g3 H8 => ?_))))))))))))))))))
   refine s_app1 (α := View) (u := ⟨_, _, _⟩) (wn rfl) rfl Tryz.underlying163 Tryz_ty61 rfl rfl rfl H8 0 1 rfl rfl ⟨rfl, rfl⟩ (by unfold maxLen; omega) (by omega) (fun v2 w6 fp2 H9 => ?_)
   try dsimp only [List.nil_append, List.cons_append, List.set_cons_zero, List.set_cons_succ] at H9
   obtain ⟨rg2, H10, rh2⟩ := H9.rowApp 4 10 rfl rfl (by first | assumption | omega)
   try dsimp only [List.nil_append, List.cons_append, List.set_cons_zero, List.set_cons_succ] at H10
   refine sV rfl (py_assign rfl) (s_nil (W_reg (sV rfl (py_move rfl) (sV rfl (py_add rfl rfl (in64 ⟨by omega, by omega⟩)) (sV rfl (py_assign rfl) (s_nil ?_))))))
   have bq := blk_live (row := row.toNat) c2
   rw [← bq] at H10
   exact ⟨(k + 1, _, _, _, _), ⟨rfl, rfl, rfl, rfl, rfl, rfl, rfl, trivial⟩, ⟨((H10.ftake 5).dtake 1), by rw [bq, List.length_append, List.length_append, vl]; rfl, trivial, by omega, trivial⟩, by dsimp only; omega⟩
 ·refine W_exit (W_seq ?_)
  obtain rfl : k = (z.Groups.getD g.toNat []).length := by omega
  obtain ⟨pA, pC, pq⟩ := own_slice (eP1.mine 0 rfl)
  rw [vl, show (blkTo (z.Groups.getD g.toNat []) row.toNat (z.Groups.getD g.toNat []).length).length = (blkOf z g row).length from by rw [blkOf]] at pq
  cases pq
  obtain ⟨tf, HV, _⟩ := eP1.viewsIn 0 4 rfl rfl vl
  try dsimp only [List.nil_append, List.cons_append, List.set_cons_zero, List.set_cons_succ] at HV
  refine W_reg (sV rfl (py_move rfl) (sV rfl (py_nil rfl) (sV rfl (py_field Tryz.underlying37 rfl Tryz.sizeOf33 rfl rfl) (sV rfl (py_field Tryz.underlying33 rfl Tryz.sizeOf2 rfl rfl) (sV rfl (py_load Tryz.underlying2 rfl rfl (cell_atL (HV.fbox 0 rfl) rfl)) (sV rfl (py_move rfl) (s_call (wn rfl) rfl rfl (pc_call Tryz.func192 rfl Tryz_nm192 rfl) (by have hS : Sees _ [.slice pA (blkOf z g row).length pC] (blkOf z g row) := HV.sees 6 rfl; have lc := Tryz_spec_l2Decode (n := z.Shape.Data.toNat) (s := z.Shape.Spare.toNat) (xs := blkOf z g row) (by omega) pl pp hS; rw [Int.toNat_of_nonneg (show 0 ≤ z.Shape.Data by omega)] at lc; exact lc) (fun v3 w7 r1 => ?_))))))))
  obtain ⟨e4, sa1, sk1, rfl, r1⟩ := r1
  obtain ⟨fp3, H11⟩ := HV.res e4 r1
  refine sV rfl (py_extr rfl rfl) (sV rfl (py_extr rfl rfl) (sV rfl (py_assign rfl) (sV rfl (py_assign rfl) (s_nil (W_ret (hQ _ _ (fin2 Tryz.results116 rfl rfl ?_)))))))
  exact ⟨H11.ext, _, _, (by rw [← pd]; rfl), H11.out 1 rfl⟩
end Go.Wk
namespace Go.Wk
section
variable {z : Wld} {g row most : Int} {xs : List UInt8}
def oldF (z : Wld) (g row : Int) (xs : List UInt8) (most : Int) : Int :=
  if upF z ≠ 0 then upF z else if ins g 0 most = true ∧ ins row 0 (z.Shape.Rows - 1) = true then
    if (xs.length : Int) = z.Shape.Data * 4 then if g ∈ z.On then if deadF z g = true then 10 else 0 else 8 else 1 else 3
theorem oldF_up (h : upF z ≠ 0) : oldF z g row xs most = upF z := by rw [oldF, if_pos h]
theorem oldF_out (h : upF z = 0) (h2 : ¬ (ins g 0 most = true ∧ ins row 0 (z.Shape.Rows - 1) = true)) : oldF z g row xs most = 3 := by rw [oldF, if_neg (by omega), if_neg h2]
theorem oldF_len (h : upF z = 0) (h2 : ins g 0 most = true ∧ ins row 0 (z.Shape.Rows - 1) = true) (h3 : (xs.length : Int) ≠ z.Shape.Data * 4) : oldF z g row xs most = 1 := by rw [oldF, if_neg (by omega), if_pos h2, if_neg h3]
theorem oldF_in (h : upF z = 0) (h2 : ins g 0 most = true ∧ ins row 0 (z.Shape.Rows - 1) = true) (h3 : (xs.length : Int) = z.Shape.Data * 4) : oldF z g row xs most = if g ∈ z.On then if deadF z g = true then 10 else 0 else 8 := by rw [oldF, if_neg (by omega), if_pos h2, if_pos h3]
theorem oldF_ok (h : oldF z g row xs most = 0) : upF z = 0 ∧ ins g 0 most = true ∧ ins row 0 (z.Shape.Rows - 1) = true ∧ (xs.length : Int) = z.Shape.Data * 4 ∧ g ∈ z.On ∧ deadF z g = false := by
  unfold oldF at h
  split at h
  · omega
  · split at h
    · next h2 =>
      split at h
      · split at h
        · split at h
          · omega
          · next h5 => exact ⟨by omega, h2.1, h2.2, by assumption, by assumption, by simpa using h5⟩
        · omega
      · omega
    · omega
theorem oldF_cd : 0 ≤ oldF z g row xs most ∧ oldF z g row xs most ≤ 10 := by
  have := upF_cd (z := z)
  unfold oldF
  repeat' split
  all_goals omega
def liveF (z : Wld) (g : Int) : Int := if groupF z g = 0 then if deadF z g = true then 10 else 0 else groupF z g
theorem oldF_live (h : upF z = 0) (hg : ins g 0 (z.Shape.Groups + z.Shape.Column - 1) = true) (hr : ins row 0 (z.Shape.Rows - 1) = true) (h3 : (xs.length : Int) = z.Shape.Data * 4) : oldF z g row xs (z.Shape.Groups + z.Shape.Column - 1) = liveF z g := by
  rw [oldF_in h ⟨hg, hr⟩ h3, liveF, groupF, if_pos hg]
  split <;> simp
def oldBytes (z : Wld) (g row : Int) (xs : List UInt8) : BytesResult := if oldF z g row xs (z.Shape.Groups + z.Shape.Column - 1) ≠ 0 then ⟨oldF z g row xs (z.Shape.Groups + z.Shape.Column - 1), []⟩ else ⟨0, addG (rowB z g row) xs⟩
theorem oldBytes_bad (h : oldF z g row xs (z.Shape.Groups + z.Shape.Column - 1) ≠ 0) : oldBytes z g row xs = ⟨oldF z g row xs (z.Shape.Groups + z.Shape.Column - 1), []⟩ := by rw [oldBytes, if_pos h]
theorem oldBytes_ok (h : oldF z g row xs (z.Shape.Groups + z.Shape.Column - 1) = 0) : oldBytes z g row xs = ⟨0, addG (rowB z g row) xs⟩ := by rw [oldBytes, if_neg (by omega)]
theorem rowB_len (hs : z.Shape.ok = true) (hG : groupsOK z = true) (hg : ins g 0 (z.Shape.Groups + z.Shape.Column - 1) = true) (hr : ins row 0 (z.Shape.Rows - 1) = true) (hd : deadF z g = false) : ((rowB z g row).length : Int) = z.Shape.Data * 4 := by
  have sbd := shape_bd hs
  obtain ⟨_, hp, hd2⟩ := blk_part hs hG hg hr
  have hk : decOk z.Shape.Data.toNat (blkOf z g row) = true := by rw [hd2, hd]; rfl
  unfold rowB decL
  rw [if_pos hk, decTo_len hp]
  omega
theorem oldBytes_Ok : (oldBytes z g row xs).Ok := by
  have := oldF_cd (z := z) (g := g) (row := row) (xs := xs) (most := z.Shape.Groups + z.Shape.Column - 1)
  unfold oldBytes BytesResult.Ok I64ok
  repeat' split
  all_goals (simp only; omega)
theorem oldBytes_len : (oldBytes z g row xs).Bytes.length ≤ 100 := by
  unfold oldBytes
  split
  · simp
  · have h := oldF_ok (z := z) (g := g) (row := row) (xs := xs) (most := z.Shape.Groups + z.Shape.Column - 1) (by omega)
    have hw := upF_ok h.1
    have hwf := worldF_ok hw.1
    have hb := rowB_len hwf.1 hwf.2.1 h.2.1 h.2.2.1 h.2.2.2.2.2
    have sbd := shape_bd hwf.1
    simp only
    rw [addG_len (by omega)]
    omega
end
end Go.Wk
namespace Go.Wk
open Go.Proofs Rp
set_option maxRecDepth 10000
theorem Tryz_impl_World_liveFault {w : World} {zb : Nat} {z : Wld} {zA9 : Option Addr} {zC9 : Nat} {zA10 : Option Addr} {zC10 : Nat} {zA11 : Option Addr} {zC11 : Nat} {g : Int} (zB : w.heap[zb]? = some (.cells [.int .i64 z.Shape.Groups, .int .i64 z.Shape.Column, .int .i64 z.Shape.Data, .int .i64 z.Shape.Spare, .int .i64 z.Shape.Rows, .int .i64 z.Shape.Cap, .int .i64 z.Shape.Batch, .int .i64 z.Shape.Queue, .int .i64 z.Shape.Stage, .slice zA9 z.Groups.length zC9, .slice zA10 z.On.length zC10, .slice zA11 z.Tapes.length zC11, .int .i64 z.Writes, .int .i64 z.Stop, .bool z.Down].toArray 37)) (zK : z.Ok) (zS9 : Sees w [.slice zA9 z.Groups.length zC9] z.Groups) (zS10 : Sees w [.slice zA10 z.On.length zC10] z.On) (zS11 : Sees w [.slice zA11 z.Tapes.length zC11] z.Tapes) (hs : z.Shape.ok = true) (hG : groupsOK z = true) : Ret Tryz.prog 123 #[.pointer (some ⟨zb, 0, none⟩), .int .i64 g] w fun v w' => Ext No w w' ∧ (v = .int .i64 (liveF z g)) := by
 have zK2 := zK
 unfold Wld.Ok Shape.Ok at zK2
 try unfold I64ok at zK2
 try unfold maxLen at zK2
 have zL9 := sees_len zS9
 unfold maxLen at zL9
 obtain ⟨zF9, zO9⟩ := zS9
 have zL10 := sees_len zS10
 unfold maxLen at zL10
 obtain ⟨zF10, zO10⟩ := zS10
 have zL11 := sees_len zS11
 unfold maxLen at zL11
 obtain ⟨zF11, zO11⟩ := zS11
 have sbd := shape_bd hs
 refine ret_Q (vs := [.pointer (some ⟨zb, 0, none⟩), .int .i64 g]) Tryz.func123 rfl Tryz.ntmps123 rfl (fun Q hQ hN => ?_)
 have H0 := Sep.start (w := w) (F := [box zb (.cells [.int .i64 z.Shape.Groups, .int .i64 z.Shape.Column, .int .i64 z.Shape.Data, .int .i64 z.Shape.Spare, .int .i64 z.Shape.Rows, .int .i64 z.Shape.Cap, .int .i64 z.Shape.Batch, .int .i64 z.Shape.Queue, .int .i64 z.Shape.Stage, .slice zA9 z.Groups.length zC9, .slice zA10 z.On.length zC10, .slice zA11 z.Tapes.length zC11, .int .i64 z.Writes, .int .i64 z.Stop, .bool z.Down].toArray 37), seen false [.slice zA9 z.Groups.length zC9] z.Groups zF9, seen false [.slice zA10 z.On.length zC10] z.On zF10, seen false [.slice zA11 z.Tapes.length zC11] z.Tapes zF11]) (all_cons (by exact zB) (all_cons zO9 (all_cons zO10 (all_cons zO11 (by simp)))))
 refine W_sr (sV rfl (py_assign rfl) (s_nil (W_sr (sV rfl (py_move rfl) (sV rfl (py_move rfl) (s_call (wn rfl) rfl rfl (pc_call Tryz.func143 rfl Tryz_nm143 rfl) (Tryz_impl_World_groupFault (H0.fbox 0 rfl) (by assumption) (H0.sees 1 rfl) (H0.sees 2 rfl) (H0.sees 3 rfl) (by assumption)) (fun v1 w1 r1 => ?_)))))))
 obtain ⟨e1, rfl⟩ := r1
 have H1 := H0.to e1
 refine sV rfl (py_assign rfl) (s_nil (W_seq (W_seq ?_)))
 have hgz := fun h => (groupF_zero (z := z) (g := g) h).1
 refine W_reg (sV rfl (py_move rfl) (sV rfl (py_eql rfl rfl) (sV rfl (py_move rfl) (s_grp 3 (j := 2) (want := true) (t := 14) rfl rfl rfl rfl (fun hg1 kk1 => s_val (wgE rfl rfl rfl hg1) rfl rfl (py_move rfl) (s_val (wgE rfl rfl rfl hg1) rfl rfl (py_move rfl) (s_callv (wgE rfl rfl rfl hg1) rfl rfl (pc_call Tryz.func87 rfl Tryz_nm87 rfl) (Tryz_impl_World_dead (H1.fbox 0 rfl) (by assumption) (H1.sees 1 rfl) (H1.sees 2 rfl) (H1.sees 3 rfl) (by first | assumption | exact hgz (by simp_all)) (by first | assumption | exact hgz (by simp_all)) (by first | assumption | exact hgz (by simp_all))) (fun w3 e3 => kk1 _ _ (kx rfl (kx rfl (kx rfl k0))) rfl (Ext.refl.trans e3))))) (fun w2 e2 => ?_)))))
 have H2 := H1.to e2
 refine sV rfl (py_band rfl rfl) (s_nil (W_if rfl (fun c1 => ?_) (fun c1 => ?_)))
 ·refine W_reg (sV rfl (py_assign rfl) (s_nil (W_sr (sV rfl (py_move rfl) (sV rfl (py_assign rfl) (s_nil (W_ret (hQ _ _ (fin1 Tryz.results123 rfl ?_)))))))))
  exact ⟨H2.ext, congrArg (Value.int .i64) (by unfold liveF; (repeat' split) <;> first | rfl | omega | simp_all)⟩
 ·refine W_skip (W_sr (sV rfl (py_move rfl) (sV rfl (py_assign rfl) (s_nil (W_ret (hQ _ _ (fin1 Tryz.results123 rfl ?_)))))))
  exact ⟨H2.ext, congrArg (Value.int .i64) (by unfold liveF; (repeat' split) <;> first | rfl | omega | simp_all)⟩
theorem Tryz_impl_World_old {w : World} {zb : Nat} {z : Wld} {zA9 : Option Addr} {zC9 : Nat} {zA10 : Option Addr} {zC10 : Nat} {zA11 : Option Addr} {zC11 : Nat} {zF9 : List Nat} {zF10 : List Nat} {zF11 : List Nat} {g : Int} {row : Int} {xs : List UInt8} {xsA : Option Addr} {xsC : Nat} (zB : w.heap[zb]? = some (.cells [.int .i64 z.Shape.Groups, .int .i64 z.Shape.Column, .int .i64 z.Shape.Data, .int .i64 z.Shape.Spare, .int .i64 z.Shape.Rows, .int .i64 z.Shape.Cap, .int .i64 z.Shape.Batch, .int .i64 z.Shape.Queue, .int .i64 z.Shape.Stage, .slice zA9 z.Groups.length zC9, .slice zA10 z.On.length zC10, .slice zA11 z.Tapes.length zC11, .int .i64 z.Writes, .int .i64 z.Stop, .bool z.Down].toArray 37)) (zK : z.Ok) (zO9 : own false w [.slice zA9 z.Groups.length zC9] z.Groups zF9) (zO10 : own false w [.slice zA10 z.On.length zC10] z.On zF10) (zO11 : own false w [.slice zA11 z.Tapes.length zC11] z.Tapes zF11) (xsS : Sees w [.slice xsA xs.length xsC] xs) (hs : z.Shape.ok = true) (hG : groupsOK z = true) (hg : ins g 0 (z.Shape.Groups + z.Shape.Column - 1) = true) (hr : ins row 0 (z.Shape.Rows - 1) = true) (hd : deadF z g = false) (hx : (xs.length : Int) = z.Shape.Data * 4) : Ret Tryz.prog 124 #[.pointer (some ⟨zb, 0, none⟩), .int .i64 g, .int .i64 row, .slice xsA xs.length xsC] w fun v w' => Ext No w w' ∧ (Res w w' [v] (addG (rowB z g row) xs)) := by
 have zK2 := zK
 unfold Wld.Ok Shape.Ok at zK2
 try unfold I64ok at zK2
 try unfold maxLen at zK2
 have zL9 := own_len_le zO9
 unfold maxLen at zL9
 have zL10 := own_len_le zO10
 unfold maxLen at zL10
 have zL11 := own_len_le zO11
 unfold maxLen at zL11
 have xsL := sees_len xsS
 unfold maxLen at xsL
 obtain ⟨xsF, xsO⟩ := xsS
 have sbd := shape_bd hs
 have rl := rowB_len hs hG hg hr hd
 refine ret_Q (vs := [.pointer (some ⟨zb, 0, none⟩), .int .i64 g, .int .i64 row, .slice xsA xs.length xsC]) Tryz.func124 rfl Tryz.ntmps124 rfl (fun Q hQ hN => ?_)
 have H0 := Sep.start (w := w) (F := [box zb (.cells [.int .i64 z.Shape.Groups, .int .i64 z.Shape.Column, .int .i64 z.Shape.Data, .int .i64 z.Shape.Spare, .int .i64 z.Shape.Rows, .int .i64 z.Shape.Cap, .int .i64 z.Shape.Batch, .int .i64 z.Shape.Queue, .int .i64 z.Shape.Stage, .slice zA9 z.Groups.length zC9, .slice zA10 z.On.length zC10, .slice zA11 z.Tapes.length zC11, .int .i64 z.Writes, .int .i64 z.Stop, .bool z.Down].toArray 37), seen false [.slice zA9 z.Groups.length zC9] z.Groups zF9, seen false [.slice zA10 z.On.length zC10] z.On zF10, seen false [.slice zA11 z.Tapes.length zC11] z.Tapes zF11, seen false [.slice xsA xs.length xsC] xs xsF]) (all_cons (by exact zB) (all_cons zO9 (all_cons zO10 (all_cons zO11 (all_cons xsO (by simp))))))
 refine W_sr (sV rfl (py_assign rfl) (s_nil (W_sr (sV rfl (py_move rfl) (sV rfl (py_move rfl) (sV rfl (py_move rfl) (s_call (wn rfl) rfl rfl (pc_call Tryz.func117 rfl Tryz_nm117 rfl) (Tryz_impl_World_rowBytes (H0.fbox 0 rfl) (by assumption) (own_weak (H0.seen 1 rfl)) (own_weak (H0.seen 2 rfl)) (own_weak (H0.seen 3 rfl)) (by assumption) (by assumption) (by assumption) (by assumption)) (fun v1 w1 r1 => ?_))))))))
 obtain ⟨e1, r1⟩ := r1
 obtain ⟨fp1, H1⟩ := H0.res e1 r1
 obtain ⟨a1, k1, q1⟩ := own_slice (H1.mine 0 rfl)
 cases q1
 refine sV rfl (py_move rfl) (s_call (wn rfl) rfl rfl (pc_call Tryz.func195 rfl Tryz_nm195 rfl) (Tryz_impl_sum (H1.msees 0 rfl) (H1.sees 4 rfl) (by first | assumption | omega) (c := 1)) (fun v2 w2 r2 => ?_))
 obtain ⟨e2, r2⟩ := r2
 obtain ⟨fp2, H2⟩ := H1.res e2 r2
 obtain ⟨a2, k2, q2⟩ := own_slice (H2.mine 1 rfl)
 cases q2
 refine sV rfl (py_assign rfl) (s_nil (W_ret (hQ _ _ (fin1 Tryz.results124 rfl ?_))))
 have ho := H2.out 1 rfl
 rw [scaleG_one] at ho ⊢
 exact ⟨H2.ext, ho⟩
theorem Tryz_spec_l9Old {w : World} {zb : Nat} {z : Wld} {zA9 : Option Addr} {zC9 : Nat} {zA10 : Option Addr} {zC10 : Nat} {zA11 : Option Addr} {zC11 : Nat} {g : Int} {row : Int} {xs : List UInt8} {xsA : Option Addr} {xsC : Nat} (zB : w.heap[zb]? = some (.cells [.int .i64 z.Shape.Groups, .int .i64 z.Shape.Column, .int .i64 z.Shape.Data, .int .i64 z.Shape.Spare, .int .i64 z.Shape.Rows, .int .i64 z.Shape.Cap, .int .i64 z.Shape.Batch, .int .i64 z.Shape.Queue, .int .i64 z.Shape.Stage, .slice zA9 z.Groups.length zC9, .slice zA10 z.On.length zC10, .slice zA11 z.Tapes.length zC11, .int .i64 z.Writes, .int .i64 z.Stop, .bool z.Down].toArray 37)) (zK : z.Ok) (zS9 : Sees w [.slice zA9 z.Groups.length zC9] z.Groups) (zS10 : Sees w [.slice zA10 z.On.length zC10] z.On) (zS11 : Sees w [.slice zA11 z.Tapes.length zC11] z.Tapes) (xsS : Sees w [.slice xsA xs.length xsC] xs) (hs : z.Shape.ok = true) (hG : groupsOK z = true) (hg : ins g 0 (z.Shape.Groups + z.Shape.Column - 1) = true) (hr : ins row 0 (z.Shape.Rows - 1) = true) (hd : deadF z g = false) (hx : (xs.length : Int) = z.Shape.Data * 4) : Ret Tryz.prog 119 #[.pointer (some ⟨zb, 0, none⟩), .int .i64 g, .int .i64 row, .slice xsA xs.length xsC] w fun v w' => Ext No w w' ∧ (Res w w' [v] (addG (rowB z g row) xs)) := by
 have zK2 := zK
 unfold Wld.Ok Shape.Ok at zK2
 try unfold I64ok at zK2
 try unfold maxLen at zK2
 have zL9 := sees_len zS9
 unfold maxLen at zL9
 obtain ⟨zF9, zO9⟩ := zS9
 have zL10 := sees_len zS10
 unfold maxLen at zL10
 obtain ⟨zF10, zO10⟩ := zS10
 have zL11 := sees_len zS11
 unfold maxLen at zL11
 obtain ⟨zF11, zO11⟩ := zS11
 have xsL := sees_len xsS
 unfold maxLen at xsL
 obtain ⟨xsF, xsO⟩ := xsS
 have sbd := shape_bd hs
 have rl := rowB_len hs hG hg hr hd
 refine ret_Q (vs := [.pointer (some ⟨zb, 0, none⟩), .int .i64 g, .int .i64 row, .slice xsA xs.length xsC]) Tryz.func119 rfl Tryz.ntmps119 rfl (fun Q hQ hN => ?_)
 have H0 := Sep.start (w := w) (F := [box zb (.cells [.int .i64 z.Shape.Groups, .int .i64 z.Shape.Column, .int .i64 z.Shape.Data, .int .i64 z.Shape.Spare, .int .i64 z.Shape.Rows, .int .i64 z.Shape.Cap, .int .i64 z.Shape.Batch, .int .i64 z.Shape.Queue, .int .i64 z.Shape.Stage, .slice zA9 z.Groups.length zC9, .slice zA10 z.On.length zC10, .slice zA11 z.Tapes.length zC11, .int .i64 z.Writes, .int .i64 z.Stop, .bool z.Down].toArray 37), seen false [.slice zA9 z.Groups.length zC9] z.Groups zF9, seen false [.slice zA10 z.On.length zC10] z.On zF10, seen false [.slice zA11 z.Tapes.length zC11] z.Tapes zF11, seen false [.slice xsA xs.length xsC] xs xsF]) (all_cons (by exact zB) (all_cons zO9 (all_cons zO10 (all_cons zO11 (all_cons xsO (by simp))))))
 refine W_sr (sV rfl (py_assign rfl) (s_nil (W_sr (sV rfl (py_move rfl) (sV rfl (py_move rfl) (sV rfl (py_move rfl) (s_call (wn rfl) rfl rfl (pc_call Tryz.func116 rfl Tryz_nm116 rfl) (Tryz_spec_l7Bytes (H0.fbox 0 rfl) (by assumption) (H0.sees 1 rfl) (H0.sees 2 rfl) (H0.sees 3 rfl) (by assumption) (by assumption) (by assumption) (by assumption)) (fun v1 w1 r1 => ?_))))))))
 obtain ⟨e1, sa1, sk1, rfl, r1⟩ := r1
 obtain ⟨fp1, H1⟩ := H0.res e1 r1
 refine sV rfl (py_move rfl) (sV rfl (py_extr rfl rfl) (sV rfl (py_extr rfl rfl) (sV rfl (py_assign rfl) (sV rfl (py_assign rfl) (s_nil (W_sr (sV rfl (py_move rfl) (sV rfl (py_move rfl) (s_call (wn rfl) rfl rfl (pc_call Tryz.func194 rfl Tryz_nm194 rfl) (Tryz_spec_l1Add (H1.msees 0 rfl) (H1.sees 4 rfl) (by omega)) (fun v2 w2 r2 => ?_))))))))))
 obtain ⟨e2, r2⟩ := r2
 obtain ⟨fp2, H2⟩ := H1.res e2 r2
 obtain ⟨a1, k1, q1⟩ := own_slice (H2.mine 1 rfl)
 cases q1
 refine sV rfl (py_assign rfl) (s_nil (W_ret (hQ _ _ (fin1 Tryz.results119 rfl ?_))))
 exact ⟨H2.ext, H2.out 1 rfl⟩
theorem Tryz_spec_l9Row {w : World} {z : Wld} {zA9 : Option Addr} {zC9 : Nat} {zA10 : Option Addr} {zC10 : Nat} {zA11 : Option Addr} {zC11 : Nat} {g : Int} {row : Int} {xs : List UInt8} {xsA : Option Addr} {xsC : Nat} {most : Int} (zK : z.Ok) (zS9 : Sees w [.slice zA9 z.Groups.length zC9] z.Groups) (zS10 : Sees w [.slice zA10 z.On.length zC10] z.On) (zS11 : Sees w [.slice zA11 z.Tapes.length zC11] z.Tapes) (xsS : Sees w [.slice xsA xs.length xsC] xs) (hm : z.Shape.ok = true → most ≤ z.Shape.Groups + z.Shape.Column - 1) : Ret Tryz.prog 118 #[z.val zA9 zC9 zA10 zC10 zA11 zC11, .int .i64 g, .int .i64 row, .slice xsA xs.length xsC, .int .i64 most] w fun v w' => Ext No w w' ∧ (v = .int .i64 (oldF z g row xs most)) := by
 have zK2 := zK
 unfold Wld.Ok Shape.Ok at zK2
 try unfold I64ok at zK2
 try unfold maxLen at zK2
 have zL9 := sees_len zS9
 unfold maxLen at zL9
 obtain ⟨zF9, zO9⟩ := zS9
 have zL10 := sees_len zS10
 unfold maxLen at zL10
 obtain ⟨zF10, zO10⟩ := zS10
 have zL11 := sees_len zS11
 unfold maxLen at zL11
 obtain ⟨zF11, zO11⟩ := zS11
 have xsL := sees_len xsS
 unfold maxLen at xsL
 obtain ⟨xsF, xsO⟩ := xsS
 refine ret_Q (vs := [z.val zA9 zC9 zA10 zC10 zA11 zC11, .int .i64 g, .int .i64 row, .slice xsA xs.length xsC, .int .i64 most]) Tryz.func118 rfl Tryz.ntmps118 rfl (fun Q hQ hN => ?_)
 have H0 := Sep.start (w := w) (F := [seen false [.slice zA9 z.Groups.length zC9] z.Groups zF9, seen false [.slice zA10 z.On.length zC10] z.On zF10, seen false [.slice zA11 z.Tapes.length zC11] z.Tapes zF11, seen false [.slice xsA xs.length xsC] xs xsF]) (all_cons zO9 (all_cons zO10 (all_cons zO11 (all_cons xsO (by simp)))))
 refine W_sr (s_box (wn rfl) rfl rfl H0 (fun b1 w1 e1 g1 H1 => ?_))
 refine sV rfl (py_assign rfl) (s_nil (W_seq (W_sr (sV rfl (py_loadS Tryz.underlying37 rfl Tryz.sizeOf37 rfl rfl (At.whole (H1.box 0 rfl))) (s_call (wn rfl) rfl rfl (pc_call Tryz.func99 rfl Tryz_nm99 rfl) (Tryz_spec_l5Asked (by assumption) (H1.sees 0 rfl) (H1.sees 1 rfl) (H1.sees 2 rfl)) (fun v1 w2 r1 => ?_))))))
 obtain ⟨e2, rfl⟩ := r1
 have H2 := H1.to e2
 refine sV rfl (py_assign rfl) (s_nil (W_sr (sV rfl (py_move rfl) (sV rfl (py_neq rfl rfl) (s_nil (W_ifd rfl (fun c1 => ?_) (fun c1 => ?_)))))))
 ·refine W_sr (sV rfl (py_move rfl) (sV rfl (py_assign rfl) (s_nil (W_ret (hQ _ _ (fin1 Tryz.results118 rfl ?_))))))
  exact ⟨H2.ext, congrArg (Value.int .i64) (oldF_up (by omega)).symm⟩
 ·refine W_skip (W_seq (W_seq ?_))
  have hu : upF z = 0 := by omega
  obtain ⟨hs, hG, hO⟩ := worldF_ok (w := z) (upF_ok (w := z) hu).1
  have sbd := shape_bd hs
  have hm2 := hm hs
  refine W_reg (sV rfl (py_move rfl) (sV rfl (py_move rfl) (s_call (wn rfl) rfl rfl (pc_call Tryz.func149 rfl Tryz_nm149 rfl) Tryz_spec_l1In (fun v2 w3 r2 => ?_))))
  obtain ⟨e3, rfl⟩ := r2
  have H3 := H2.to e3
  refine sV rfl (py_not rfl) (sV rfl (py_move rfl) (s_grp 7 (j := 4) (want := false) (t := 28) rfl rfl rfl rfl (fun hg1 kk1 => s_val (wgE rfl rfl rfl hg1) rfl rfl (py_move rfl) (s_val (wgE rfl rfl rfl hg1) rfl rfl (py_field Tryz.underlying37 rfl Tryz.sizeOf33 rfl rfl) (s_val (wgE rfl rfl rfl hg1) rfl rfl (py_field Tryz.underlying33 rfl Tryz.sizeOf2 rfl rfl) (s_val (wgE rfl rfl rfl hg1) rfl rfl (py_load Tryz.underlying2 rfl rfl (cell_atL (H3.box 0 rfl) rfl)) (s_val (wgE rfl rfl rfl hg1) rfl rfl (py_sub rfl rfl (in64 ⟨by omega, by omega⟩)) (s_callv (wgE rfl rfl rfl hg1) rfl rfl (pc_call Tryz.func149 rfl Tryz_nm149 rfl) Tryz_spec_l1In (fun w5 e5 => s_val (wgE rfl rfl rfl hg1) rfl rfl (py_not rfl) (kk1 _ _ (kx rfl (kx rfl (kx rfl (kx rfl (kx rfl (kx rfl (kx rfl k0))))))) rfl (Ext.refl.trans e5))))))))) (fun w4 e4 => ?_)))
  have H4 := H3.to e4
  refine sV rfl (py_bor rfl rfl) (s_nil (W_if rfl (fun c2 => ?_) (fun c2 => ?_)))
  ·refine W_sr (sV rfl (py_assign rfl) (s_nil (W_ret (hQ _ _ (fin1 Tryz.results118 rfl ?_)))))
   exact ⟨H4.ext, congrArg (Value.int .i64) (oldF_out hu (by intro ⟨h1, h2⟩; simp_all)).symm⟩
  ·refine W_skip (W_seq (W_sr (sV rfl (py_move rfl) (sV rfl (py_len Tryz.underlying61 rfl) (sV rfl (py_field Tryz.underlying37 rfl Tryz.sizeOf33 rfl rfl) (sV rfl (py_loadS Tryz.underlying33 rfl Tryz.sizeOf33 rfl rfl (At.sub (H4.box 0 rfl) 9)) (s_call (wn rfl) rfl rfl (pc_call Tryz.func177 rfl Tryz_nm177 rfl) (Tryz_spec_l4Wide (by assumption)) (fun v3 w6 r3 => ?_))))))))
   obtain ⟨e6, rfl⟩ := r3
   have H5 := H4.to e6
   refine sV rfl (py_neq rfl rfl) (s_nil (W_ifd rfl (fun c3 => ?_) (fun c3 => ?_)))
   ·refine W_sr (sV rfl (py_assign rfl) (s_nil (W_ret (hQ _ _ (fin1 Tryz.results118 rfl ?_)))))
    exact ⟨H5.ext, congrArg (Value.int .i64) (oldF_len hu (by simp_all) (by simp_all)).symm⟩
   ·refine W_skip (W_seq (W_sr (sV rfl (py_field Tryz.underlying37 rfl Tryz.sizeOf25 rfl rfl) (sV rfl (py_load Tryz.underlying25 rfl rfl (cell_atL (H5.box 0 rfl) rfl)) (sV rfl (py_move rfl) (s_call (wn rfl) rfl rfl (pc_call Tryz.func139 rfl Tryz_nm139 rfl) (Tryz_spec_l1Has (H5.sees 1 rfl)) (fun v4 w7 r4 => ?_)))))))
    obtain ⟨e7, rfl⟩ := r4
    have H6 := H5.to e7
    refine sV rfl (py_not rfl) (s_nil (W_if rfl (fun c4 => ?_) (fun c4 => ?_)))
    ·refine W_sr (sV rfl (py_assign rfl) (s_nil (W_ret (hQ _ _ (fin1 Tryz.results118 rfl ?_)))))
     exact ⟨H6.ext, congrArg (Value.int .i64) ((oldF_in hu (by simp_all) (by simp_all)).trans (by simp_all)).symm⟩
    ·refine W_skip (W_seq (W_seq ?_))
     have hgg : ins g 0 (z.Shape.Groups + z.Shape.Column - 1) = true := by
      have : ins g 0 most = true := by simp_all
      have := ins_iff.1 this
      exact ins_iff.2 (by omega)
     refine W_reg (sV rfl (py_move rfl) (s_call (wn rfl) rfl rfl (pc_call Tryz.func84 rfl Tryz_nm84 rfl) (Tryz_spec_l7Dead (H6.box 0 rfl) (by assumption) (H6.sees 0 rfl) (H6.sees 1 rfl) (H6.sees 2 rfl) (by assumption) (by assumption) (by assumption)) (fun v5 w8 r5 => ?_)))
     obtain ⟨e8, rfl⟩ := r5
     have H7 := H6.to e8
     refine s_nil (W_if rfl (fun c5 => ?_) (fun c5 => ?_))
     ·refine W_sr (sV rfl (py_assign rfl) (s_nil (W_ret (hQ _ _ (fin1 Tryz.results118 rfl ?_)))))
      exact ⟨H7.ext, congrArg (Value.int .i64) ((oldF_in hu (by simp_all) (by simp_all)).trans (by simp_all)).symm⟩
     ·refine W_skip (W_sr (sV rfl (py_assign rfl) (s_nil (W_ret (hQ _ _ (fin1 Tryz.results118 rfl ?_))))))
      exact ⟨H7.ext, congrArg (Value.int .i64) ((oldF_in hu (by simp_all) (by simp_all)).trans (by simp_all)).symm⟩
theorem Tryz_impl_OldBytes {w : World} {z : Wld} {zA9 : Option Addr} {zC9 : Nat} {zA10 : Option Addr} {zC10 : Nat} {zA11 : Option Addr} {zC11 : Nat} {g : Int} {row : Int} {xs : List UInt8} {xsA : Option Addr} {xsC : Nat} (zK : z.Ok) (zS9 : Sees w [.slice zA9 z.Groups.length zC9] z.Groups) (zS10 : Sees w [.slice zA10 z.On.length zC10] z.On) (zS11 : Sees w [.slice zA11 z.Tapes.length zC11] z.Tapes) (xsS : Sees w [.slice xsA xs.length xsC] xs) : Ret Tryz.prog 54 #[z.val zA9 zC9 zA10 zC10 zA11 zC11, .int .i64 g, .int .i64 row, .slice xsA xs.length xsC] w fun v w' => Ext No w w' ∧ (∃ A1 C1, v = (oldBytes z g row xs).val A1 C1 ∧ Res w w' [.int .i64 (oldBytes z g row xs).Code, .slice A1 (oldBytes z g row xs).Bytes.length C1] (oldBytes z g row xs)) := by
 have zK2 := zK
 unfold Wld.Ok Shape.Ok at zK2
 try unfold I64ok at zK2
 try unfold maxLen at zK2
 have zL9 := sees_len zS9
 unfold maxLen at zL9
 obtain ⟨zF9, zO9⟩ := zS9
 have zL10 := sees_len zS10
 unfold maxLen at zL10
 obtain ⟨zF10, zO10⟩ := zS10
 have zL11 := sees_len zS11
 unfold maxLen at zL11
 obtain ⟨zF11, zO11⟩ := zS11
 have xsL := sees_len xsS
 unfold maxLen at xsL
 obtain ⟨xsF, xsO⟩ := xsS
 refine ret_Q (vs := [z.val zA9 zC9 zA10 zC10 zA11 zC11, .int .i64 g, .int .i64 row, .slice xsA xs.length xsC]) Tryz.func54 rfl Tryz.ntmps54 rfl (fun Q hQ hN => ?_)
 have H0 := Sep.start (w := w) (F := [seen false [.slice zA9 z.Groups.length zC9] z.Groups zF9, seen false [.slice zA10 z.On.length zC10] z.On zF10, seen false [.slice zA11 z.Tapes.length zC11] z.Tapes zF11, seen false [.slice xsA xs.length xsC] xs xsF]) (all_cons zO9 (all_cons zO10 (all_cons zO11 (all_cons xsO (by simp)))))
 refine W_sr (s_box (wn rfl) rfl rfl H0 (fun b1 w1 e1 g1 H1 => ?_))
 refine s_var (wn rfl) rfl Tryz.zeroValue72 H1 (fun b2 w2 e2 g2 H2 => ?_)
 refine s_nil (W_sr (sV rfl (py_loadS Tryz.underlying37 rfl Tryz.sizeOf37 rfl rfl (At.whole (H2.box 0 rfl))) (s_call (wn rfl) rfl rfl (pc_call Tryz.func75 rfl Tryz_nm75 rfl) (Tryz_impl_upFault (by assumption) (H2.sees 0 rfl) (H2.sees 1 rfl) (H2.sees 2 rfl)) (fun v1 w3 r1 => ?_))))
 obtain ⟨e3, rfl⟩ := r1
 have H3 := H2.to e3
 refine sV rfl (py_assign rfl) (s_nil (W_cutS (γ := Unit) H3 [(1, _), (2, _), (3, _), (4, _), (8, _)] ⟨rfl, rfl, rfl, rfl, rfl, trivial⟩ (fun _ => [(9, .int .i64 (oldF z g row xs (z.Shape.Groups + z.Shape.Column - 1)))]) (fun _ => True) ?_ (fun _ w4 H4 _ => ?_)))
 ·refine W_block (W_sr (sV rfl (py_move rfl) (sV rfl (py_neq rfl rfl) (sV rfl (py_assign rfl) (s_nil (W_ifd rfl (fun c1 => ?_) (fun c1 => ?_)))))))
  ·refine W_skip ?_
   exact ⟨(), ⟨eqI (oldF_up (by omega)).symm, rfl, rfl, rfl, rfl, rfl, trivial⟩, H3, trivial⟩
  ·refine W_seq ?_
   obtain ⟨hs, hG, hO⟩ := worldF_ok (w := z) (upF_ok (w := z) (by omega)).1
   have sbd := shape_bd hs
   refine W_reg (sV rfl (py_field Tryz.underlying37 rfl Tryz.sizeOf33 rfl rfl) (sV rfl (py_loadS Tryz.underlying33 rfl Tryz.sizeOf33 rfl rfl (At.sub (H3.box 0 rfl) 9)) (sV rfl (py_move rfl) (s_call (wn rfl) rfl rfl (pc_call Tryz.func94 rfl Tryz_nm94 rfl) (Tryz_impl_Shape_isGroup (by assumption)) (fun v2 w5 r2 => ?_)))))
   obtain ⟨e4, rfl⟩ := r2
   have H5 := H3.to e4
   refine sV rfl (py_not rfl) (sV rfl (py_move rfl) (s_grp 5 (j := 5) (want := false) (t := 28) rfl rfl rfl rfl (fun hg1 kk1 => s_val (wgE rfl rfl rfl hg1) rfl rfl (py_field Tryz.underlying37 rfl Tryz.sizeOf33 rfl rfl) (s_val (wgE rfl rfl rfl hg1) rfl rfl (py_loadS Tryz.underlying33 rfl Tryz.sizeOf33 rfl rfl (At.sub (H5.box 0 rfl) 9)) (s_val (wgE rfl rfl rfl hg1) rfl rfl (py_move rfl) (s_callv (wgE rfl rfl rfl hg1) rfl rfl (pc_call Tryz.func120 rfl Tryz_nm120 rfl) (Tryz_impl_Shape_isRow (by assumption)) (fun w7 e6 => s_val (wgE rfl rfl rfl hg1) rfl rfl (py_not rfl) (kk1 _ _ (kx rfl (kx rfl (kx rfl (kx rfl (kx rfl k0))))) rfl (Ext.refl.trans e6))))))) (fun w6 e5 => ?_)))
   have H6 := H5.to e5
   refine sV rfl (py_bor rfl rfl) (sV rfl (py_assign rfl) (s_nil (W_if rfl (fun c2 => ?_) (fun c2 => ?_))))
   ·refine W_reg (sV rfl (py_assign rfl) (s_nil ?_))
    exact ⟨(), ⟨eqI (oldF_out (by omega) (by intro ⟨h1, h2⟩; simp_all)).symm, rfl, rfl, rfl, rfl, rfl, trivial⟩, H6, trivial⟩
   ·refine W_seq (W_drw (S := Ext No _) [(0, true), (2, true), (3, true), (1, false), (4, false), (5, true), (6, false)] (by kernel_rfl) (by kernel_rfl) (by kernel_rfl) rfl (fun _ => Ext.refl.drawn _) (fun q1 => ?_))
    have H7 := H6.drawn q1
    refine dV rfl rfl (fun zw hx => py_move rfl) (dV rfl rfl (fun zw hx => py_field Tryz.underlying37 rfl Tryz.sizeOf33 rfl rfl) (dV rfl rfl (fun zw hx => py_loadS Tryz.underlying33 rfl Tryz.sizeOf33 rfl rfl (At.sub (hx.heap (H7.box 0 rfl)) 9)) (d_call rfl (wn rfl) rfl rfl (pc_call Tryz.func121 rfl Tryz_nm121 rfl) (Tryz_size_byte (H7.sees 3 rfl)) (fun hS _ _ r _ => hS.trans r.1.no) (fun v3 w8 r3 => ?_))))
    obtain ⟨e7, rfl⟩ := r3
    have H8 := H7.to e7
    refine d_call rfl (wn rfl) rfl rfl (pc_call Tryz.func122 rfl Tryz_nm122 rfl) (Tryz_impl_Shape_rowLength (by assumption)) (fun hS _ _ r _ => hS.trans r.1.no) (fun v4 w9 r4 => ?_)
    obtain ⟨e8, rfl⟩ := r4
    have H9 := H8.to e8
    refine dV rfl rfl (fun zw hx => py_neq rfl rfl) (d_end rfl (wn rfl) rfl rfl (py_assign rfl) (d_nil (W_ifd rfl (fun c3 => ?_) (fun c3 => ?_))))
    ·refine W_reg (sV rfl (py_assign rfl) (s_nil ?_))
     exact ⟨(), ⟨eqI (oldF_len (by omega) (by simp_all) (by simp_all)).symm, rfl, rfl, rfl, rfl, rfl, trivial⟩, H9, trivial⟩
    ·refine W_reg (sV rfl (py_move rfl) (s_call (wn rfl) rfl rfl (pc_call Tryz.func123 rfl Tryz_nm123 rfl) (Tryz_impl_World_liveFault (H9.box 0 rfl) (by assumption) (H9.sees 0 rfl) (H9.sees 1 rfl) (H9.sees 2 rfl) (by assumption) (by assumption)) (fun v5 w10 r5 => ?_)))
     obtain ⟨e9, rfl⟩ := r5
     have H10 := H9.to e9
     refine sV rfl (py_assign rfl) (s_nil ?_)
     exact ⟨(), ⟨eqI (oldF_live (by omega) (by simp_all) (by simp_all) (by simp_all)).symm, rfl, rfl, rfl, rfl, rfl, trivial⟩, H10, trivial⟩
 ·dsimp only [List.cons_append, List.nil_append]
  refine W_seq (W_sr (sV rfl (py_move rfl) (sV rfl (py_neq rfl rfl) (s_nil (W_ifd rfl (fun c4 => ?_) (fun c4 => ?_))))))
  ·refine W_sr (sV rfl (py_move rfl) (sV rfl (py_buildS Tryz_pl72 rfl rfl) (s_stoS (wn rfl) Tryz.sizeOf72 rfl rfl rfl rfl H4 1 rfl rfl (fun w11 e10 H11 => ?_))))
   dsimp only [List.nil_append, List.cons_append, List.set_cons_zero, List.set_cons_succ, layL] at H11
   refine s_nil (W_ret (hQ _ _ (finC Tryz.results54 rfl (run_loadVarS Tryz.underlying72 rfl Tryz.sizeOf72 rfl (At.whole (H11.box 1 rfl))) ?_)))
   have cb : oldF z g row xs (z.Shape.Groups + z.Shape.Column - 1) ≠ 0 := c4
   rw [oldBytes_bad cb]
   exact ⟨H11.ext, none, 0, rfl, bytes_nil (by unfold I64ok; have := oldF_cd (z := z) (g := g) (row := row) (xs := xs) (most := (z.Shape.Groups + z.Shape.Column - 1)); dsimp only; omega)⟩
  ·refine W_skip (W_seq ?_)
   have ho0 : oldF z g row xs (z.Shape.Groups + z.Shape.Column - 1) = 0 := by
    have ho1 : ¬ (oldF z g row xs (z.Shape.Groups + z.Shape.Column - 1) ≠ 0) := c4
    omega
   obtain ⟨hu0, hg, hr, hx, hon, hd⟩ := oldF_ok ho0
   obtain ⟨hs, hG, hO⟩ := worldF_ok (w := z) (upF_ok (w := z) hu0).1
   refine W_reg (sV rfl (py_move rfl) (sV rfl (py_move rfl) (sV rfl (py_move rfl) (s_call (wn rfl) rfl rfl (pc_call Tryz.func124 rfl Tryz_nm124 rfl) (Tryz_impl_World_old (H4.box 0 rfl) (by assumption) (own_weak (H4.seen 0 rfl)) (own_weak (H4.seen 1 rfl)) (own_weak (H4.seen 2 rfl)) (H4.sees 3 rfl) (by assumption) (by assumption) (by assumption) (by assumption) (by assumption) (by assumption)) (fun v6 w12 r6 => ?_)))))
   obtain ⟨e11, r6⟩ := r6
   obtain ⟨fp1, H12⟩ := H4.res e11 r6
   obtain ⟨a1, k1, q2⟩ := own_slice (H12.mine 2 rfl)
   cases q2
   refine sV rfl (py_buildS Tryz_pl72 rfl rfl) (s_stoS (wn rfl) Tryz.sizeOf72 rfl rfl rfl rfl H12 1 rfl rfl (fun w13 e12 H13 => ?_))
   dsimp only [List.nil_append, List.cons_append, List.set_cons_zero, List.set_cons_succ, layL] at H13
   refine s_nil (W_ret (hQ _ _ (finC Tryz.results54 rfl (run_loadVarS Tryz.underlying72 rfl Tryz.sizeOf72 rfl (At.whole (H13.box 1 rfl))) ?_)))
   rw [oldBytes_ok ho0]
   exact ⟨H13.ext, _, _, rfl, BytesResult.out (x := ⟨0, addG (rowB z g row) xs⟩) (H13.sub (.cons _ (.cons _ (.cons_cons _ List.Sublist.slnil)))) (by show I64ok 0; unfold I64ok; omega)⟩
theorem Tryz_spec_OldBytes {w : World} {z : Wld} {zA9 : Option Addr} {zC9 : Nat} {zA10 : Option Addr} {zC10 : Nat} {zA11 : Option Addr} {zC11 : Nat} {g : Int} {row : Int} {xs : List UInt8} {xsA : Option Addr} {xsC : Nat} (zK : z.Ok) (zS9 : Sees w [.slice zA9 z.Groups.length zC9] z.Groups) (zS10 : Sees w [.slice zA10 z.On.length zC10] z.On) (zS11 : Sees w [.slice zA11 z.Tapes.length zC11] z.Tapes) (xsS : Sees w [.slice xsA xs.length xsC] xs) : Ret Tryz.prog 52 #[z.val zA9 zC9 zA10 zC10 zA11 zC11, .int .i64 g, .int .i64 row, .slice xsA xs.length xsC] w fun v w' => Ext No w w' ∧ (∃ A1 C1, v = (oldBytes z g row xs).val A1 C1 ∧ Res w w' [.int .i64 (oldBytes z g row xs).Code, .slice A1 (oldBytes z g row xs).Bytes.length C1] (oldBytes z g row xs)) := by
 have zK2 := zK
 unfold Wld.Ok Shape.Ok at zK2
 try unfold I64ok at zK2
 try unfold maxLen at zK2
 have zL9 := sees_len zS9
 unfold maxLen at zL9
 obtain ⟨zF9, zO9⟩ := zS9
 have zL10 := sees_len zS10
 unfold maxLen at zL10
 obtain ⟨zF10, zO10⟩ := zS10
 have zL11 := sees_len zS11
 unfold maxLen at zL11
 obtain ⟨zF11, zO11⟩ := zS11
 have xsL := sees_len xsS
 unfold maxLen at xsL
 obtain ⟨xsF, xsO⟩ := xsS
 refine ret_Q (vs := [z.val zA9 zC9 zA10 zC10 zA11 zC11, .int .i64 g, .int .i64 row, .slice xsA xs.length xsC]) Tryz.func52 rfl Tryz.ntmps52 rfl (fun Q hQ hN => ?_)
 have H0 := Sep.start (w := w) (F := [seen false [.slice zA9 z.Groups.length zC9] z.Groups zF9, seen false [.slice zA10 z.On.length zC10] z.On zF10, seen false [.slice zA11 z.Tapes.length zC11] z.Tapes zF11, seen false [.slice xsA xs.length xsC] xs xsF]) (all_cons zO9 (all_cons zO10 (all_cons zO11 (all_cons xsO (by simp)))))
 refine W_sr (s_box (wn rfl) rfl rfl H0 (fun b1 w1 e1 g1 H1 => ?_))
 refine s_var (wn rfl) rfl Tryz.zeroValue72 H1 (fun b2 w2 e2 g2 H2 => ?_)
 refine s_nil (W_seq (W_sr (sV rfl (py_loadS Tryz.underlying37 rfl Tryz.sizeOf37 rfl rfl (At.whole (H2.box 0 rfl))) (s_call (wn rfl) rfl rfl (pc_call Tryz.func99 rfl Tryz_nm99 rfl) (Tryz_spec_l5Asked (by assumption) (H2.sees 0 rfl) (H2.sees 1 rfl) (H2.sees 2 rfl)) (fun v1 w3 r1 => ?_)))))
 obtain ⟨e3, rfl⟩ := r1
 have H3 := H2.to e3
 refine sV rfl (py_assign rfl) (s_nil (W_sr (sV rfl (py_move rfl) (sV rfl (py_neq rfl rfl) (s_nil (W_ifd rfl (fun c1 => ?_) (fun c1 => ?_)))))))
 ·refine W_sr (sV rfl (py_move rfl) (sV rfl (py_buildS Tryz_pl72 rfl rfl) (s_stoS (wn rfl) Tryz.sizeOf72 rfl rfl rfl rfl H3 1 rfl rfl (fun w4 e4 H4 => ?_))))
  dsimp only [List.nil_append, List.cons_append, List.set_cons_zero, List.set_cons_succ, layL] at H4
  refine s_nil (W_ret (hQ _ _ (finC Tryz.results52 rfl (run_loadVarS Tryz.underlying72 rfl Tryz.sizeOf72 rfl (At.whole (H4.box 1 rfl))) ?_)))
  rw [oldBytes_bad (by rw [oldF_up (by omega)]; omega), oldF_up (by omega)]
  exact ⟨H4.ext, none, 0, rfl, bytes_nil (by unfold I64ok; have := upF_cd (z := z); dsimp only; omega)⟩
 ·refine W_skip (W_seq (W_seq ?_))
  have hu : upF z = 0 := by omega
  obtain ⟨hs, hG, hO⟩ := worldF_ok (w := z) (upF_ok (w := z) hu).1
  have sbd := shape_bd hs
  refine W_drw (S := Ext No _) [(0, true), (1, true), (2, true), (3, true), (4, true), (5, true), (6, false), (7, true), (8, false), (9, false)] (by kernel_rfl) (by kernel_rfl) (by kernel_rfl) rfl (fun _ => Ext.refl.drawn _) (fun q1 => ?_)
  have H5 := H3.drawn q1
  refine dV rfl rfl (fun zw hx => py_loadS Tryz.underlying37 rfl Tryz.sizeOf37 rfl rfl (At.whole (hx.heap (H5.box 0 rfl)))) (dV rfl rfl (fun zw hx => py_move rfl) (dV rfl rfl (fun zw hx => py_move rfl) (dV rfl rfl (fun zw hx => py_move rfl) (dV rfl rfl (fun zw hx => py_field Tryz.underlying37 rfl Tryz.sizeOf33 rfl rfl) (dV rfl rfl (fun zw hx => py_loadS Tryz.underlying33 rfl Tryz.sizeOf33 rfl rfl (At.sub (hx.heap (H5.box 0 rfl)) 9)) (d_call rfl (wn rfl) rfl rfl (pc_call Tryz.func83 rfl Tryz_nm83 rfl) (Tryz_spec_l5All (by assumption)) (fun hS _ _ r _ => hS.trans r.1.no) (fun v2 w5 r2 => ?_)))))))
  obtain ⟨e5, rfl⟩ := r2
  have H6 := H5.to e5
  refine dV rfl rfl (fun zw hx => py_sub rfl rfl (in64 ⟨by omega, by omega⟩)) (d_call rfl (wn rfl) rfl rfl (pc_call Tryz.func118 rfl Tryz_nm118 rfl) (Tryz_spec_l9Row (by assumption) (H6.sees 0 rfl) (H6.sees 1 rfl) (H6.sees 2 rfl) (H6.sees 3 rfl) (by intro _; omega)) (fun hS _ _ r _ => hS.trans r.1.no) (fun v3 w6 r3 => ?_))
  obtain ⟨e6, rfl⟩ := r3
  have H7 := H6.to e6
  refine d_end rfl (wn rfl) rfl rfl (py_assign rfl) (d_nil (W_sr (sV rfl (py_move rfl) (sV rfl (py_neq rfl rfl) (s_nil (W_ifd rfl (fun c2 => ?_) (fun c2 => ?_)))))))
  ·refine W_sr (sV rfl (py_move rfl) (sV rfl (py_buildS Tryz_pl72 rfl rfl) (s_stoS (wn rfl) Tryz.sizeOf72 rfl rfl rfl rfl H7 1 rfl rfl (fun w7 e7 H8 => ?_))))
   dsimp only [List.nil_append, List.cons_append, List.set_cons_zero, List.set_cons_succ, layL] at H8
   refine s_nil (W_ret (hQ _ _ (finC Tryz.results52 rfl (run_loadVarS Tryz.underlying72 rfl Tryz.sizeOf72 rfl (At.whole (H8.box 1 rfl))) ?_)))
   have cb : oldF z g row xs (z.Shape.Groups + z.Shape.Column - 1) ≠ 0 := c2
   rw [oldBytes_bad cb]
   exact ⟨H8.ext, none, 0, rfl, bytes_nil (by unfold I64ok; have := oldF_cd (z := z) (g := g) (row := row) (xs := xs) (most := (z.Shape.Groups + z.Shape.Column - 1)); dsimp only; omega)⟩
  ·refine W_skip (W_seq ?_)
   have ho0 : oldF z g row xs (z.Shape.Groups + z.Shape.Column - 1) = 0 := by
    have ho1 : ¬ (oldF z g row xs (z.Shape.Groups + z.Shape.Column - 1) ≠ 0) := c2
    omega
   obtain ⟨hu0, hg, hr, hx, hon, hd⟩ := oldF_ok ho0
   obtain ⟨hs, hG, hO⟩ := worldF_ok (w := z) (upF_ok (w := z) hu0).1
   refine W_reg (sV rfl (py_move rfl) (sV rfl (py_move rfl) (sV rfl (py_move rfl) (s_call (wn rfl) rfl rfl (pc_call Tryz.func119 rfl Tryz_nm119 rfl) (Tryz_spec_l9Old (H7.box 0 rfl) (by assumption) (H7.sees 0 rfl) (H7.sees 1 rfl) (H7.sees 2 rfl) (H7.sees 3 rfl) (by assumption) (by assumption) (by assumption) (by assumption) (by assumption) (by assumption)) (fun v4 w8 r4 => ?_)))))
   obtain ⟨e8, r4⟩ := r4
   obtain ⟨fp1, H9⟩ := H7.res e8 r4
   obtain ⟨a1, k1, q2⟩ := own_slice (H9.mine 2 rfl)
   cases q2
   refine sV rfl (py_buildS Tryz_pl72 rfl rfl) (s_stoS (wn rfl) Tryz.sizeOf72 rfl rfl rfl rfl H9 1 rfl rfl (fun w9 e9 H10 => ?_))
   dsimp only [List.nil_append, List.cons_append, List.set_cons_zero, List.set_cons_succ, layL] at H10
   refine s_nil (W_ret (hQ _ _ (finC Tryz.results52 rfl (run_loadVarS Tryz.underlying72 rfl Tryz.sizeOf72 rfl (At.whole (H10.box 1 rfl))) ?_)))
   rw [oldBytes_ok ho0]
   exact ⟨H10.ext, _, _, rfl, BytesResult.out (x := ⟨0, addG (rowB z g row) xs⟩) (H10.sub (.cons _ (.cons _ (.cons_cons _ List.Sublist.slnil)))) (by show I64ok 0; unfold I64ok; omega)⟩
end Go.Wk
namespace Go.Wk
open Go.Proofs Rp
set_option maxRecDepth 10000
theorem Tryz_laws_markBlockS {w : World} {xs : List Block} {xsA : Option Addr} {xsC : Nat} {k : Int} {fp : List Nat} (o : own true w [.slice xsA xs.length xsC] xs fp) (nd : fp.Nodup) (hk : 0 ≤ k ∧ k + mkL mkBlock xs ≤ 4611686018427387904) : Ret Tryz.prog 224 #[.slice xsA xs.length xsC, .int .i64 k] w fun v w' => (v = .int .i64 (k + mkL mkBlock xs) ∧ ∃ xs', Mut w w' fp [.slice xsA xs.length xsC] xs' ∧ (xs'.length = xs.length ∧ mkL mkBlock xs' = mkL mkBlock xs ∧ MkL MkBlock mkBlock xs' k)) := by
 have len := own_len_le o
 unfold maxLen at len
 refine ret_Q (vs := [.slice xsA xs.length xsC, .int .i64 k]) Tryz.func224 rfl Tryz.ntmps224 rfl (fun Q hQ hN => ?_)
 have H0 := Sep.begin o nd
 refine W_sr (sV rfl (py_assign rfl) (s_nil (W_seq (W_sr (sV rfl (py_assign rfl) (s_nil (W_block (W_loop (γ := Nat × List Block × List Nat) (fun (i, ys, f) => [(0, .slice xsA xs.length xsC), (1, .int .i64 (k + sumN (fun i => mkBlock (xs.getD i default)) i)), (5, .int .i64 i)]) (fun (i, ys, f) w' => Sep (· ∈ fp) w [mine [.slice xsA xs.length xsC] ys f] [] w' ∧ MkInv MkBlock mkBlock xs k i ys ∧ True) (fun (i, ys, f) => xs.length - i) (0, xs, fp) ⟨rfl, eqI (by simp [sumN]), rfl, trivial⟩ ⟨H0, mk_begin, trivial⟩ (fun (i, ys, f) w1 H1 => ?_)))))))))
 obtain ⟨H1, hI, _⟩ := H1
 refine W_seq (W_seq ?_)
 have hiB := hI.1
 have hys := hI.2.1
 refine W_reg (sV rfl (py_move rfl) (sV rfl (py_move rfl) (sV rfl (py_len Tryz.underlying148 rfl) (sV rfl (py_lss rfl rfl) (s_nil (W_ifd rfl (fun c1 => ?_) (fun c1 => ?_)))))))
 ·refine W_skip (W_seq (W_block (W_seq ?_)))
  have hiL : i < xs.length := by omega
  have hat := mk_at hI
  obtain ⟨sg, sl⟩ := mkL_at (c := mkBlock) hiL
  have hci : mkBlock (ys.getD i default) = mkBlock (xs.getD i default) := hI.2.2.1 i
  have hcu : mkBlock (ys.getD i default) = 1 + (ys.getD i default).Bytes.length := rfl
  obtain ⟨eb1, eo1, eT1, eF1, eG1, ea1, ek1, eg1, ee1, eK1, eH1⟩ := Block.focus H1 0 rfl i (by omega)
  have eK1U := eK1
  unfold Block.Ok at eK1U
  try unfold I64ok at eK1U
  try unfold maxLen at eK1U
  try dsimp only [List.nil_append, List.cons_append, List.set_cons_zero, List.set_cons_succ] at eH1
  refine W_reg (sV rfl (py_move rfl) (sV rfl (py_move rfl) (sV rfl (py_move rfl) (sV rfl (py_elz Tryz.underlying148 Tryz.sizeOf152 rfl rfl ee1 i (by omega) (by omega)) (sV rfl (py_field Tryz.underlying152 rfl Tryz.sizeOf2 rfl rfl) (s_hsto (wn rfl) Tryz.sizeOf2 eH1 0 0 rfl rfl rfl rfl rfl (fun w2 H2 => ?_)))))))
  dsimp only [List.nil_append, List.cons_append, List.set_cons_zero, List.set_cons_succ, layL] at H2
  refine s_nil (W_sr (sV rfl (py_move rfl) (sV rfl (py_add rfl rfl (in64 ⟨by omega, by omega⟩)) (sV rfl (py_assign rfl) (s_nil (W_reg (sV rfl (py_move rfl) (sV rfl (py_move rfl) (sV rfl (py_elz Tryz.underlying148 Tryz.sizeOf152 rfl rfl ee1 i (by omega) (by omega)) (sV rfl (py_field Tryz.underlying152 rfl Tryz.sizeOf61 rfl rfl) (sV rfl (py_load Tryz.underlying61 rfl rfl (at_cell (H2.holAt 0 rfl) 1 rfl)) (sV rfl (py_move rfl) (s_call (wn rfl) rfl rfl (pc_call Tryz.func56 rfl Tryz_nm56 rfl) (Tryz_laws_markByteS (H2.mine 2 rfl) (H2.nodup1 (i := 2) rfl) (by constructor <;> omega)) (fun v1 w3 r1 => ?_))))))))))))))
  obtain ⟨rfl, mx1, mm1, ml1, mk1⟩ := r1
  obtain ⟨fp1, H3⟩ := H2.mut 2 rfl mm1
  try dsimp only [List.nil_append, List.cons_append, List.set_cons_zero, List.set_cons_succ] at H3
  refine sV rfl (py_assign rfl) (s_nil (W_reg (sV rfl (py_move rfl) (sV rfl (py_add rfl rfl (in64 ⟨by omega, by omega⟩)) (sV rfl (py_assign rfl) (s_nil ?_))))))
  have okz : (⟨(k + sumN (fun i => mkBlock (xs.getD i default)) i), mx1⟩ : Block).Ok := by unfold Block.Ok I64ok; dsimp only; omega
  obtain ⟨fp2, H4⟩ := Block.fill H3 0 2 rfl rfl rfl okz
  try dsimp only [List.nil_append, List.cons_append, List.set_cons_zero, List.set_cons_succ] at H4
  refine ⟨(i + 1, _, _), ⟨rfl, eqI (by omega), rfl, trivial⟩, ⟨(H4.dtake 1), mk_step hI hiL (by rw [← hci]; unfold mkBlock; dsimp only; omega) ⟨rfl, mk1⟩, trivial⟩, by dsimp only; omega⟩
 ·refine W_exit (W_sr (sV rfl (py_move rfl) (sV rfl (py_assign rfl) (s_nil (W_ret (hQ _ _ (fin1 Tryz.results224 rfl ?_)))))))
  obtain rfl : i = xs.length := by omega
  exact ⟨rfl, _, H1.done, mk_end hI⟩
theorem Tryz_laws_markDriveS {w : World} {xs : List Drive} {xsA : Option Addr} {xsC : Nat} {k : Int} {fp : List Nat} (o : own true w [.slice xsA xs.length xsC] xs fp) (nd : fp.Nodup) (hk : 0 ≤ k ∧ k + mkL mkDrive xs ≤ 4611686018427387904) : Ret Tryz.prog 156 #[.slice xsA xs.length xsC, .int .i64 k] w fun v w' => (v = .int .i64 (k + mkL mkDrive xs) ∧ ∃ xs', Mut w w' fp [.slice xsA xs.length xsC] xs' ∧ (xs'.length = xs.length ∧ mkL mkDrive xs' = mkL mkDrive xs ∧ MkL MkDrive mkDrive xs' k)) := by
 have len := own_len_le o
 unfold maxLen at len
 refine ret_Q (vs := [.slice xsA xs.length xsC, .int .i64 k]) Tryz.func156 rfl Tryz.ntmps156 rfl (fun Q hQ hN => ?_)
 have H0 := Sep.begin o nd
 refine W_sr (sV rfl (py_assign rfl) (s_nil (W_seq (W_sr (sV rfl (py_assign rfl) (s_nil (W_block (W_loop (γ := Nat × List Drive × List Nat) (fun (i, ys, f) => [(0, .slice xsA xs.length xsC), (1, .int .i64 (k + sumN (fun i => mkDrive (xs.getD i default)) i)), (5, .int .i64 i)]) (fun (i, ys, f) w' => Sep (· ∈ fp) w [mine [.slice xsA xs.length xsC] ys f] [] w' ∧ MkInv MkDrive mkDrive xs k i ys ∧ True) (fun (i, ys, f) => xs.length - i) (0, xs, fp) ⟨rfl, eqI (by simp [sumN]), rfl, trivial⟩ ⟨H0, mk_begin, trivial⟩ (fun (i, ys, f) w1 H1 => ?_)))))))))
 obtain ⟨H1, hI, _⟩ := H1
 refine W_seq (W_seq ?_)
 have hiB := hI.1
 have hys := hI.2.1
 refine W_reg (sV rfl (py_move rfl) (sV rfl (py_move rfl) (sV rfl (py_len Tryz.underlying147 rfl) (sV rfl (py_lss rfl rfl) (s_nil (W_ifd rfl (fun c1 => ?_) (fun c1 => ?_)))))))
 ·refine W_skip (W_seq (W_block (W_seq ?_)))
  have hiL : i < xs.length := by omega
  have hat := mk_at hI
  obtain ⟨sg, sl⟩ := mkL_at (c := mkDrive) hiL
  have hci : mkDrive (ys.getD i default) = mkDrive (xs.getD i default) := hI.2.2.1 i
  have hcu : mkDrive (ys.getD i default) = 1 + mkL mkBlock (ys.getD i default).Blocks := rfl
  obtain ⟨eb1, eo1, eT1, eF1, eG1, ea1, ek1, eg1, ee1, eK1, eH1⟩ := Drive.focus H1 0 rfl i (by omega)
  have eK1U := eK1
  unfold Drive.Ok at eK1U
  try unfold I64ok at eK1U
  try unfold maxLen at eK1U
  try dsimp only [List.nil_append, List.cons_append, List.set_cons_zero, List.set_cons_succ] at eH1
  refine W_reg (sV rfl (py_move rfl) (sV rfl (py_move rfl) (sV rfl (py_move rfl) (sV rfl (py_rem rfl rfl (by omega)) (sV rfl (py_eql rfl rfl) (sV rfl (py_elz Tryz.underlying147 Tryz.sizeOf150 rfl rfl ee1 i (by omega) (by omega)) (sV rfl (py_field Tryz.underlying150 rfl Tryz.sizeOf4 rfl rfl) (s_hsto (wn rfl) Tryz.sizeOf4 eH1 0 0 rfl rfl rfl rfl rfl (fun w2 H2 => ?_)))))))))
  dsimp only [List.nil_append, List.cons_append, List.set_cons_zero, List.set_cons_succ, layL] at H2
  refine s_nil (W_sr (sV rfl (py_move rfl) (sV rfl (py_add rfl rfl (in64 ⟨by omega, by omega⟩)) (sV rfl (py_assign rfl) (s_nil (W_reg (sV rfl (py_move rfl) (sV rfl (py_move rfl) (sV rfl (py_elz Tryz.underlying147 Tryz.sizeOf150 rfl rfl ee1 i (by omega) (by omega)) (sV rfl (py_field Tryz.underlying150 rfl Tryz.sizeOf148 rfl rfl) (sV rfl (py_load Tryz.underlying148 rfl rfl (at_cell (H2.holAt 0 rfl) 1 rfl)) (sV rfl (py_move rfl) (s_call (wn rfl) rfl rfl (pc_call Tryz.func224 rfl Tryz_nm224 rfl) (Tryz_laws_markBlockS (H2.mine 2 rfl) (H2.nodup1 (i := 2) rfl) (by constructor <;> omega)) (fun v1 w3 r1 => ?_))))))))))))))
  obtain ⟨rfl, mx1, mm1, ml1⟩ := r1
  obtain ⟨fp1, H3⟩ := H2.mut 2 rfl mm1
  try dsimp only [List.nil_append, List.cons_append, List.set_cons_zero, List.set_cons_succ] at H3
  refine sV rfl (py_assign rfl) (s_nil (W_reg (sV rfl (py_move rfl) (sV rfl (py_add rfl rfl (in64 ⟨by omega, by omega⟩)) (sV rfl (py_assign rfl) (s_nil ?_))))))
  have okz : (⟨decide ((k + sumN (fun i => mkDrive (xs.getD i default)) i).tmod 3 = 0), mx1⟩ : Drive).Ok := trivial
  obtain ⟨fp2, H4⟩ := Drive.fill H3 0 2 rfl rfl rfl okz
  try dsimp only [List.nil_append, List.cons_append, List.set_cons_zero, List.set_cons_succ] at H4
  refine ⟨(i + 1, _, _), ⟨rfl, eqI (by omega), rfl, trivial⟩, ⟨(H4.dtake 1), mk_step hI hiL (by rw [← hci]; unfold mkDrive; dsimp only; rw [ml1.2.1]) ⟨rfl, ml1.2.2⟩, trivial⟩, by dsimp only; omega⟩
 ·refine W_exit (W_sr (sV rfl (py_move rfl) (sV rfl (py_assign rfl) (s_nil (W_ret (hQ _ _ (fin1 Tryz.results156 rfl ?_)))))))
  obtain rfl : i = xs.length := by omega
  exact ⟨rfl, _, H1.done, mk_end hI⟩
theorem Tryz_laws_markDriveSS {w : World} {xs : List (List Drive)} {xsA : Option Addr} {xsC : Nat} {k : Int} {fp : List Nat} (o : own true w [.slice xsA xs.length xsC] xs fp) (nd : fp.Nodup) (hk : 0 ≤ k ∧ k + mkL (mkL mkDrive) xs ≤ 4611686018427387904) : Ret Tryz.prog 88 #[.slice xsA xs.length xsC, .int .i64 k] w fun v w' => (v = .int .i64 (k + mkL (mkL mkDrive) xs) ∧ ∃ xs', Mut w w' fp [.slice xsA xs.length xsC] xs' ∧ (xs'.length = xs.length ∧ mkL (mkL mkDrive) xs' = mkL (mkL mkDrive) xs ∧ MkL (MkL MkDrive mkDrive) (mkL mkDrive) xs' k)) := by
 have len := own_len_le o
 unfold maxLen at len
 refine ret_Q (vs := [.slice xsA xs.length xsC, .int .i64 k]) Tryz.func88 rfl Tryz.ntmps88 rfl (fun Q hQ hN => ?_)
 have H0 := Sep.begin o nd
 refine W_sr (sV rfl (py_assign rfl) (s_nil (W_seq (W_sr (sV rfl (py_assign rfl) (s_nil (W_block (W_loop (γ := Nat × List (List Drive) × List Nat) (fun (i, ys, f) => [(0, .slice xsA xs.length xsC), (1, .int .i64 (k + sumN (fun i => (mkL mkDrive) (xs.getD i default)) i)), (5, .int .i64 i)]) (fun (i, ys, f) w' => Sep (· ∈ fp) w [mine [.slice xsA xs.length xsC] ys f] [] w' ∧ MkInv (MkL MkDrive mkDrive) (mkL mkDrive) xs k i ys ∧ True) (fun (i, ys, f) => xs.length - i) (0, xs, fp) ⟨rfl, eqI (by simp [sumN]), rfl, trivial⟩ ⟨H0, mk_begin, trivial⟩ (fun (i, ys, f) w1 H1 => ?_)))))))))
 obtain ⟨H1, hI, _⟩ := H1
 refine W_seq (W_seq ?_)
 have hiB := hI.1
 have hys := hI.2.1
 refine W_reg (sV rfl (py_move rfl) (sV rfl (py_move rfl) (sV rfl (py_len Tryz.underlying34 rfl) (sV rfl (py_lss rfl rfl) (s_nil (W_ifd rfl (fun c1 => ?_) (fun c1 => ?_)))))))
 ·refine W_skip (W_seq (W_block ?_))
  have hiL : i < xs.length := by omega
  have hat := mk_at hI
  obtain ⟨sg, sl⟩ := mkL_at (c := (mkL mkDrive)) hiL
  have hci : (mkL mkDrive) (ys.getD i default) = (mkL mkDrive) (xs.getD i default) := hI.2.2.1 i
  have hcu : mkL mkDrive (ys.getD i default) = mkL mkDrive (ys.getD i []) := rfl
  obtain ⟨eb1, eo1, eT1, eF1, eG1, ea1, ek1, eg1, ee1, eH1⟩ := H1.focusL 0 rfl i (by omega)
  try dsimp only [List.nil_append, List.cons_append, List.set_cons_zero, List.set_cons_succ] at eH1
  refine W_reg (sV rfl (py_move rfl) (sV rfl (py_move rfl) (sV rfl (py_elz Tryz.underlying34 Tryz.sizeOf147 rfl rfl ee1 i (by omega) (by omega)) (sV rfl (py_load Tryz.underlying147 rfl rfl (at_cell (eH1.holAt 0 rfl) 0 rfl)) (sV rfl (py_move rfl) (s_call (wn rfl) rfl rfl (pc_call Tryz.func156 rfl Tryz_nm156 rfl) (Tryz_laws_markDriveS (eH1.mine 1 rfl) (eH1.nodup1 (i := 1) rfl) (by constructor <;> omega)) (fun v1 w2 r1 => ?_)))))))
  obtain ⟨rfl, mx1, mm1, ml1⟩ := r1
  obtain ⟨fp1, H2⟩ := eH1.mut 1 rfl mm1
  try dsimp only [List.nil_append, List.cons_append, List.set_cons_zero, List.set_cons_succ] at H2
  refine sV rfl (py_assign rfl) (s_nil (W_reg (sV rfl (py_move rfl) (sV rfl (py_add rfl rfl (in64 ⟨by omega, by omega⟩)) (sV rfl (py_assign rfl) (s_nil ?_))))))
  obtain ⟨fp2, H3⟩ := H2.fill 0 1 rfl rfl rfl
  try dsimp only [List.nil_append, List.cons_append, List.set_cons_zero, List.set_cons_succ] at H3
  refine ⟨(i + 1, _, _), ⟨rfl, eqI (by omega), rfl, trivial⟩, ⟨(H3.dtake 1), mk_step hI hiL (by rw [← hci]; exact ml1.2.1) ml1.2.2, trivial⟩, by dsimp only; omega⟩
 ·refine W_exit (W_sr (sV rfl (py_move rfl) (sV rfl (py_assign rfl) (s_nil (W_ret (hQ _ _ (fin1 Tryz.results88 rfl ?_)))))))
  obtain rfl : i = xs.length := by omega
  exact ⟨rfl, _, H1.done, mk_end hI⟩
theorem Tryz_laws_markText {w : World} {k : Int} (hk : -1000 ≤ k ∧ k ≤ 4611686018427388904) : Ret Tryz.prog 204 #[.int .i64 k] w fun v w' => Ext No w w' ∧ (v = .string (mText k) ∧ (mText k).size ≤ maxLen) := by
 refine ret_Q (vs := [.int .i64 k]) Tryz.func204 rfl Tryz.ntmps204 rfl (fun Q hQ hN => ?_)
 have H0 := Sep.start (w := w) (F := []) (by simp)
 refine W_sr (sV rfl (py_assign rfl) (s_nil (W_seq (W_sr (sV rfl (py_move rfl) (sV rfl (py_leq rfl rfl) (s_nil (W_ifd rfl (fun c1 => ?_) (fun c1 => ?_)))))))))
 ·refine W_sr (sV rfl (py_assign rfl) (s_nil (W_ret (hQ _ _ (fin1 Tryz.results204 rfl ?_)))))
  exact ⟨H0.ext, by rw [mText, if_pos (by omega)], by rw [mText, if_pos (by omega)]; exact Nat.le_of_ble_eq_true rfl⟩
 ·refine W_skip (W_sr (sV rfl (py_assign rfl) (s_nil (W_seq (W_block (W_loopS (γ := Nat × Nat × ByteArray) H0 [(2, _)] ⟨rfl, trivial⟩ (fun (f, m, out) => [(0, .int .i64 (m : Nat)), (3, .string out)]) (fun (f, m, out) => (m : Int) ≤ k ∧ m < 10 ^ f ∧ out.size + f ≤ 30 ∧ digits 30 k.toNat ⟨#[]⟩ = digits f m out) (fun (f, m, out) => m) (30, k.toNat, ⟨#[]⟩) ⟨eqI (by omega), rfl, trivial⟩ ⟨by omega, digits_bd (by omega), by decide, rfl⟩ (fun (f, m, out) w1 H1 ⟨hm, hf, ho, hd⟩ => ?_)))))))
  dsimp only [List.cons_append, List.nil_append]
  refine W_seq (W_sr (sV rfl (py_move rfl) (sV rfl (py_gtr rfl rfl) (s_nil (W_ifd rfl (fun c2 => ?_) (fun c2 => ?_))))))
  ·refine W_skip (W_block (W_seq ?_))
   have hb := tmod_bd (a := (m : Int)) (b := 10) (by omega) (by omega)
   refine W_reg (sV rfl (py_move rfl) (sV rfl (py_rem rfl rfl (by omega)) (sV rfl (py_add rfl rfl (in64 ⟨by omega, by omega⟩)) (sV rfl (py_conv8 Tryz.underlying3 Tryz.underlying5 rfl) (s_lit1 (wn rfl) rfl Tryz.underlying61 Tryz_ty5 rfl rfl rfl rfl H1 (fun b1 w2 e1 g1 H2 => ?_))))))
   have H3 := H2.litW 0 rfl (own_b8 (x := u8Of (48 + (m : Int).tmod 10)))
   try dsimp only [List.nil_append, List.cons_append, List.set_cons_zero, List.set_cons_succ] at H3
   refine sV rfl (py_b2s Tryz.underlying61 Tryz.underlying5 Tryz.underlying9 rfl (H3.mine 0 rfl)) ((sV rfl (py_move rfl) (sV rfl (py_sadd rfl rfl (by rw [strB_size]; simp only [List.length_cons, List.length_nil]; omega)) (sV rfl (py_assign rfl) (s_nil ?_)))))
   have hb2 := tdiv_bd (a := (m : Int)) (b := 10) (by omega) (by omega)
   refine W_reg (sV rfl (py_move rfl) (sV rfl (py_quo rfl rfl (by omega) (in64 ⟨by omega, by omega⟩)) (sV rfl (py_assign rfl) (s_nil ?_))))
   rcases f with _ | f
   ·simp at hf; omega
   ·refine ⟨(f, m / 10, strB [UInt8.ofNat (48 + m % 10)] ++ out), ⟨eqI (by rw [Int.tdiv_eq_ediv_of_nonneg (by omega)]; dsimp only; omega), eqStr (by rw [dig_eq]), rfl, trivial⟩, ⟨(H3.dtake 0), by dsimp only; omega, by rw [Nat.pow_succ] at hf; dsimp only; omega, by dsimp only; rw [ByteArray.size_append, strB_size]; simp only [List.length_cons, List.length_nil]; omega, hd.trans (digits_step (by omega))⟩, by dsimp only; omega⟩
  ·refine W_exit (W_seq ?_)
   have h1z : (⟨#[109]⟩ : ByteArray).size = 1 := rfl
   refine W_reg (sV rfl (py_move rfl) (sV rfl (py_sadd rfl rfl (by omega)) (sV rfl (py_assign rfl) (s_nil (W_ret (hQ _ _ (fin1 Tryz.results204 rfl ?_)))))))
   obtain rfl : m = 0 := by omega
   have hq : mText k = ⟨#[109]⟩ ++ out := by rw [mText, if_neg (by omega), hd, digits_zero]
   exact ⟨H1.ext, by rw [hq], by rw [hq, ByteArray.size_append]; unfold maxLen; omega⟩
theorem Tryz_laws_markRecS {w : World} {xs : List Rec} {xsA : Option Addr} {xsC : Nat} {k : Int} {fp : List Nat} (o : own true w [.slice xsA xs.length xsC] xs fp) (nd : fp.Nodup) (hk : 0 ≤ k ∧ k + mkL mkRec xs ≤ 4611686018427387904) : Ret Tryz.prog 133 #[.slice xsA xs.length xsC, .int .i64 k] w fun v w' => (v = .int .i64 (k + mkL mkRec xs) ∧ ∃ xs', Mut w w' fp [.slice xsA xs.length xsC] xs' ∧ (xs'.length = xs.length ∧ mkL mkRec xs' = mkL mkRec xs ∧ MkL MkRec mkRec xs' k)) := by
 have len := own_len_le o
 unfold maxLen at len
 refine ret_Q (vs := [.slice xsA xs.length xsC, .int .i64 k]) Tryz.func133 rfl Tryz.ntmps133 rfl (fun Q hQ hN => ?_)
 have H0 := Sep.begin o nd
 refine W_sr (sV rfl (py_assign rfl) (s_nil (W_seq (W_sr (sV rfl (py_assign rfl) (s_nil (W_block (W_loop (γ := Nat × List Rec × List Nat) (fun (i, ys, f) => [(0, .slice xsA xs.length xsC), (1, .int .i64 (k + sumN (fun i => mkRec (xs.getD i default)) i)), (5, .int .i64 i)]) (fun (i, ys, f) w' => Sep (· ∈ fp) w [mine [.slice xsA xs.length xsC] ys f] [] w' ∧ MkInv MkRec mkRec xs k i ys ∧ True) (fun (i, ys, f) => xs.length - i) (0, xs, fp) ⟨rfl, eqI (by simp [sumN]), rfl, trivial⟩ ⟨H0, mk_begin, trivial⟩ (fun (i, ys, f) w1 H1 => ?_)))))))))
 obtain ⟨H1, hI, _⟩ := H1
 refine W_seq (W_seq ?_)
 have hiB := hI.1
 have hys := hI.2.1
 refine W_reg (sV rfl (py_move rfl) (sV rfl (py_move rfl) (sV rfl (py_len Tryz.underlying82 rfl) (sV rfl (py_lss rfl rfl) (s_nil (W_ifd rfl (fun c1 => ?_) (fun c1 => ?_)))))))
 ·refine W_skip (W_seq (W_block (W_seq ?_)))
  have hiL : i < xs.length := by omega
  have hat := mk_at hI
  obtain ⟨sg, sl⟩ := mkL_at (c := mkRec) hiL
  have hci : mkRec (ys.getD i default) = mkRec (xs.getD i default) := hI.2.2.1 i
  have hcu : mkRec (ys.getD i default) = 6 + (ys.getD i default).Rows.length + (ys.getD i default).Data.length + (ys.getD i default).Delta.length := rfl
  obtain ⟨eb1, eo1, eT1, eF1, eG1, ea1, ek1, ea2, ek2, ea3, ek3, eg1, eg2, eg3, ee1, eK1, eH1⟩ := Rec.focus H1 0 rfl i (by omega)
  have eK1U := eK1
  unfold Rec.Ok at eK1U
  try unfold I64ok at eK1U
  try unfold maxLen at eK1U
  try dsimp only [List.nil_append, List.cons_append, List.set_cons_zero, List.set_cons_succ] at eH1
  refine W_reg (sV rfl (py_move rfl) (sV rfl (py_move rfl) (sV rfl (py_move rfl) (sV rfl (py_elz Tryz.underlying82 Tryz.sizeOf66 rfl rfl ee1 i (by omega) (by omega)) (sV rfl (py_field Tryz.underlying66 rfl Tryz.sizeOf2 rfl rfl) (s_hsto (wn rfl) Tryz.sizeOf2 eH1 0 0 rfl rfl rfl rfl rfl (fun w2 H2 => ?_)))))))
  dsimp only [List.nil_append, List.cons_append, List.set_cons_zero, List.set_cons_succ, layL] at H2
  refine s_nil (W_sr (sV rfl (py_move rfl) (sV rfl (py_add rfl rfl (in64 ⟨by omega, by omega⟩)) (sV rfl (py_assign rfl) (s_nil (W_sr (sV rfl (py_move rfl) (sV rfl (py_move rfl) (sV rfl (py_move rfl) (sV rfl (py_elz Tryz.underlying82 Tryz.sizeOf66 rfl rfl ee1 i (by omega) (by omega)) (sV rfl (py_field Tryz.underlying66 rfl Tryz.sizeOf2 rfl rfl) (s_hsto (wn rfl) Tryz.sizeOf2 H2 0 1 rfl rfl rfl rfl rfl (fun w3 H3 => ?_)))))))))))))
  dsimp only [List.nil_append, List.cons_append, List.set_cons_zero, List.set_cons_succ, layL] at H3
  refine s_nil (W_sr (sV rfl (py_move rfl) (sV rfl (py_add rfl rfl (in64 ⟨by omega, by omega⟩)) (sV rfl (py_assign rfl) (s_nil (W_sr (sV rfl (py_move rfl) (sV rfl (py_move rfl) (sV rfl (py_move rfl) (s_call (wn rfl) rfl rfl (pc_call Tryz.func204 rfl Tryz_nm204 rfl) (Tryz_laws_markText (by omega)) (fun v1 w4 r1 => ?_)))))))))))
  obtain ⟨e3, rfl, mt1⟩ := r1
  have H4 := H3.to e3
  refine sV rfl (py_elz Tryz.underlying82 Tryz.sizeOf66 rfl rfl ee1 i (by omega) (by omega)) (sV rfl (py_field Tryz.underlying66 rfl Tryz.sizeOf9 rfl rfl) (s_hsto (wn rfl) Tryz.sizeOf9 H4 0 2 rfl rfl rfl rfl rfl (fun w5 H5 => ?_)))
  dsimp only [List.nil_append, List.cons_append, List.set_cons_zero, List.set_cons_succ, layL] at H5
  refine s_nil (W_sr (sV rfl (py_move rfl) (sV rfl (py_add rfl rfl (in64 ⟨by omega, by omega⟩)) (sV rfl (py_assign rfl) (s_nil (W_sr (sV rfl (py_move rfl) (sV rfl (py_move rfl) (sV rfl (py_move rfl) (sV rfl (py_elz Tryz.underlying82 Tryz.sizeOf66 rfl rfl ee1 i (by omega) (by omega)) (sV rfl (py_field Tryz.underlying66 rfl Tryz.sizeOf2 rfl rfl) (s_hsto (wn rfl) Tryz.sizeOf2 H5 0 3 rfl rfl rfl rfl rfl (fun w6 H6 => ?_)))))))))))))
  dsimp only [List.nil_append, List.cons_append, List.set_cons_zero, List.set_cons_succ, layL] at H6
  refine s_nil (W_sr (sV rfl (py_move rfl) (sV rfl (py_add rfl rfl (in64 ⟨by omega, by omega⟩)) (sV rfl (py_assign rfl) (s_nil (W_sr (sV rfl (py_move rfl) (sV rfl (py_move rfl) (sV rfl (py_move rfl) (sV rfl (py_elz Tryz.underlying82 Tryz.sizeOf66 rfl rfl ee1 i (by omega) (by omega)) (sV rfl (py_field Tryz.underlying66 rfl Tryz.sizeOf2 rfl rfl) (s_hsto (wn rfl) Tryz.sizeOf2 H6 0 4 rfl rfl rfl rfl rfl (fun w7 H7 => ?_)))))))))))))
  dsimp only [List.nil_append, List.cons_append, List.set_cons_zero, List.set_cons_succ, layL] at H7
  refine s_nil (W_sr (sV rfl (py_move rfl) (sV rfl (py_add rfl rfl (in64 ⟨by omega, by omega⟩)) (sV rfl (py_assign rfl) (s_nil (W_sr (sV rfl (py_move rfl) (sV rfl (py_move rfl) (sV rfl (py_move rfl) (sV rfl (py_elz Tryz.underlying82 Tryz.sizeOf66 rfl rfl ee1 i (by omega) (by omega)) (sV rfl (py_field Tryz.underlying66 rfl Tryz.sizeOf2 rfl rfl) (s_hsto (wn rfl) Tryz.sizeOf2 H7 0 5 rfl rfl rfl rfl rfl (fun w8 H8 => ?_)))))))))))))
  dsimp only [List.nil_append, List.cons_append, List.set_cons_zero, List.set_cons_succ, layL] at H8
  refine s_nil (W_sr (sV rfl (py_move rfl) (sV rfl (py_add rfl rfl (in64 ⟨by omega, by omega⟩)) (sV rfl (py_assign rfl) (s_nil (W_sr (sV rfl (py_move rfl) (sV rfl (py_move rfl) (sV rfl (py_elz Tryz.underlying82 Tryz.sizeOf66 rfl rfl ee1 i (by omega) (by omega)) (sV rfl (py_field Tryz.underlying66 rfl Tryz.sizeOf25 rfl rfl) (sV rfl (py_load Tryz.underlying25 rfl rfl (at_cell (H8.holAt 0 rfl) 6 rfl)) (sV rfl (py_move rfl) (s_call (wn rfl) rfl rfl (pc_call Tryz.func89 rfl Tryz_nm89 rfl) (Tryz_laws_markInt64S (H8.mine 2 rfl) (H8.nodup1 (i := 2) rfl) (by constructor <;> omega)) (fun v2 w9 r2 => ?_))))))))))))))
  obtain ⟨rfl, mx1, mm1, ml1, mk1⟩ := r2
  obtain ⟨fp1, H9⟩ := H8.mut 2 rfl mm1
  try dsimp only [List.nil_append, List.cons_append, List.set_cons_zero, List.set_cons_succ] at H9
  refine sV rfl (py_assign rfl) (s_nil (W_sr (sV rfl (py_move rfl) (sV rfl (py_move rfl) (sV rfl (py_elz Tryz.underlying82 Tryz.sizeOf66 rfl rfl ee1 i (by omega) (by omega)) (sV rfl (py_field Tryz.underlying66 rfl Tryz.sizeOf61 rfl rfl) (sV rfl (py_load Tryz.underlying61 rfl rfl (at_cell (H9.holAt 0 rfl) 7 rfl)) (sV rfl (py_move rfl) (s_call (wn rfl) rfl rfl (pc_call Tryz.func56 rfl Tryz_nm56 rfl) (Tryz_laws_markByteS (H9.mine 3 rfl) (H9.nodup1 (i := 3) rfl) (by constructor <;> omega)) (fun v3 w10 r3 => ?_))))))))))
  obtain ⟨rfl, mx2, mm2, ml2, mk2⟩ := r3
  obtain ⟨fp2, H10⟩ := H9.mut 3 rfl mm2
  try dsimp only [List.nil_append, List.cons_append, List.set_cons_zero, List.set_cons_succ] at H10
  refine sV rfl (py_assign rfl) (s_nil (W_reg (sV rfl (py_move rfl) (sV rfl (py_move rfl) (sV rfl (py_elz Tryz.underlying82 Tryz.sizeOf66 rfl rfl ee1 i (by omega) (by omega)) (sV rfl (py_field Tryz.underlying66 rfl Tryz.sizeOf61 rfl rfl) (sV rfl (py_load Tryz.underlying61 rfl rfl (at_cell (H10.holAt 0 rfl) 8 rfl)) (sV rfl (py_move rfl) (s_call (wn rfl) rfl rfl (pc_call Tryz.func56 rfl Tryz_nm56 rfl) (Tryz_laws_markByteS (H10.mine 4 rfl) (H10.nodup1 (i := 4) rfl) (by constructor <;> omega)) (fun v4 w11 r4 => ?_))))))))))
  obtain ⟨rfl, mx3, mm3, ml3, mk3⟩ := r4
  obtain ⟨fp3, H11⟩ := H10.mut 4 rfl mm3
  try dsimp only [List.nil_append, List.cons_append, List.set_cons_zero, List.set_cons_succ] at H11
  refine sV rfl (py_assign rfl) (s_nil (W_reg (sV rfl (py_move rfl) (sV rfl (py_add rfl rfl (in64 ⟨by omega, by omega⟩)) (sV rfl (py_assign rfl) (s_nil ?_))))))
  have okz : (⟨(k + sumN (fun i => mkRec (xs.getD i default)) i), (k + sumN (fun i => mkRec (xs.getD i default)) i) + 1, mText ((k + sumN (fun i => mkRec (xs.getD i default)) i) + 1 + 1), (k + sumN (fun i => mkRec (xs.getD i default)) i) + 1 + 1 + 1, (k + sumN (fun i => mkRec (xs.getD i default)) i) + 1 + 1 + 1 + 1, (k + sumN (fun i => mkRec (xs.getD i default)) i) + 1 + 1 + 1 + 1 + 1, mx1, mx2, mx3⟩ : Rec).Ok := by unfold Rec.Ok I64ok; dsimp only; omega
  obtain ⟨fp4, H12⟩ := Rec.fill H11 0 2 3 4 rfl rfl rfl rfl rfl rfl rfl rfl rfl rfl okz
  try dsimp only [List.nil_append, List.cons_append, List.set_cons_zero, List.set_cons_succ] at H12
  refine ⟨(i + 1, _, _), ⟨rfl, eqI (by omega), rfl, trivial⟩, ⟨(H12.dtake 1), mk_step hI hiL (by rw [← hci]; unfold mkRec; dsimp only; omega) (by
   refine ⟨rfl, rfl, ?_, by dsimp only; omega, by dsimp only; omega, by dsimp only; omega, ?_, ?_, ?_⟩
   ·dsimp only; congr 1; omega
   ·have := mk1; dsimp only; rwa [show (k + sumN (fun i => mkRec (xs.getD i default)) i) + 1 + 1 + 1 + 1 + 1 + 1 = (k + sumN (fun i => mkRec (xs.getD i default)) i) + 6 by omega] at this
   ·have := mk2; dsimp only; rwa [show (k + sumN (fun i => mkRec (xs.getD i default)) i) + 1 + 1 + 1 + 1 + 1 + 1 + ((ys.getD i default).Rows.length : Int) = (k + sumN (fun i => mkRec (xs.getD i default)) i) + 6 + mx1.length by omega] at this
   ·have := mk3; dsimp only; rwa [show (k + sumN (fun i => mkRec (xs.getD i default)) i) + 1 + 1 + 1 + 1 + 1 + 1 + ((ys.getD i default).Rows.length : Int) + ((ys.getD i default).Data.length : Int) = (k + sumN (fun i => mkRec (xs.getD i default)) i) + 6 + mx1.length + mx2.length by omega] at this), trivial⟩, by dsimp only; omega⟩
 ·refine W_exit (W_sr (sV rfl (py_move rfl) (sV rfl (py_assign rfl) (s_nil (W_ret (hQ _ _ (fin1 Tryz.results133 rfl ?_)))))))
  obtain rfl : i = xs.length := by omega
  exact ⟨rfl, _, H1.done, mk_end hI⟩
theorem Tryz_laws_markTapeS {w : World} {xs : List Tape} {xsA : Option Addr} {xsC : Nat} {k : Int} {fp : List Nat} (o : own true w [.slice xsA xs.length xsC] xs fp) (nd : fp.Nodup) (hk : 0 ≤ k ∧ k + mkL mkTape xs ≤ 4611686018427387904) : Ret Tryz.prog 90 #[.slice xsA xs.length xsC, .int .i64 k] w fun v w' => (v = .int .i64 (k + mkL mkTape xs) ∧ ∃ xs', Mut w w' fp [.slice xsA xs.length xsC] xs' ∧ (xs'.length = xs.length ∧ mkL mkTape xs' = mkL mkTape xs ∧ MkL MkTape mkTape xs' k)) := by
 have len := own_len_le o
 unfold maxLen at len
 refine ret_Q (vs := [.slice xsA xs.length xsC, .int .i64 k]) Tryz.func90 rfl Tryz.ntmps90 rfl (fun Q hQ hN => ?_)
 have H0 := Sep.begin o nd
 refine W_sr (sV rfl (py_assign rfl) (s_nil (W_seq (W_sr (sV rfl (py_assign rfl) (s_nil (W_block (W_loop (γ := Nat × List Tape × List Nat) (fun (i, ys, f) => [(0, .slice xsA xs.length xsC), (1, .int .i64 (k + sumN (fun i => mkTape (xs.getD i default)) i)), (5, .int .i64 i)]) (fun (i, ys, f) w' => Sep (· ∈ fp) w [mine [.slice xsA xs.length xsC] ys f] [] w' ∧ MkInv MkTape mkTape xs k i ys ∧ True) (fun (i, ys, f) => xs.length - i) (0, xs, fp) ⟨rfl, eqI (by simp [sumN]), rfl, trivial⟩ ⟨H0, mk_begin, trivial⟩ (fun (i, ys, f) w1 H1 => ?_)))))))))
 obtain ⟨H1, hI, _⟩ := H1
 refine W_seq (W_seq ?_)
 have hiB := hI.1
 have hys := hI.2.1
 refine W_reg (sV rfl (py_move rfl) (sV rfl (py_move rfl) (sV rfl (py_len Tryz.underlying35 rfl) (sV rfl (py_lss rfl rfl) (s_nil (W_ifd rfl (fun c1 => ?_) (fun c1 => ?_)))))))
 ·refine W_skip (W_seq (W_block (W_seq ?_)))
  have hiL : i < xs.length := by omega
  have hat := mk_at hI
  obtain ⟨sg, sl⟩ := mkL_at (c := mkTape) hiL
  have hci : mkTape (ys.getD i default) = mkTape (xs.getD i default) := hI.2.2.1 i
  have hcu : mkTape (ys.getD i default) = 1 + mkL mkRec (ys.getD i default).Recs := rfl
  obtain ⟨eb1, eo1, eT1, eF1, eG1, ea1, ek1, eg1, ee1, eK1, eH1⟩ := Tape.focus H1 0 rfl i (by omega)
  have eK1U := eK1
  unfold Tape.Ok at eK1U
  try unfold I64ok at eK1U
  try unfold maxLen at eK1U
  try dsimp only [List.nil_append, List.cons_append, List.set_cons_zero, List.set_cons_succ] at eH1
  refine W_reg (sV rfl (py_move rfl) (sV rfl (py_move rfl) (sV rfl (py_move rfl) (sV rfl (py_rem rfl rfl (by omega)) (sV rfl (py_eql rfl rfl) (sV rfl (py_elz Tryz.underlying35 Tryz.sizeOf155 rfl rfl ee1 i (by omega) (by omega)) (sV rfl (py_field Tryz.underlying155 rfl Tryz.sizeOf4 rfl rfl) (s_hsto (wn rfl) Tryz.sizeOf4 eH1 0 0 rfl rfl rfl rfl rfl (fun w2 H2 => ?_)))))))))
  dsimp only [List.nil_append, List.cons_append, List.set_cons_zero, List.set_cons_succ, layL] at H2
  refine s_nil (W_sr (sV rfl (py_move rfl) (sV rfl (py_add rfl rfl (in64 ⟨by omega, by omega⟩)) (sV rfl (py_assign rfl) (s_nil (W_reg (sV rfl (py_move rfl) (sV rfl (py_move rfl) (sV rfl (py_elz Tryz.underlying35 Tryz.sizeOf155 rfl rfl ee1 i (by omega) (by omega)) (sV rfl (py_field Tryz.underlying155 rfl Tryz.sizeOf82 rfl rfl) (sV rfl (py_load Tryz.underlying82 rfl rfl (at_cell (H2.holAt 0 rfl) 1 rfl)) (sV rfl (py_move rfl) (s_call (wn rfl) rfl rfl (pc_call Tryz.func133 rfl Tryz_nm133 rfl) (Tryz_laws_markRecS (H2.mine 2 rfl) (H2.nodup1 (i := 2) rfl) (by constructor <;> omega)) (fun v1 w3 r1 => ?_))))))))))))))
  obtain ⟨rfl, mx1, mm1, ml1⟩ := r1
  obtain ⟨fp1, H3⟩ := H2.mut 2 rfl mm1
  try dsimp only [List.nil_append, List.cons_append, List.set_cons_zero, List.set_cons_succ] at H3
  refine sV rfl (py_assign rfl) (s_nil (W_reg (sV rfl (py_move rfl) (sV rfl (py_add rfl rfl (in64 ⟨by omega, by omega⟩)) (sV rfl (py_assign rfl) (s_nil ?_))))))
  have okz : (⟨decide ((k + sumN (fun i => mkTape (xs.getD i default)) i).tmod 3 = 0), mx1⟩ : Tape).Ok := trivial
  obtain ⟨fp2, H4⟩ := Tape.fill H3 0 2 rfl rfl rfl okz
  try dsimp only [List.nil_append, List.cons_append, List.set_cons_zero, List.set_cons_succ] at H4
  refine ⟨(i + 1, _, _), ⟨rfl, eqI (by omega), rfl, trivial⟩, ⟨(H4.dtake 1), mk_step hI hiL (by rw [← hci]; unfold mkTape; dsimp only; rw [ml1.2.1]) ⟨rfl, ml1.2.2⟩, trivial⟩, by dsimp only; omega⟩
 ·refine W_exit (W_sr (sV rfl (py_move rfl) (sV rfl (py_assign rfl) (s_nil (W_ret (hQ _ _ (fin1 Tryz.results90 rfl ?_)))))))
  obtain rfl : i = xs.length := by omega
  exact ⟨rfl, _, H1.done, mk_end hI⟩
end Go.Wk
namespace Go.Wk
open Go.Proofs Rp
set_option maxRecDepth 10000
theorem Tryz_laws_markWorld {w : World} {x : Wld} {xA9 : Option Addr} {xC9 : Nat} {xA10 : Option Addr} {xC10 : Nat} {xA11 : Option Addr} {xC11 : Nat} {k : Int} {fp : List Nat} (xK : x.Ok) (o : own true w [.int .i64 x.Shape.Groups, .int .i64 x.Shape.Column, .int .i64 x.Shape.Data, .int .i64 x.Shape.Spare, .int .i64 x.Shape.Rows, .int .i64 x.Shape.Cap, .int .i64 x.Shape.Batch, .int .i64 x.Shape.Queue, .int .i64 x.Shape.Stage, .slice xA9 x.Groups.length xC9, .slice xA10 x.On.length xC10, .slice xA11 x.Tapes.length xC11, .int .i64 x.Writes, .int .i64 x.Stop, .bool x.Down] x fp) (nd : fp.Nodup) (hk : 0 ≤ k ∧ k + mkWld x ≤ 4611686018427387904) : Ret Tryz.prog 24 #[x.val xA9 xC9 xA10 xC10 xA11 xC11, .int .i64 k] w fun v w' => (v = .int .i64 (k + mkWld x) ∧ ∃ x' : Wld, Mut w w' fp [.int .i64 x.Shape.Groups, .int .i64 x.Shape.Column, .int .i64 x.Shape.Data, .int .i64 x.Shape.Spare, .int .i64 x.Shape.Rows, .int .i64 x.Shape.Cap, .int .i64 x.Shape.Batch, .int .i64 x.Shape.Queue, .int .i64 x.Shape.Stage, .slice xA9 x.Groups.length xC9, .slice xA10 x.On.length xC10, .slice xA11 x.Tapes.length xC11, .int .i64 x.Writes, .int .i64 x.Stop, .bool x.Down] x' ∧ (x'.Groups.length = x.Groups.length ∧ x'.On.length = x.On.length ∧ x'.Tapes.length = x.Tapes.length ∧ mkWld x' = mkWld x ∧ MkWld x' k ∧ x'.Shape = x.Shape ∧ x'.Writes = x.Writes ∧ x'.Stop = x.Stop ∧ x'.Down = x.Down)) := by
 unfold mkWld at hk
 refine ret_Q (vs := [x.val xA9 xC9 xA10 xC10 xA11 xC11, .int .i64 k]) Tryz.func24 rfl Tryz.ntmps24 rfl (fun Q hQ hN => ?_)
 obtain ⟨f9, f10, f11, ef, ok, o9, o10, o11⟩ := own_WldC o
 have H0 := (Sep.begin o nd).part 0 rfl [mine [.slice xA9 x.Groups.length xC9] x.Groups f9, mine [.slice xA10 x.On.length xC10] x.On f10, mine [.slice xA11 x.Tapes.length xC11] x.Tapes f11] (all_cons o9 (all_cons o10 (all_cons o11 (by simp)))) (by simp [blocks, mine, ef])
 try dsimp only [List.nil_append, List.cons_append, List.set_cons_zero, List.set_cons_succ] at H0
 refine W_sr (s_box (wn rfl) rfl rfl H0 (fun b1 w1 e1 g1 H1 => ?_))
 refine sV rfl (py_assign rfl) (s_nil (W_sr (sV rfl (py_field Tryz.underlying37 rfl Tryz.sizeOf34 rfl rfl) (sV rfl (py_load Tryz.underlying34 rfl rfl (cell_atL (H1.box 4 rfl) rfl)) (sV rfl (py_move rfl) (s_call (wn rfl) rfl rfl (pc_call Tryz.func88 rfl Tryz_nm88 rfl) (Tryz_laws_markDriveSS (H1.mine 1 rfl) (H1.nodup1 (i := 1) rfl) (by constructor <;> omega)) (fun v1 w2 r1 => ?_)))))))
 obtain ⟨rfl, mx1, mm1, ml1⟩ := r1
 obtain ⟨fp1, H2⟩ := H1.mut 1 rfl mm1
 try dsimp only [List.nil_append, List.cons_append, List.set_cons_zero, List.set_cons_succ] at H2
 refine sV rfl (py_assign rfl) (s_nil (W_sr (sV rfl (py_field Tryz.underlying37 rfl Tryz.sizeOf25 rfl rfl) (sV rfl (py_load Tryz.underlying25 rfl rfl (cell_atL (H2.box 4 rfl) rfl)) (sV rfl (py_move rfl) (s_call (wn rfl) rfl rfl (pc_call Tryz.func89 rfl Tryz_nm89 rfl) (Tryz_laws_markInt64S (H2.mine 2 rfl) (H2.nodup1 (i := 2) rfl) (by constructor <;> omega)) (fun v2 w3 r2 => ?_)))))))
 obtain ⟨rfl, mx2, mm2, ml2, mk1⟩ := r2
 obtain ⟨fp2, H3⟩ := H2.mut 2 rfl mm2
 try dsimp only [List.nil_append, List.cons_append, List.set_cons_zero, List.set_cons_succ] at H3
 refine sV rfl (py_assign rfl) (s_nil (W_sr (sV rfl (py_field Tryz.underlying37 rfl Tryz.sizeOf35 rfl rfl) (sV rfl (py_load Tryz.underlying35 rfl rfl (cell_atL (H3.box 4 rfl) rfl)) (sV rfl (py_move rfl) (s_call (wn rfl) rfl rfl (pc_call Tryz.func90 rfl Tryz_nm90 rfl) (Tryz_laws_markTapeS (H3.mine 3 rfl) (H3.nodup1 (i := 3) rfl) (by constructor <;> omega)) (fun v3 w4 r3 => ?_)))))))
 obtain ⟨rfl, mx3, mm3, ml3⟩ := r3
 obtain ⟨fp3, H4⟩ := H3.mut 3 rfl mm3
 try dsimp only [List.nil_append, List.cons_append, List.set_cons_zero, List.set_cons_succ] at H4
 refine sV rfl (py_assign rfl) (s_nil (W_sr (sV rfl (py_move rfl) (sV rfl (py_assign rfl) (s_nil (W_ret (hQ _ _ (fin1 Tryz.results24 rfl ?_))))))))
 exact ⟨congrArg (Value.int .i64) (by unfold mkWld; omega), Wld.mkOut ok (H4.dtake 4) ml1 ml2 mk1 ml3⟩
end Go.Wk
namespace Go.Wk
open Go.Proofs Rp
set_option maxRecDepth 10000
theorem Tryz_laws_FnExactOldBytes {w : World} {z : Wld} {zA9 : Option Addr} {zC9 : Nat} {zA10 : Option Addr} {zC10 : Nat} {zA11 : Option Addr} {zC11 : Nat} {g : Int} {row : Int} {xs : List UInt8} {xsA : Option Addr} {xsC : Nat} (zK : z.Ok) (zS9 : Sees w [.slice zA9 z.Groups.length zC9] z.Groups) (zS10 : Sees w [.slice zA10 z.On.length zC10] z.On) (zS11 : Sees w [.slice zA11 z.Tapes.length zC11] z.Tapes) (xsS : Sees w [.slice xsA xs.length xsC] xs) : Ret Tryz.prog 11 #[z.val zA9 zC9 zA10 zC10 zA11 zC11, .int .i64 g, .int .i64 row, .slice xsA xs.length xsC] w fun v w' => Ext No w w' ∧ (v = .bool true) := by
 have zK2 := zK
 unfold Wld.Ok Shape.Ok at zK2
 try unfold I64ok at zK2
 try unfold maxLen at zK2
 have zL9 := sees_len zS9
 unfold maxLen at zL9
 obtain ⟨zF9, zO9⟩ := zS9
 have zL10 := sees_len zS10
 unfold maxLen at zL10
 obtain ⟨zF10, zO10⟩ := zS10
 have zL11 := sees_len zS11
 unfold maxLen at zL11
 obtain ⟨zF11, zO11⟩ := zS11
 have xsL := sees_len xsS
 unfold maxLen at xsL
 obtain ⟨xsF, xsO⟩ := xsS
 refine ret_Q (vs := [z.val zA9 zC9 zA10 zC10 zA11 zC11, .int .i64 g, .int .i64 row, .slice xsA xs.length xsC]) Tryz.func11 rfl Tryz.ntmps11 rfl (fun Q hQ hN => ?_)
 have H0 := Sep.start (w := w) (F := [seen false [.slice zA9 z.Groups.length zC9] z.Groups zF9, seen false [.slice zA10 z.On.length zC10] z.On zF10, seen false [.slice zA11 z.Tapes.length zC11] z.Tapes zF11, seen false [.slice xsA xs.length xsC] xs xsF]) (all_cons zO9 (all_cons zO10 (all_cons zO11 (all_cons xsO (by simp)))))
 refine W_sr (s_box (wn rfl) rfl rfl H0 (fun b1 w1 e1 g1 H1 => ?_))
 refine sV rfl (py_assign rfl) (s_nil (W_seq (W_sr (sV rfl (py_move rfl) (sV rfl (py_len Tryz.underlying61 rfl) (sV rfl (py_gtr rfl rfl) (s_nil (W_ifd rfl (fun c1 => ?_) (fun c1 => ?_)))))))))
 ·refine W_sr (sV rfl (py_assign rfl) (s_nil (W_ret (hQ _ _ (fin1 Tryz.results11 rfl ?_)))))
  exact ⟨H1.ext, rfl⟩
 ·refine W_skip (W_sr (sV rfl (py_assign rfl) (s_nil (W_sr (sV rfl (py_loadS Tryz.underlying28 rfl Tryz.sizeOf28 rfl rfl (At.whole (H1.box 0 rfl))) (sV rfl (py_move rfl) (s_call (wn rfl) rfl rfl (pc_call Tryz.func15 rfl Tryz_nm15 rfl) (Tryz_laws_szWorld (by assumption) (H1.sees 0 rfl) (H1.sees 1 rfl) (H1.sees 2 rfl) (by omega)) (fun v1 w2 r1 => ?_))))))))
  obtain ⟨e2, rfl⟩ := r1
  have H2 := H1.to e2
  refine sV rfl (py_assign rfl) (s_nil (W_seq (W_sr (sV rfl (py_move rfl) (sV rfl (py_lss rfl rfl) (s_nil (W_ifd rfl (fun c2 => ?_) (fun c2 => ?_))))))))
  ·refine W_sr (sV rfl (py_assign rfl) (s_nil (W_ret (hQ _ _ (fin1 Tryz.results11 rfl ?_)))))
   exact ⟨H2.ext, rfl⟩
  ·refine W_skip (W_seq ?_)
   have hsz : szWld z ≤ 1048576 := by omega
   have hmk := mkWld_le z
   have cnt := oldBytes_len (z := z) (g := g) (row := row) (xs := xs)
   have hOk := oldBytes_Ok (z := z) (g := g) (row := row) (xs := xs)
   refine W_reg (sV rfl (py_loadS Tryz.underlying28 rfl Tryz.sizeOf28 rfl rfl (At.whole (H2.box 0 rfl))) (s_call (wn rfl) rfl rfl (pc_call Tryz.func17 rfl Tryz_nm17 rfl) (Tryz_laws_toWorld (by assumption) (H2.sees 0 rfl) (H2.sees 1 rfl) (H2.sees 2 rfl) (by assumption)) (fun v2 w3 r2 => ?_)))
   obtain ⟨e3, sa1, sk1, sa2, sk2, sa3, sk3, rfl, r2⟩ := r2
   obtain ⟨fp1, H3⟩ := H2.res e3 r2
   have H4 := H3.share 1 rfl
   obtain ⟨sf1, sf2, sf3, sq1, sok1, so1, so2, so3⟩ := own_WldC (H4.seen 4 rfl)
   have H6 := H4.look1 4 rfl so1 (fun b hb => by rw [sq1]; simp [hb])
   have H7 := H6.look1 4 rfl so2 (fun b hb => by rw [sq1]; simp [hb])
   have H8 := H7.look1 4 rfl so3 (fun b hb => by rw [sq1]; simp [hb])
   refine sV rfl (py_move rfl) (sV rfl (py_move rfl) (sV rfl (py_move rfl) (s_call (wn rfl) rfl rfl (pc_call Tryz.func53 rfl Tryz_nm53 rfl) (Tryz_laws_toByteS (H8.sees 3 rfl) (by omega)) (fun v3 w4 r3 => ?_))))
   obtain ⟨e4, r3⟩ := r3
   obtain ⟨fp2, H9⟩ := H8.res e4 r3
   obtain ⟨a1, k1, q1⟩ := own_slice (H9.mine 2 rfl)
   cases q1
   refine s_call (wn rfl) rfl rfl (pc_call Tryz.func52 rfl Tryz_nm52 rfl) (Tryz_spec_OldBytes (by assumption) (H9.sees 5 rfl) (H9.sees 6 rfl) (H9.sees 7 rfl) (H9.msees 2 rfl)) (fun v4 w5 r4 => ?_)
   obtain ⟨e5, sa4, sk4, rfl, r4⟩ := r4
   obtain ⟨fp3, H10⟩ := H9.res e5 r4
   have H11 := H10.share 3 rfl
   obtain ⟨sf4, sq2, sok2, so4⟩ := own_BytesResultC (H11.seen 8 rfl)
   have H13 := H11.look1 8 rfl so4 (fun b hb => by rw [sq2]; simp [hb])
   refine s_var (wn rfl) rfl Tryz.zeroValue72 H13 (fun b2 w6 e6 g2 H14 => ?_)
   refine s_stoS (wn rfl) Tryz.sizeOf72 rfl rfl rfl rfl H14 4 rfl rfl (fun w7 e7 H15 => ?_)
   dsimp only [List.nil_append, List.cons_append, List.set_cons_zero, List.set_cons_succ, layL] at H15
   refine s_nil (W_sr (sV rfl (py_loadS Tryz.underlying28 rfl Tryz.sizeOf28 rfl rfl (At.whole (H15.box 0 rfl))) (s_call (wn rfl) rfl rfl (pc_call Tryz.func17 rfl Tryz_nm17 rfl) (Tryz_laws_toWorld (by assumption) (H15.sees 0 rfl) (H15.sees 1 rfl) (H15.sees 2 rfl) (by assumption)) (fun v5 w8 r5 => ?_))))
   obtain ⟨e8, sa5, sk5, sa6, sk6, sa7, sk7, rfl, r5⟩ := r5
   obtain ⟨fp4, H16⟩ := H15.res e8 r5
   refine s_var (wn rfl) rfl Tryz.zeroValue37 H16 (fun b3 w9 e9 g3 H17 => ?_)
   refine s_stoS (wn rfl) Tryz.sizeOf37 rfl rfl rfl rfl H17 6 rfl rfl (fun w10 e10 H18 => ?_)
   dsimp only [List.nil_append, List.cons_append, List.set_cons_zero, List.set_cons_succ, layL] at H18
   refine s_nil (W_sr (sV rfl (py_move rfl) (s_call (wn rfl) rfl rfl (pc_call Tryz.func53 rfl Tryz_nm53 rfl) (Tryz_laws_toByteS (H18.sees 3 rfl) (by omega)) (fun v6 w11 r6 => ?_))))
   obtain ⟨e11, r6⟩ := r6
   obtain ⟨fp5, H19⟩ := H18.res e11 r6
   obtain ⟨a2, k2, q2⟩ := own_slice (H19.mine 7 rfl)
   cases q2
   refine sV rfl (py_assign rfl) (s_nil (W_sr (sV rfl (py_loadS Tryz.underlying37 rfl Tryz.sizeOf37 rfl rfl (At.whole (H19.box 6 rfl))) (sV rfl (py_move rfl) (sV rfl (py_move rfl) (sV rfl (py_move rfl) (s_call (wn rfl) rfl rfl (pc_call Tryz.func54 rfl Tryz_nm54 rfl) (Tryz_impl_OldBytes (by assumption) (Wld.see9 (H19.mine 5 rfl)) (Wld.see10 (H19.mine 5 rfl)) (Wld.see11 (H19.mine 5 rfl)) (H19.msees 7 rfl)) (fun v7 w12 r7 => ?_))))))))
   obtain ⟨e12, sa8, sk8, rfl, r7⟩ := r7
   obtain ⟨fp6, H20⟩ := H19.res e12 r7
   obtain ⟨sf5, sq3, sok3, so5⟩ := own_BytesResultC (H20.mine 8 rfl)
   have H21 := H20.part 8 rfl [mine [.slice _ (oldBytes z g row xs).Bytes.length _] (oldBytes z g row xs).Bytes sf5] (all_cons so5 (by simp)) (by simp [blocks, mine, sq3])
   try dsimp only [List.nil_append, List.cons_append, List.set_cons_zero, List.set_cons_succ] at H21
   refine s_var (wn rfl) rfl Tryz.zeroValue72 H21 (fun b4 w13 e13 g4 H22 => ?_)
   refine s_stoS (wn rfl) Tryz.sizeOf72 rfl rfl rfl rfl H22 10 rfl rfl (fun w14 e14 H23 => ?_)
   dsimp only [List.nil_append, List.cons_append, List.set_cons_zero, List.set_cons_succ, layL] at H23
   refine s_nil (W_seq (W_sr (sV rfl (py_loadS Tryz.underlying72 rfl Tryz.sizeOf72 rfl rfl (At.whole (H23.box 10 rfl))) (sV rfl (py_loadS Tryz.underlying72 rfl Tryz.sizeOf72 rfl rfl (At.whole (H23.box 4 rfl))) (s_call (wn rfl) rfl rfl (pc_call Tryz.func47 rfl Tryz_nm47 rfl) (Tryz_laws_eqBytesResult (by assumption) (H23.msees 9 rfl) (by assumption) (H23.sees 9 rfl)) (fun v8 w15 r8 => ?_))))))
   obtain ⟨e15, rfl⟩ := r8
   have H24 := H23.to e15
   refine sV rfl (py_not rfl) (s_nil (W_if rfl (fun c3 => ?_) (fun c3 => ?_)))
   ·exfalso; simp_all
   ·refine W_skip (W_seq (W_seq (W_drw (S := Ext No _) [(0, true), (1, true), (2, false), (3, false), (4, false)] (by kernel_rfl) (by kernel_rfl) (by kernel_rfl) rfl (fun _ => Ext.refl.drawn _) (fun q3 => ?_))))
    have H25 := H24.drawn q3
    refine dV rfl rfl (fun zw hx => py_loadS Tryz.underlying37 rfl Tryz.sizeOf37 rfl rfl (At.whole (hx.heap (H25.box 6 rfl)))) (dV rfl rfl (fun zw hx => py_loadS Tryz.underlying28 rfl Tryz.sizeOf28 rfl rfl (At.whole (hx.heap (H25.box 0 rfl)))) (d_call rfl (wn rfl) rfl rfl (pc_call Tryz.func17 rfl Tryz_nm17 rfl) (Tryz_laws_toWorld (by assumption) (H25.sees 0 rfl) (H25.sees 1 rfl) (H25.sees 2 rfl) (by assumption)) (fun hS _ _ r _ => hS.trans r.1.no) (fun v9 w16 r9 => ?_)))
    obtain ⟨e16, sa9, sk9, sa10, sk10, sa11, sk11, rfl, r9⟩ := r9
    obtain ⟨fp7, H26⟩ := H25.res e16 r9
    have H27 := H26.share 11 rfl
    obtain ⟨sf6, sf7, sf8, sq4, sok4, so6, so7, so8⟩ := own_WldC (H27.seen 10 rfl)
    have H29 := H27.look1 10 rfl so6 (fun b hb => by rw [sq4]; simp [hb])
    have H30 := H29.look1 10 rfl so7 (fun b hb => by rw [sq4]; simp [hb])
    have H31 := H30.look1 10 rfl so8 (fun b hb => by rw [sq4]; simp [hb])
    refine d_call rfl (wn rfl) rfl rfl (pc_call Tryz.func20 rfl Tryz_nm20 rfl) (Tryz_laws_eqWorld (by assumption) (Wld.see9 (H31.mine 5 rfl)) (Wld.see10 (H31.mine 5 rfl)) (Wld.see11 (H31.mine 5 rfl)) (by assumption) (H31.sees 11 rfl) (H31.sees 12 rfl) (H31.sees 13 rfl)) (fun hS _ _ r _ => hS.trans r.1.no) (fun v10 w17 r10 => ?_)
    obtain ⟨e17, rfl⟩ := r10
    have H32 := H31.to e17
    refine d_end rfl (wn rfl) rfl rfl (py_not rfl) (d_nil (W_if rfl (fun c4 => ?_) (fun c4 => ?_)))
    ·exfalso; simp_all
    ·refine W_skip (W_seq (W_sr (sV rfl (py_move rfl) (sV rfl (py_move rfl) (s_call (wn rfl) rfl rfl (pc_call Tryz.func53 rfl Tryz_nm53 rfl) (Tryz_laws_toByteS (H32.sees 3 rfl) (by omega)) (fun v11 w18 r11 => ?_))))))
     obtain ⟨e18, r11⟩ := r11
     obtain ⟨fp8, H33⟩ := H32.res e18 r11
     obtain ⟨a3, k3, q4⟩ := own_slice (H33.mine 12 rfl)
     cases q4
     refine s_call (wn rfl) rfl rfl (pc_call Tryz.func55 rfl Tryz_nm55 rfl) (Tryz_laws_eqByteS (H33.msees 7 rfl) (H33.msees 12 rfl)) (fun v12 w19 r12 => ?_)
     obtain ⟨e19, rfl⟩ := r12
     have H34 := H33.to e19
     refine sV rfl (py_not rfl) (s_nil (W_if rfl (fun c5 => ?_) (fun c5 => ?_)))
     ·exfalso; simp_all
     ·refine W_skip (W_sr (sV rfl (py_assign rfl) (s_nil (W_sr (sV rfl (py_loadS Tryz.underlying37 rfl Tryz.sizeOf37 rfl rfl (At.whole (H34.box 6 rfl))) (sV rfl (py_move rfl) (s_call (wn rfl) rfl rfl (pc_call Tryz.func24 rfl Tryz_nm24 rfl) (Tryz_laws_markWorld (by assumption) (H34.mine 5 rfl) (H34.nodup1 (i := 5) rfl) (by constructor <;> omega)) (fun v13 w20 r13 => ?_))))))))
      obtain ⟨rfl, mx1, mm1, ml1⟩ := r13
      obtain ⟨fp9, H35⟩ := H34.mut 5 rfl mm1
      try dsimp only [List.nil_append, List.cons_append, List.set_cons_zero, List.set_cons_succ] at H35
      refine sV rfl (py_assign rfl) (s_nil (W_sr (sV rfl (py_move rfl) (sV rfl (py_move rfl) (s_call (wn rfl) rfl rfl (pc_call Tryz.func56 rfl Tryz_nm56 rfl) (Tryz_laws_markByteS (H35.mine 7 rfl) (H35.nodup1 (i := 7) rfl) (by constructor <;> omega)) (fun v14 w21 r14 => ?_))))))
      obtain ⟨rfl, mx2, mm2, ml2, mk1⟩ := r14
      obtain ⟨fp10, H36⟩ := H35.mut 7 rfl mm2
      try dsimp only [List.nil_append, List.cons_append, List.set_cons_zero, List.set_cons_succ] at H36
      refine sV rfl (py_assign rfl) (s_nil (W_seq (W_sr (sV rfl (py_move rfl) (sV rfl (py_lss rfl rfl) (sV rfl (py_move rfl) (s_grp 4 (j := 2) (want := false) (t := 68) rfl rfl rfl rfl (fun hg1 kk1 => s_val (wgE rfl rfl rfl hg1) rfl rfl (py_loadS Tryz.underlying72 rfl Tryz.sizeOf72 rfl rfl (At.whole (H36.box 10 rfl))) (s_val (wgE rfl rfl rfl hg1) rfl rfl (py_loadS Tryz.underlying72 rfl Tryz.sizeOf72 rfl rfl (At.whole (H36.box 4 rfl))) (s_callv (wgE rfl rfl rfl hg1) rfl rfl (pc_call Tryz.func47 rfl Tryz_nm47 rfl) (Tryz_laws_eqBytesResult (by assumption) (H36.msees 9 rfl) (by assumption) (H36.sees 9 rfl)) (fun w23 e23 => s_val (wgE rfl rfl rfl hg1) rfl rfl (py_not rfl) (kk1 _ _ (kx rfl (kx rfl (kx rfl (kx rfl k0)))) rfl (Ext.refl.trans e23)))))) (fun w22 e22 => ?_))))))))
      have H37 := H36.to e22
      refine sV rfl (py_bor rfl rfl) (s_nil (W_if rfl (fun c6 => ?_) (fun c6 => ?_)))
      ·exact absurd c6 (by simp; omega)
      ·refine W_skip (W_sr (sV rfl (py_assign rfl) (s_nil (W_sr (sV rfl (py_loadS Tryz.underlying72 rfl Tryz.sizeOf72 rfl rfl (At.whole (H37.box 10 rfl))) (sV rfl (py_move rfl) (s_call (wn rfl) rfl rfl (pc_call Tryz.func48 rfl Tryz_nm48 rfl) (Tryz_laws_markBytesResult (H37.mine 9 rfl) (H37.nodup1 (i := 9) rfl) (by constructor <;> omega)) (fun v15 w24 r15 => ?_))))))))
       obtain ⟨rfl, mx3, mm3, ml3, mk2⟩ := r15
       obtain ⟨fp11, H38⟩ := H37.mut 9 rfl mm3
       try dsimp only [List.nil_append, List.cons_append, List.set_cons_zero, List.set_cons_succ] at H38
       refine sV rfl (py_assign rfl) (s_nil (W_sr (sV rfl (py_assign rfl) (s_nil (W_sr (sV rfl (py_loadS Tryz.underlying72 rfl Tryz.sizeOf72 rfl rfl (At.whole (H38.box 10 rfl))) (sV rfl (py_move rfl) (s_call (wn rfl) rfl rfl (pc_call Tryz.func49 rfl Tryz_nm49 rfl) (Tryz_laws_heldBytesResult (H38.msees 9 rfl) (by constructor <;> omega) (by assumption)) (fun v16 w25 r16 => ?_)))))))))
       obtain ⟨e25, rfl⟩ := r16
       have H39 := H38.to e25
       refine sV rfl (py_assign rfl) (s_nil (W_seq (W_sr (sV rfl (py_move rfl) (sV rfl (py_lss rfl rfl) (s_nil (W_ifd rfl (fun c7 => ?_) (fun c7 => ?_))))))))
       ·exact absurd c7 (by omega)
       ·refine W_skip (W_seq (W_sr (sV rfl (py_move rfl) (sV rfl (py_move rfl) (sV rfl (py_neq rfl rfl) (s_nil (W_ifd rfl (fun c8 => ?_) (fun c8 => ?_))))))))
        ·exact absurd c8 (by omega)
        ·refine W_skip (W_sr (sV rfl (py_loadS Tryz.underlying28 rfl Tryz.sizeOf28 rfl rfl (At.whole (H39.box 0 rfl))) (s_call (wn rfl) rfl rfl (pc_call Tryz.func17 rfl Tryz_nm17 rfl) (Tryz_laws_toWorld (by assumption) (H39.sees 0 rfl) (H39.sees 1 rfl) (H39.sees 2 rfl) (by assumption)) (fun v17 w26 r17 => ?_))))
         obtain ⟨e26, sa12, sk12, sa13, sk13, sa14, sk14, rfl, r17⟩ := r17
         obtain ⟨fp12, H40⟩ := H39.res e26 r17
         have H41 := H40.share 13 rfl
         obtain ⟨sf9, sf10, sf11, sq5, sok5, so9, so10, so11⟩ := own_WldC (H41.seen 14 rfl)
         have H43 := H41.look1 14 rfl so9 (fun b hb => by rw [sq5]; simp [hb])
         have H44 := H43.look1 14 rfl so10 (fun b hb => by rw [sq5]; simp [hb])
         have H45 := H44.look1 14 rfl so11 (fun b hb => by rw [sq5]; simp [hb])
         refine sV rfl (py_move rfl) (sV rfl (py_move rfl) (sV rfl (py_move rfl) (s_call (wn rfl) rfl rfl (pc_call Tryz.func53 rfl Tryz_nm53 rfl) (Tryz_laws_toByteS (H45.sees 3 rfl) (by omega)) (fun v18 w27 r18 => ?_))))
         obtain ⟨e27, r18⟩ := r18
         obtain ⟨fp13, H46⟩ := H45.res e27 r18
         obtain ⟨a4, k4, q5⟩ := own_slice (H46.mine 14 rfl)
         cases q5
         refine s_call (wn rfl) rfl rfl (pc_call Tryz.func54 rfl Tryz_nm54 rfl) (Tryz_impl_OldBytes (by assumption) (H46.sees 15 rfl) (H46.sees 16 rfl) (H46.sees 17 rfl) (H46.msees 14 rfl)) (fun v19 w28 r19 => ?_)
         obtain ⟨e28, sa15, sk15, rfl, r19⟩ := r19
         obtain ⟨fp14, H47⟩ := H46.res e28 r19
         have H48 := H47.share 15 rfl
         obtain ⟨sf12, sq6, sok6, so12⟩ := own_BytesResultC (H48.seen 18 rfl)
         have H50 := H48.look1 18 rfl so12 (fun b hb => by rw [sq6]; simp [hb])
         refine s_var (wn rfl) rfl Tryz.zeroValue72 H50 (fun b5 w29 e29 g5 H51 => ?_)
         refine s_stoS (wn rfl) Tryz.sizeOf72 rfl rfl rfl rfl H51 16 rfl rfl (fun w30 e30 H52 => ?_)
         dsimp only [List.nil_append, List.cons_append, List.set_cons_zero, List.set_cons_succ, layL] at H52
         refine s_nil (W_seq (W_sr (sV rfl (py_loadS Tryz.underlying72 rfl Tryz.sizeOf72 rfl rfl (At.whole (H52.box 16 rfl))) (sV rfl (py_loadS Tryz.underlying72 rfl Tryz.sizeOf72 rfl rfl (At.whole (H52.box 4 rfl))) (s_call (wn rfl) rfl rfl (pc_call Tryz.func47 rfl Tryz_nm47 rfl) (Tryz_laws_eqBytesResult (by assumption) (H52.sees 19 rfl) (by assumption) (H52.sees 9 rfl)) (fun v20 w31 r20 => ?_))))))
         obtain ⟨e31, rfl⟩ := r20
         have H53 := H52.to e31
         refine sV rfl (py_not rfl) (s_nil (W_if rfl (fun c9 => ?_) (fun c9 => ?_)))
         ·exfalso; simp_all
         ·refine W_skip (W_sr (sV rfl (py_assign rfl) (s_nil (W_sr (sV rfl (py_loadS Tryz.underlying72 rfl Tryz.sizeOf72 rfl rfl (At.whole (H53.box 10 rfl))) (sV rfl (py_move rfl) (s_call (wn rfl) rfl rfl (pc_call Tryz.func49 rfl Tryz_nm49 rfl) (Tryz_laws_heldBytesResult (H53.msees 9 rfl) (by constructor <;> omega) (by assumption)) (fun v21 w32 r21 => ?_))))))))
          obtain ⟨e32, rfl⟩ := r21
          have H54 := H53.to e32
          refine sV rfl (py_assign rfl) (s_nil (W_seq (W_sr (sV rfl (py_move rfl) (sV rfl (py_lss rfl rfl) (s_nil (W_ifd rfl (fun c10 => ?_) (fun c10 => ?_))))))))
          ·exact absurd c10 (by omega)
          ·refine W_skip (W_seq (W_sr (sV rfl (py_move rfl) (sV rfl (py_move rfl) (sV rfl (py_neq rfl rfl) (s_nil (W_ifd rfl (fun c11 => ?_) (fun c11 => ?_))))))))
           ·exact absurd c11 (by omega)
           ·refine W_skip (W_sr (sV rfl (py_assign rfl) (s_nil (W_ret (hQ _ _ (fin1 Tryz.results11 rfl ?_))))))
            exact ⟨H54.ext, rfl⟩
end Go.Wk
