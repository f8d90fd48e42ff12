/-
  Elements that are structures, looked at closely and given back. (Printed by a program of mine.)
-/
import Derived.Test.YtceeelcijjkefaaGreatWmD
set_option linter.unusedVariables false
set_option linter.unusedSimpArgs false
namespace Go.Wk
open Rp (sz own)
theorem Block.focus {M : Nat → Prop} {w0 w : World} {Δ F : List Rsc} (h : Sep M w0 Δ F w) (i : Nat) {ad n cap} {xs : List Block} {fp} (hi : Δ[i]? = some (mine [.slice ad n cap] xs fp)) (k : Nat) (hk : k < xs.length) : ∃ b o Ty f1 f2 A1 C1 g1, ad = some ⟨b, o, none⟩ ∧ (xs.getD k default).Ok ∧ Sep M w0 (Δ.set i (hol ad n cap xs k b (o + k * sz Block) Ty [.int .i64 (xs.getD k default).Stamp, .slice A1 (xs.getD k default).Bytes.length C1] f1 f2) ++ [gone, mine [.slice A1 (xs.getD k default).Bytes.length C1] (xs.getD k default).Bytes g1]) F w := by
  obtain ⟨b, o, Ty, ck, f1, f2, fk, e, hx, H⟩ := h.focus (d := default) i hi k hk
  obtain ⟨A1, C1, g1, rfl, ef, ok, o1⟩ := own_Block hx
  have H2 := H.partLast [mine [.slice A1 (xs.getD k default).Bytes.length C1] (xs.getD k default).Bytes g1] (all_cons o1 (by simp)) (by simp [blocks, mine, ef])
  exact ⟨b, o, Ty, f1, f2, A1, C1, g1, e, ok, H2⟩
theorem Block.fill {M : Nat → Prop} {w0 w : World} {Δ F : List Rsc} (h : Sep M w0 Δ F w) (i j1 : Nat) {ad n cap k b off Ty f1 f2} {xs : List Block} {s0 : Int} {A1 C1 m1} {y1 : List UInt8} {g1} (hi : Δ[i]? = some (hol ad n cap xs k b off Ty [.int .i64 s0, .slice A1 m1 C1] f1 f2)) (h1 : Δ[j1]? = some (mine [.slice A1 m1 C1] y1 g1)) (d1 : Nat.beq j1 i = false)  (ok : (⟨s0, y1⟩ : Block).Ok) : ∃ fp', Sep M w0 ((Δ.set j1 gone).set i (mine [.slice ad n cap] (xs.set k (⟨s0, y1⟩ : Block)) fp')) F w := by
  have o1 := h.mine j1 h1
  obtain rfl := own_n o1
  have n1 : j1 ≠ i := fun e => by subst e; simp at d1
  have H := h.conv j1 (mine [.int .i64 s0, .slice A1 y1.length C1] (⟨s0, y1⟩ : Block) (g1)) h1 (Block.own_mk ok o1) (fun b hb => hb) (show (mine [.slice A1 y1.length C1] y1 g1).fp.Nodup from h.nodup1 h1)
  obtain ⟨fp', H2⟩ := H.fill i j1 (by rw [List.getElem?_set_ne n1]; exact hi) (by rw [List.getElem?_set_self (List.getElem?_eq_some_iff.1 h1).1]) d1
  rw [List.set_set] at H2
  exact ⟨fp', H2⟩
theorem Drive.focus {M : Nat → Prop} {w0 w : World} {Δ F : List Rsc} (h : Sep M w0 Δ F w) (i : Nat) {ad n cap} {xs : List Drive} {fp} (hi : Δ[i]? = some (mine [.slice ad n cap] xs fp)) (k : Nat) (hk : k < xs.length) : ∃ b o Ty f1 f2 A1 C1 g1, ad = some ⟨b, o, none⟩ ∧ (xs.getD k default).Ok ∧ Sep M w0 (Δ.set i (hol ad n cap xs k b (o + k * sz Drive) Ty [.bool (xs.getD k default).Wiped, .slice A1 (xs.getD k default).Blocks.length C1] f1 f2) ++ [gone, mine [.slice A1 (xs.getD k default).Blocks.length C1] (xs.getD k default).Blocks g1]) F w := by
  obtain ⟨b, o, Ty, ck, f1, f2, fk, e, hx, H⟩ := h.focus (d := default) i hi k hk
  obtain ⟨A1, C1, g1, rfl, ef, ok, o1⟩ := own_Drive hx
  have H2 := H.partLast [mine [.slice A1 (xs.getD k default).Blocks.length C1] (xs.getD k default).Blocks g1] (all_cons o1 (by simp)) (by simp [blocks, mine, ef])
  exact ⟨b, o, Ty, f1, f2, A1, C1, g1, e, ok, H2⟩
theorem Drive.fill {M : Nat → Prop} {w0 w : World} {Δ F : List Rsc} (h : Sep M w0 Δ F w) (i j1 : Nat) {ad n cap k b off Ty f1 f2} {xs : List Drive} {s0 : Bool} {A1 C1 m1} {y1 : List Block} {g1} (hi : Δ[i]? = some (hol ad n cap xs k b off Ty [.bool s0, .slice A1 m1 C1] f1 f2)) (h1 : Δ[j1]? = some (mine [.slice A1 m1 C1] y1 g1)) (d1 : Nat.beq j1 i = false)  (ok : (⟨s0, y1⟩ : Drive).Ok) : ∃ fp', Sep M w0 ((Δ.set j1 gone).set i (mine [.slice ad n cap] (xs.set k (⟨s0, y1⟩ : Drive)) fp')) F w := by
  have o1 := h.mine j1 h1
  obtain rfl := own_n o1
  have n1 : j1 ≠ i := fun e => by subst e; simp at d1
  have H := h.conv j1 (mine [.bool s0, .slice A1 y1.length C1] (⟨s0, y1⟩ : Drive) (g1)) h1 (Drive.own_mk ok o1) (fun b hb => hb) (show (mine [.slice A1 y1.length C1] y1 g1).fp.Nodup from h.nodup1 h1)
  obtain ⟨fp', H2⟩ := H.fill i j1 (by rw [List.getElem?_set_ne n1]; exact hi) (by rw [List.getElem?_set_self (List.getElem?_eq_some_iff.1 h1).1]) d1
  rw [List.set_set] at H2
  exact ⟨fp', H2⟩
theorem Tape.focus {M : Nat → Prop} {w0 w : World} {Δ F : List Rsc} (h : Sep M w0 Δ F w) (i : Nat) {ad n cap} {xs : List Tape} {fp} (hi : Δ[i]? = some (mine [.slice ad n cap] xs fp)) (k : Nat) (hk : k < xs.length) : ∃ b o Ty f1 f2 A1 C1 g1, ad = some ⟨b, o, none⟩ ∧ (xs.getD k default).Ok ∧ Sep M w0 (Δ.set i (hol ad n cap xs k b (o + k * sz Tape) Ty [.bool (xs.getD k default).Wiped, .slice A1 (xs.getD k default).Recs.length C1] f1 f2) ++ [gone, mine [.slice A1 (xs.getD k default).Recs.length C1] (xs.getD k default).Recs g1]) F w := by
  obtain ⟨b, o, Ty, ck, f1, f2, fk, e, hx, H⟩ := h.focus (d := default) i hi k hk
  obtain ⟨A1, C1, g1, rfl, ef, ok, o1⟩ := own_Tape hx
  have H2 := H.partLast [mine [.slice A1 (xs.getD k default).Recs.length C1] (xs.getD k default).Recs g1] (all_cons o1 (by simp)) (by simp [blocks, mine, ef])
  exact ⟨b, o, Ty, f1, f2, A1, C1, g1, e, ok, H2⟩
theorem Tape.fill {M : Nat → Prop} {w0 w : World} {Δ F : List Rsc} (h : Sep M w0 Δ F w) (i j1 : Nat) {ad n cap k b off Ty f1 f2} {xs : List Tape} {s0 : Bool} {A1 C1 m1} {y1 : List Rec} {g1} (hi : Δ[i]? = some (hol ad n cap xs k b off Ty [.bool s0, .slice A1 m1 C1] f1 f2)) (h1 : Δ[j1]? = some (mine [.slice A1 m1 C1] y1 g1)) (d1 : Nat.beq j1 i = false)  (ok : (⟨s0, y1⟩ : Tape).Ok) : ∃ fp', Sep M w0 ((Δ.set j1 gone).set i (mine [.slice ad n cap] (xs.set k (⟨s0, y1⟩ : Tape)) fp')) F w := by
  have o1 := h.mine j1 h1
  obtain rfl := own_n o1
  have n1 : j1 ≠ i := fun e => by subst e; simp at d1
  have H := h.conv j1 (mine [.bool s0, .slice A1 y1.length C1] (⟨s0, y1⟩ : Tape) (g1)) h1 (Tape.own_mk ok o1) (fun b hb => hb) (show (mine [.slice A1 y1.length C1] y1 g1).fp.Nodup from h.nodup1 h1)
  obtain ⟨fp', H2⟩ := H.fill i j1 (by rw [List.getElem?_set_ne n1]; exact hi) (by rw [List.getElem?_set_self (List.getElem?_eq_some_iff.1 h1).1]) d1
  rw [List.set_set] at H2
  exact ⟨fp', H2⟩
theorem Rec.focus {M : Nat → Prop} {w0 w : World} {Δ F : List Rsc} (h : Sep M w0 Δ F w) (i : Nat) {ad n cap} {xs : List Rec} {fp} (hi : Δ[i]? = some (mine [.slice ad n cap] xs fp)) (k : Nat) (hk : k < xs.length) : ∃ b o Ty f1 f2 A6 C6 A7 C7 A8 C8 g6 g7 g8, ad = some ⟨b, o, none⟩ ∧ (xs.getD k default).Ok ∧ Sep M w0 (Δ.set i (hol ad n cap xs k b (o + k * sz Rec) Ty [.int .i64 (xs.getD k default).Kind, .int .i64 (xs.getD k default).Seq, .string (xs.getD k default).Name, .int .i64 (xs.getD k default).Length, .int .i64 (xs.getD k default).Group, .int .i64 (xs.getD k default).Row, .slice A6 (xs.getD k default).Rows.length C6, .slice A7 (xs.getD k default).Data.length C7, .slice A8 (xs.getD k default).Delta.length C8] f1 f2) ++ [gone, mine [.slice A6 (xs.getD k default).Rows.length C6] (xs.getD k default).Rows g6, mine [.slice A7 (xs.getD k default).Data.length C7] (xs.getD k default).Data g7, mine [.slice A8 (xs.getD k default).Delta.length C8] (xs.getD k default).Delta g8]) F w := by
  obtain ⟨b, o, Ty, ck, f1, f2, fk, e, hx, H⟩ := h.focus (d := default) i hi k hk
  obtain ⟨A6, C6, A7, C7, A8, C8, g6, g7, g8, rfl, ef, ok, o6, o7, o8⟩ := own_Rec hx
  have H2 := H.partLast [mine [.slice A6 (xs.getD k default).Rows.length C6] (xs.getD k default).Rows g6, mine [.slice A7 (xs.getD k default).Data.length C7] (xs.getD k default).Data g7, mine [.slice A8 (xs.getD k default).Delta.length C8] (xs.getD k default).Delta g8] (all_cons o6 (all_cons o7 (all_cons o8 (by simp)))) (by simp [blocks, mine, ef])
  exact ⟨b, o, Ty, f1, f2, A6, C6, A7, C7, A8, C8, g6, g7, g8, e, ok, H2⟩
theorem Rec.fill {M : Nat → Prop} {w0 w : World} {Δ F : List Rsc} (h : Sep M w0 Δ F w) (i j6 j7 j8 : Nat) {ad n cap k b off Ty f1 f2} {xs : List Rec} {s0 : Int} {s1 : Int} {s2 : ByteArray} {s3 : Int} {s4 : Int} {s5 : Int} {A6 C6 m6} {y6 : List Int} {g6} {A7 C7 m7} {y7 : List UInt8} {g7} {A8 C8 m8} {y8 : List UInt8} {g8} (hi : Δ[i]? = some (hol ad n cap xs k b off Ty [.int .i64 s0, .int .i64 s1, .string s2, .int .i64 s3, .int .i64 s4, .int .i64 s5, .slice A6 m6 C6, .slice A7 m7 C7, .slice A8 m8 C8] f1 f2)) (h6 : Δ[j6]? = some (mine [.slice A6 m6 C6] y6 g6)) (h7 : Δ[j7]? = some (mine [.slice A7 m7 C7] y7 g7)) (h8 : Δ[j8]? = some (mine [.slice A8 m8 C8] y8 g8)) (d6 : Nat.beq j6 i = false) (d7 : Nat.beq j7 i = false) (d8 : Nat.beq j8 i = false) (e7_6 : Nat.beq j7 j6 = false) (e8_6 : Nat.beq j8 j6 = false) (e8_7 : Nat.beq j8 j7 = false) (ok : (⟨s0, s1, s2, s3, s4, s5, y6, y7, y8⟩ : Rec).Ok) : ∃ fp', Sep M w0 ((((Δ.set j7 gone).set j8 gone).set j6 gone).set i (mine [.slice ad n cap] (xs.set k (⟨s0, s1, s2, s3, s4, s5, y6, y7, y8⟩ : Rec)) fp')) F w := by
  have o6 := h.mine j6 h6
  obtain rfl := own_n o6
  have n6 : j6 ≠ i := fun e => by subst e; simp at d6
  have o7 := h.mine j7 h7
  obtain rfl := own_n o7
  have n7 : j7 ≠ i := fun e => by subst e; simp at d7
  have o8 := h.mine j8 h8
  obtain rfl := own_n o8
  have n8 : j8 ≠ i := fun e => by subst e; simp at d8
  have q1 : j7 ≠ j6 := fun e => by subst e; simp at e7_6
  have q2 : j8 ≠ j6 := fun e => by subst e; simp at e8_6
  have q3 : j8 ≠ j7 := fun e => by subst e; simp at e8_7
  have l6 := (List.getElem?_eq_some_iff.1 h6).1
  have H1 := h.join2 j6 j7 h6 h7 e7_6
  have H2 := H1.join2 j6 j8 (by rw [List.getElem?_set_self (by simpa using l6)]) (by rw [List.getElem?_set_ne (Ne.symm q2), List.getElem?_set_ne (Ne.symm q3)]; exact h8) e8_6
  rw [List.set_comm _ _ (Ne.symm q2), List.set_set] at H2
  have sq : (((Δ.set j7 gone).set j8 gone).set j6 (cat (cat (mine [.slice A6 y6.length C6] y6 g6) (mine [.slice A7 y7.length C7] y7 g7)) (mine [.slice A8 y8.length C8] y8 g8)))[j6]? = some (cat (cat (mine [.slice A6 y6.length C6] y6 g6) (mine [.slice A7 y7.length C7] y7 g7)) (mine [.slice A8 y8.length C8] y8 g8)) := by rw [List.getElem?_set_self (by simpa using l6)]
  have nd := H2.nodup1 sq
  have H := H2.conv j6 (mine [.int .i64 s0, .int .i64 s1, .string s2, .int .i64 s3, .int .i64 s4, .int .i64 s5, .slice A6 y6.length C6, .slice A7 y7.length C7, .slice A8 y8.length C8] (⟨s0, s1, s2, s3, s4, s5, y6, y7, y8⟩ : Rec) (g6 ++ (g7 ++ (g8)))) sq (Rec.own_mk ok o6 o7 o8) (fun b hb => by simpa [cat, mine] using hb) (by simpa [cat, mine] using nd)
  rw [List.set_set] at H
  obtain ⟨fp', H3⟩ := H.fill i j6 (by rw [List.getElem?_set_ne n6, List.getElem?_set_ne n8, List.getElem?_set_ne n7]; exact hi) (by rw [List.getElem?_set_self (by simpa using l6)]) d6
  rw [List.set_set] at H3
  exact ⟨fp', H3⟩
end Go.Wk
