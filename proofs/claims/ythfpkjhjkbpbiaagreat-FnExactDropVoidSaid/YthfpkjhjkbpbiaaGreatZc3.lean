/-
  Laws on walking, and the functions walked, each once: what this claim comes to.
-/
import Derived.Test.YthfpkjhjkbpbiaaGreatZc2
set_option linter.unusedVariables false
set_option linter.unusedSimpArgs false
namespace Go.Wk
open Rp (sz own)
section
variable {w w' w0 : World} {ft f : List Nat} {vs us : List RecV} {M : Nat → Prop} {Δ F : List Rsc}
theorem RdV.back (h : RdV w' ft vs) (e : Ext No w w') (hl : ∀ b ∈ ft, b < w.heap.size) : RdV w ft vs := fun v hv => by
  obtain ⟨f, h1, h2⟩ := h v hv
  exact ⟨f, Rp.st h1 fun b hb => (e.block b (hl b (h2 b hb)) id).symm, h2⟩
def InF {α : Type} [Rp α] (w : World) (ft : List Nat) (cs : List Value) (x : α) : Prop := ∃ f, own false w cs x f ∧ ∀ b ∈ f, b ∈ ft
theorem RdV.inAt {k : Nat} (h : RdV w ft vs) (hk : k < vs.length) : InF w ft (vs.getD k default).cs (vs.getD k default).r := h _ (by rw [getD_el hk]; exact List.getElem_mem _)
theorem InF.to {α : Type} [Rp α] {cs : List Value} {x : α} (h : InF w ft cs x) (e : Ext No w w') : InF w' ft cs x := by
  obtain ⟨f, h1, h2⟩ := h
  exact ⟨f, Rp.st h1 fun b hb => e.block b (Rp.lt h1 b hb) id, h2⟩
theorem InF.back {α : Type} [Rp α] {cs : List Value} {x : α} (h : InF w' ft cs x) (e : Ext No w w') (hl : ∀ b ∈ ft, b < w.heap.size) : InF w ft cs x := by
  obtain ⟨f, h1, h2⟩ := h
  exact ⟨f, Rp.st h1 fun b hb => (e.block b (hl b (h2 b hb)) id).symm, h2⟩
theorem InF.val {v : RecV} {x : Rec} (h : InF w ft v.cs v.r) (e : v.r = x) : InF w ft (RecV.mk x v.A6 v.C6 v.A7 v.C7 v.A8 v.C8).cs x := by subst e; exact h
theorem InF.rdv {v : RecV} (h : InF w ft v.cs v.r) : RdV w ft [v] := fun u hu => by
  rw [List.mem_singleton] at hu; subst hu; exact h
theorem inF_zero : InF w ft (RecV.mk default none 0 none 0 none 0).cs (default : Rec) := ⟨[], own_weak own_zRec, by simp⟩
theorem InF.ok {v : RecV} (h : InF w ft v.cs v.r) : v.r.Ok := by
  obtain ⟨f, h1, _⟩ := h
  obtain ⟨f6, f7, f8, _, ok, _⟩ := own_RecC h1
  exact ok
theorem Sep.recF {β : Type} [Rp β] (h : Sep M w0 Δ F w) (j : Nat) {s : Bool} {cs0 : List Value} {y : β} (hj : F[j]? = some (Wk.seen s cs0 y ft)) {x : Rec} {A6 : Option Addr} {C6 : Nat} {A7 : Option Addr} {C7 : Nat} {A8 : Option Addr} {C8 : Nat} (hx : InF w ft (RecV.mk x A6 C6 A7 C7 A8 C8).cs x) :
    ∃ f6 f7 f8, x.Ok ∧ x.Rows.length ≤ maxLen ∧ x.Data.length ≤ maxLen ∧ x.Delta.length ≤ maxLen ∧ Sep M w0 Δ (F ++ [Wk.seen false [.slice A6 x.Rows.length C6] x.Rows f6, Wk.seen false [.slice A7 x.Data.length C7] x.Data f7, Wk.seen false [.slice A8 x.Delta.length C8] x.Delta f8]) w := by
  obtain ⟨f, h1, h2⟩ := hx
  obtain ⟨f6, f7, f8, e, ok, o6, o7, o8⟩ := own_RecC (x := x) h1
  have key : ∀ b ∈ f, b ∉ blocks Δ := fun b hb => h.ap _ (List.mem_of_getElem? hj) b (h2 b hb)
  have H1 := h.look (r := Wk.seen false [.slice A6 x.Rows.length C6] x.Rows f6) o6 fun b hb => key b (by rw [e]; simp [show b ∈ f6 from hb])
  have H2 := H1.look (r := Wk.seen false [.slice A7 x.Data.length C7] x.Data f7) o7 fun b hb => key b (by rw [e]; simp [show b ∈ f7 from hb])
  have H3 := H2.look (r := Wk.seen false [.slice A8 x.Delta.length C8] x.Delta f8) o8 fun b hb => key b (by rw [e]; simp [show b ∈ f8 from hb])
  refine ⟨f6, f7, f8, ok, own_len_le o6, own_len_le o7, own_len_le o8, ?_⟩
  simpa using H3
theorem Mut.none {α : Type} [Rp α] {cs : List Value} {x : α} {fp : List Nat} (e : Ext No w w') (h : own true w cs x fp) (hn : fp.Nodup) : Mut w w' fp cs x :=
  ⟨e.no, fp, Rp.st h fun b hb => e.block b (Rp.lt h b hb) id, hn, fun b hb => .inl hb⟩
theorem stable_nil : Stable kLt keyV ([] : List RecV) [] := ⟨.nil, .refl⟩
theorem RdV.stable (h : RdV w ft vs) (hs : Stable kLt keyV vs us) : RdV w ft us := h.sub fun v hv => hs.2.mem hv
theorem RdV.snoc {v : RecV} (h : RdV w ft vs) (hv : InF w ft v.cs v.r) : RdV w ft (vs ++ [v]) := h.app hv.rdv
theorem RdV.okAt {k : Nat} (h : RdV w ft vs) (hk : k < vs.length) : (vs.getD k default).r.Ok := (h.inAt hk).ok
theorem RdV.list {s : Bool} {ad n cap} {f0 : List Nat} (hr : RdV w ft vs) (h : own s w [.slice ad n cap] vs f0) : Sees w [.slice ad n cap] (vs.map RecV.r) := by
  obtain ⟨f, h1, _⟩ := own_ofVF h hr
  exact ⟨f, h1⟩
end
theorem cmpI_bd {a b : Int} : -1 ≤ cmpI a b ∧ cmpI a b ≤ 1 := by unfold cmpI; split <;> (try split) <;> omega
instance (a b : Int × Int × Int) : Decidable (kLt a b) := by unfold kLt; infer_instance
instance : Flat RecV where
  flat h := ⟨h.2.1, fun _ _ => ⟨h.1, rfl, h.2.2⟩⟩
theorem any_eq {xs : List Rec} {r : Rec} : xs.any (fun x => decide (x = r)) = decide (r ∈ xs) := by
  rw [Bool.eq_iff_iff]; simp
theorem mem_yes {xs : List Rec} {r : Rec} {k : Nat} (h : k < xs.length) (e : xs.getD k default = r) : true = decide (r ∈ xs) := by
  rw [eq_comm, decide_eq_true_eq, ← e, getD_el h]; exact List.getElem_mem _
theorem mem_no {xs : List Rec} {r : Rec} (h : ∀ i, i < xs.length → decide (xs.getD i default = r) = false) : false = decide (r ∈ xs) := by
  rw [eq_comm, decide_eq_false_iff_not]
  intro hm
  obtain ⟨i, hi, e⟩ := List.getElem_of_mem hm
  have := h i hi
  rw [decide_eq_false_iff_not, getD_el hi] at this
  exact this e
theorem map_getD {vs : List RecV} {rs : List Rec} (e : vs.map RecV.r = rs) {k : Nat} (hk : k < vs.length) : (vs.getD k default).r = rs.getD k default := by
  rw [← e, getD_el hk]; simp [List.getD, hk]
theorem cnt_end {z : Wld} {vs us : List RecV} (hm : vs.map RecV.r = cntTo z z.Tapes.length 0) (hs : Stable kLt keyV vs us) : us.map RecV.r = cntL z :=
  cntTo_all (by rw [← hm]; exact stable_map hs)
theorem allR_len {z : Wld} {B : Nat} (h : ∀ k, (z.Tapes.getD k default).Recs.length ≤ B) : ∀ k, k ≤ z.Tapes.length → (allR z k).length ≤ k * B
  | 0, _ => by simp [allR]
  | k + 1, hk => by
    have ih := allR_len h k (by omega)
    have h1 := h k
    unfold allR at ih ⊢
    rw [List.take_add_one, List.getElem?_eq_getElem (by omega), List.map_append, List.flatten_append, List.length_append]
    simp only [Option.toList_some, List.map_cons, List.map_nil, List.flatten_cons, List.flatten_nil, List.append_nil]
    rw [← getD_el (by omega) (d := default)]
    rw [Nat.add_mul]; omega
theorem cntTo_bd {z : Wld} (hT : z.Tapes.length = 2) (h : ∀ k, (z.Tapes.getD k default).Recs.length ≤ 200000) {k j : Nat} (hk : k ≤ 2) (hj : j ≤ 200000) : (cntTo z k j).length ≤ 600000 := by
  have h1 := cntTo_len (z := z) (k := k) (j := j)
  have h2 := allR_len h k (by omega)
  omega
theorem cntL_bd {z : Wld} (hT : z.Tapes.length = 2) (h : ∀ k, (z.Tapes.getD k default).Recs.length ≤ 200000) : (cntL z).length ≤ 600000 := by
  have h1 := cntTo_bd hT h (k := 2) (j := 0) (by omega) (by omega)
  have h2 : Stable kLt keyR (cntTo z z.Tapes.length 0) (cntL z) := by
    unfold cntL cntTo
    simp only [List.take_zero, List.append_nil]
    exact (stable_ex _).choose_spec
  have := h2.2.len
  rw [hT] at this
  omega
theorem recs_bd {z : Wld} (h : worldF z = 0) : ∀ k, (z.Tapes.getD k default).Recs.length ≤ 200000 := fun k => by
  have hT := (worldF_ok h).2.2.2.1
  obtain ⟨h1, h2⟩ := recs_le h
  by_cases e : k < 2
  · have : k = 0 ∨ k = 1 := by omega
    rcases this with rfl | rfl <;> omega
  · have : z.Tapes.getD k default = default := by simp [List.getD, List.getElem?_eq_none (show z.Tapes.length ≤ k by omega)]
    rw [this]; exact Nat.zero_le _
end Go.Wk
namespace Go.Wk
section
variable {vs : List RecV} {r : Rec} {a : Nat}
theorem ordR_at {rs : List Rec} (h : Ord kLt keyR rs) : ∀ {i q : Nat}, i ≤ q → q < rs.length → ¬ kLt (keyR (rs.getD q default)) (keyR (rs.getD i default)) := by
  induction h with
  | nil => intro i q _ h; simp at h
  | cons h1 h2 ih =>
    rename_i y l
    intro i q hiq hq
    cases i with
    | zero =>
      cases q with
      | zero => exact kLin.irr _
      | succ q =>
        have hq' : q < l.length := by simpa using hq
        show ¬ kLt (keyR (l.getD q default)) (keyR y)
        rw [getD_el hq']
        exact h1 _ (List.getElem_mem _)
    | succ i =>
      cases q with
      | zero => omega
      | succ q => exact ih (by omega) (by simpa using hq)
theorem ins_lo {rs : List Rec} (ho : Ord kLt keyR rs) (ha : a ≤ rs.length) (h : a = 0 ∨ ¬ kLt (keyR r) (keyR (rs.getD (a - 1) default))) : ∀ y ∈ rs.take a, ¬ kLt (keyR r) (keyR y) := by
  intro y hy
  obtain ⟨i, hi, e⟩ := List.getElem_of_mem hy
  rw [List.length_take] at hi
  rw [List.getElem_take] at e
  rcases h with h | h
  · omega
  · intro hlt
    have h2 := ordR_at ho (i := i) (q := a - 1) (by omega) (by omega)
    rw [getD_el (by omega : i < rs.length), e] at h2
    exact h (k_lt_le hlt h2)
theorem ins_hi {rs : List Rec} (hB : ∀ i, a ≤ i → i < rs.length → kLt (keyR r) (keyR (rs.getD i default))) : ∀ y ∈ rs.drop a, kLt (keyR r) (keyR y) := by
  intro y hy
  obtain ⟨i, hi, e⟩ := List.getElem_of_mem hy
  rw [List.length_drop] at hi
  rw [List.getElem_drop] at e
  have := hB (a + i) (by omega) (by omega)
  rwa [getD_el (by omega), e] at this
theorem ins_new {xs rs : List Rec} (h : Stable kLt keyR xs rs) (ha : a ≤ rs.length) (h1 : a = 0 ∨ ¬ kLt (keyR r) (keyR (rs.getD (a - 1) default))) (hB : ∀ i, a ≤ i → i < rs.length → kLt (keyR r) (keyR (rs.getD i default))) :
    Stable kLt keyR (xs ++ [r]) (rs.take a ++ r :: rs.drop a) :=
  stable_insert kLin (by rw [List.take_append_drop]; exact h) (ins_hi hB) (ins_lo h.1 ha h1)
theorem cut_map {l h : Nat} : (cut vs l h).map RecV.r = cut (vs.map RecV.r) l h := by unfold cut; rw [List.map_take, List.map_drop]
theorem ins_list {v : RecV} (e : v.r = r) (ha : a ≤ vs.length) : (cut vs 0 a ++ [v] ++ cut vs a vs.length).map RecV.r = (vs.map RecV.r).take a ++ r :: (vs.map RecV.r).drop a := by
  rw [List.map_append, List.map_append, cut_map, cut_map]
  unfold cut
  rw [List.drop_zero, Nat.sub_zero, List.take_of_length_le (by simp : ((vs.map RecV.r).drop a).length ≤ vs.length - a)]
  simp [e]
theorem cut_sub {l h : Nat} : ∀ v ∈ cut vs l h, v ∈ vs := fun v hv => by
  unfold cut at hv
  exact List.mem_of_mem_drop (List.mem_of_mem_take hv)
end
end Go.Wk
namespace Go.Wk
open Rp (sz own)
section
variable {P : Program} {n : Nat} {ops : Array Oper} {Q : Post} {L : Env} {w w0 : World} {M : Nat → Prop} {Δ F : List Rsc} {d : Tmp} {ty : TypeId} {p : String} {af : Array Edge} {g : Option (Nat × Bool)}
theorem d_litI {l : Nat} {rl : List (Nat × Bool)} {S : World → Prop} {t e : TypeId} {parts : Array (Nat × Operand)} {z : Value} {bytes : Nat} (xs : List Int) (ho : ops.toList[l]? = some ⟨some d, .buildSlice t xs.length parts, ty, p, af, g⟩) (hw : Wn ops n L ⟨some d, .buildSlice t xs.length parts, ty, p, af, g⟩) (hn : Nat.blt d n = true) (ht : P.underlying t = some (.slice e)) (hT : Ty P e z 1 bytes)
    (hix : parts.toList.map (·.1) = List.range xs.length) (hv : evLs L (parts.toList.map (·.2)) = some (xs.map (Value.int .i64))) (hk : ∀ x ∈ xs, I64ok x) (h0 : 0 < xs.length) (hl : xs.length ≤ 1000) (H : Sep M w0 Δ F w) (hS : ∀ w', S w → Ext No w w' → S w')
    (k : ∀ b w', Ext No w w' → w.heap.size ≤ b → Sep M w0 (Δ ++ [mine [.slice (some ⟨b, 0, none⟩) xs.length xs.length] xs [b]]) F w' → DL P n ops Q S rl ((d, .slice (some ⟨b, 0, none⟩) xs.length xs.length) :: L) w') :
    DL P n ops Q S ((l, false) :: rl) L w := by
  have hparts : ∀ a, Good n a L → (parts.map fun (i, x) => (i, a.eval x)).toList = ((xs.map (Value.int .i64)).zipIdx 0).map fun x => (x.2, x.1) := fun a ha => by
    have key : ∀ (l : List (Nat × Operand)) (vs : List Value) (k : Nat), l.map (·.1) = List.range' k vs.length → evLs L (l.map (·.2)) = some vs → l.map (fun x => (x.1, a.eval x.2)) = (vs.zipIdx k).map fun x => (x.2, x.1) := by
      intro l
      induction l with
      | nil => intro vs k h1 h2; simp [evLs] at h2; subst h2; rfl
      | cons x l ih =>
        intro vs k h1 h2
        simp only [List.map_cons] at h1 h2 ⊢
        unfold evLs at h2
        split at h2
        · rename_i v us hv hus
          cases h2
          rw [List.length_cons, List.range'_succ] at h1
          simp only [List.cons.injEq] at h1
          rw [List.zipIdx_cons, List.map_cons, ← ih us (k + 1) h1.2 hus, ha.eval hv, h1.1]
        · cases h2
    rw [Array.toList_map]
    refine key parts.toList _ 0 ?_ hv
    rw [hix, List.length_map, List.range_eq_range']
  have hp := pn_lit (n := n) (w := w) (ty := ty) (p := p) (af := af) (g := g) (d := some d) (parts := parts) (vs := xs.map (Value.int .i64)) (len := xs.length) ht hT (by omega) (by simp) hparts (by intro v hv; simp at hv; obtain ⟨x, _, rfl⟩ := hv; rfl) h0 (by omega)
  refine d_new ho hw rfl hn hp (fun h _ => hS _ h (Ext.refl.alloc _)) (k _ _ (Ext.refl.alloc _) (Nat.le_refl _) ?_)
  refine H.add (Ext.refl.alloc _) (r := Wk.mine [.slice (some ⟨w.heap.size, 0, none⟩) xs.length xs.length] xs [w.heap.size]) (.inr (.inr ⟨w.heap.size, 0, _, _, e, (0, 0), [], rfl, rfl, heap_alloc_new w _, fun _ => rfl, Nat.le_refl _, by unfold maxLen; omega, ?_, ?_⟩)) (by simp [Wk.mine]) (by simp [Wk.mine])
  · have : ∀ l : List Int, (l.map (Value.int .i64)).flatMap (fun v => v.cells.toList) = l.map (Value.int .i64) := by
      intro l; induction l with
      | nil => rfl
      | cons x l ih => simp only [List.map_cons, List.flatMap_cons, ih]; rfl
    simp [this, sz]
  · have : ∀ l : List Int, (l.map (Value.int .i64)).flatMap (fun v => v.cells.toList) = l.map (Value.int .i64) := by
      intro l; induction l with
      | nil => rfl
      | cons x l ih => simp only [List.map_cons, List.flatMap_cons, ih]; rfl
    simp only [this, List.drop_zero]
    exact own_ints hk
end
end Go.Wk
namespace Go.Wk
open Go.Proofs Rp
set_option maxRecDepth 10000
theorem Tryz_ins0 {w : World} {A : Option Addr} {C : Nat} {gf : FuncId} {gL : List Value}  : Ret Tryz.prog 313 #[.slice A 0 C, .int .i64 (0 : Nat), .int .i64 (0 : Nat), .func (.func gf) #[] gL.toArray] w fun v w' => Ext No w w' ∧ (True) := by
 refine ret_Q (vs := [.slice A 0 C, .int .i64 (0 : Nat), .int .i64 (0 : Nat), .func (.func gf) #[] gL.toArray]) Tryz.func313 rfl Tryz.ntmps313 rfl (fun Q hQ hN => ?_)
 have H0 := Sep.start (w := w) (F := []) (by simp)
 refine W_sr (sM rfl rfl (sV rfl (py_add rfl rfl (in64 ⟨by omega, by omega⟩)) (sA rfl rfl (s_nil (W_block (W_loopS (γ := Unit) H0 [(0, _), (1, _), (2, _), (3, _)] ⟨rfl, rfl, rfl, rfl, trivial⟩ (fun _ => [(8, .int .i64 (1 : Nat))]) (fun _ => True ∧ True) (fun _ => 0) () ⟨rfl, trivial⟩ ⟨trivial, trivial⟩ (fun _ w1 H1 ⟨_, _⟩ => ?_)))))))
 dsimp only [lCA, lNA]
 refine W_seq (W_sr (sM rfl rfl (sM rfl rfl (sV rfl (py_lss rfl rfl) (s_nil (W_ifd rfl (fun c1 => ?_) (fun c1 => ?_)))))))
 ·exfalso
  omega
 ·refine W_exit (hN _ _ (fin0 Tryz.results313 ?_))
  exact ⟨H1.ext, trivial⟩
theorem Tryz_stab0 {w : World} {A : Option Addr} {C : Nat} {gf : FuncId} {gL : List Value}  : Ret Tryz.prog 261 #[.slice A 0 C, .int .i64 (0 : Nat), .func (.func gf) #[] gL.toArray] w fun v w' => Ext No w w' ∧ (True) := by
 refine ret_Q (vs := [.slice A 0 C, .int .i64 (0 : Nat), .func (.func gf) #[] gL.toArray]) Tryz.func261 rfl Tryz.ntmps261 rfl (fun Q hQ hN => ?_)
 have H0 := Sep.start (w := w) (F := []) (by simp)
 refine W_sr (sA rfl rfl (s_nil (W_sr (sM rfl rfl (sA rfl rfl (sA rfl rfl (s_nil (W_seq (W_block (W_loopS (γ := Unit) H0 [(0, _), (1, _), (2, _), (6, _)] ⟨rfl, rfl, rfl, rfl, trivial⟩ (fun _ => [(7, .int .i64 (0 : Nat)), (8, .int .i64 (20 : Nat))]) (fun _ => True ∧ True) (fun _ => 0) () ⟨rfl, rfl, trivial⟩ ⟨trivial, trivial⟩ (fun _ w1 H1 ⟨_, _⟩ => ?_)))))))))))
 dsimp only [lCA, lNA]
 refine W_seq (W_sr (sM rfl rfl (sM rfl rfl (sV rfl (py_leq rfl rfl) (s_nil (W_ifd rfl (fun c1 => ?_) (fun c1 => ?_)))))))
 ·exfalso
  omega
 ·refine W_exit (W_sr (sM rfl rfl (sM rfl rfl (sM rfl rfl (sM rfl rfl (s_call (wn rfl) rfl rfl (pc_call Tryz.func313 rfl Tryz_nm313 rfl) (Tryz_ins0) (fun v1 w2 r1 => ?_)))))))
  have H2 := H1.to r1.1
  refine s_nil (W_block (W_loopS (γ := Unit) H2 [(0, _), (1, _), (2, _)] ⟨rfl, rfl, rfl, trivial⟩ (fun _ => [(6, .int .i64 (20 : Nat))]) (fun _ => True ∧ True) (fun _ => 0) () ⟨rfl, trivial⟩ ⟨trivial, trivial⟩ (fun _ w3 H3 ⟨_, _⟩ => ?_)))
  dsimp only [lCA, lNA]
  refine W_seq (W_sr (sM rfl rfl (sM rfl rfl (sV rfl (py_lss rfl rfl) (s_nil (W_ifd rfl (fun c2 => ?_) (fun c2 => ?_)))))))
  ·exfalso
   omega
  ·refine W_exit (hN _ _ (fin0 Tryz.results261 ?_))
   exact ⟨H3.ext, trivial⟩
theorem Tryz_cmp_isNaN_int64 {w : World} {x : Int}  : Ret Tryz.prog 262 #[.int .i64 x] w fun v w' => Ext No w w' ∧ (v = .bool false) := by
 refine ret_Q (vs := [.int .i64 x]) Tryz.func262 rfl Tryz.ntmps262 rfl (fun Q hQ hN => ?_)
 have H0 := Sep.start (w := w) (F := []) (by simp)
 refine W_sr (sA rfl rfl (s_nil (W_sr (sM rfl rfl (sM rfl rfl (sV rfl (py_neq rfl rfl) (sA rfl rfl (s_nil (rT hQ Tryz.results262 rfl ?_)))))))))
 exact ⟨H0.ext, congrArg Value.bool (by simp)⟩
theorem Tryz_slices_SortStableFunc_impl_Rec_impl_Rec {w : World} {ws : List RecV} {A : Option Addr} {n C : Nat} {fp : List Nat} {gf : FuncId} {gL : List Value} {gF : Func}  (o : own true w [.slice A n C] ws fp) (nd : fp.Nodup)  (gH : Tryz.prog.funcs[gf]? = some gF) (gB : gF.body.isNone = false) (gN : NG gF) (gC : ∀ w1, Ext (· ∈ fp) w w1 → ∀ (x y : Rec) (A6 : Option Addr) (C6 : Nat) (A7 : Option Addr) (C7 : Nat) (A8 : Option Addr) (C8 : Nat) (B6 : Option Addr) (D6 : Nat) (B7 : Option Addr) (D7 : Nat) (B8 : Option Addr) (D8 : Nat), Ret Tryz.prog gf (([x.val A6 C6 A7 C7 A8 C8, y.val B6 D6 B7 D7 B8 D8] : List Value) ++ gL).toArray w1 fun v w' => Ext No w1 w' ∧ v = .int .i64 (cfR x y)) (h0 : 0 < ws.length) (hL : ws.length ≤ 1000000) : Ret Tryz.prog 169 #[.slice A n C, .func (.func gf) #[] gL.toArray] w fun v w' => (∃ ws', Mut w w' fp [.slice A n C] ws' ∧ Stable kLt keyV ws ws') := by
 obtain rfl := own_n o
 obtain ⟨hb0, ho0, had0⟩ := own_addr o 0 (by omega)
 subst had0
 have wL := oL o
 refine ret_Q (vs := [.slice (some ⟨hb0, ho0, none⟩) ws.length C, .func (.func gf) #[] gL.toArray]) Tryz.func169 rfl Tryz.ntmps169 rfl (fun Q hQ hN => ?_)
 have H0 := Sep.begin o nd
 refine W_reg (sM rfl rfl (sM rfl rfl (sV rfl (py_len tu30 rfl) (sM rfl rfl (s_call (wn rfl) rfl rfl (pc_call Tryz.func261 rfl Tryz_nm261 rfl) (Tryz_slices_stableCmpFunc_impl_Rec (m := ws.length) (H0.mine 0 rfl) (H0.nodup1 (i := 0) rfl) rfl gH gB gN (fun w1 e1 => gC w1 (H0.ext.step e1 fun b hb => H0.new b (H0.inB 0 rfl hb))) rfl h0 hL) (fun v1 w1 r1 => ?_))))))
 obtain ⟨y1, mm1, hs1⟩ := r1
 obtain ⟨fp1, H1⟩ := H0.mut 0 rfl mm1
 try dsimp only [lNA, lCA, lSZ, lSS] at H1
 refine s_nil (hN _ _ (fin0 Tryz.results169 ?_))
 exact ⟨_, H1.done, sort_all hs1⟩
theorem Tryz_ssf0 {w : World} {A : Option Addr} {C : Nat} {gf : FuncId} {gL : List Value}  : Ret Tryz.prog 169 #[.slice A 0 C, .func (.func gf) #[] gL.toArray] w fun v w' => Ext No w w' ∧ (True) := by
 refine ret_Q (vs := [.slice A 0 C, .func (.func gf) #[] gL.toArray]) Tryz.func169 rfl Tryz.ntmps169 rfl (fun Q hQ hN => ?_)
 have H0 := Sep.start (w := w) (F := []) (by simp)
 refine W_reg (sM rfl rfl (sM rfl rfl (sV rfl (py_len tu30 rfl) (sM rfl rfl (s_call (wn rfl) rfl rfl (pc_call Tryz.func261 rfl Tryz_nm261 rfl) (Tryz_stab0) (fun v1 w1 r1 => ?_))))))
 have H1 := H0.to r1.1
 refine s_nil (hN _ _ (fin0 Tryz.results169 ?_))
 exact ⟨H1.ext, trivial⟩
theorem Tryz_ssf {w : World} {ws : List RecV} {A : Option Addr} {n C : Nat} {fp : List Nat} {gf : FuncId} {gL : List Value} {gF : Func}  (o : own true w [.slice A n C] ws fp) (nd : fp.Nodup)  (gH : Tryz.prog.funcs[gf]? = some gF) (gB : gF.body.isNone = false) (gN : NG gF) (gC : ∀ w1, Ext (· ∈ fp) w w1 → ∀ (x y : Rec) (A6 : Option Addr) (C6 : Nat) (A7 : Option Addr) (C7 : Nat) (A8 : Option Addr) (C8 : Nat) (B6 : Option Addr) (D6 : Nat) (B7 : Option Addr) (D7 : Nat) (B8 : Option Addr) (D8 : Nat), Ret Tryz.prog gf (([x.val A6 C6 A7 C7 A8 C8, y.val B6 D6 B7 D7 B8 D8] : List Value) ++ gL).toArray w1 fun v w' => Ext No w1 w' ∧ v = .int .i64 (cfR x y)) (hL : ws.length ≤ 1000000) : Ret Tryz.prog 169 #[.slice A n C, .func (.func gf) #[] gL.toArray] w fun v w' => ∃ ws', Mut w w' fp [.slice A n C] ws' ∧ Stable kLt keyV ws ws' := by
 rcases Nat.eq_zero_or_pos ws.length with e | e
 ·obtain rfl := List.eq_nil_of_length_eq_zero e
  obtain rfl := own_n o
  exact Ret.mono Tryz_ssf0 fun v w' h => ⟨[], .none h.1 o nd, stable_nil⟩
 ·exact Tryz_slices_SortStableFunc_impl_Rec_impl_Rec o nd gH gB gN gC e hL
theorem Tryz_cmp_Compare_int64 {w : World} {x y : Int}  : Ret Tryz.prog 172 #[.int .i64 x, .int .i64 y] w fun v w' => Ext No w w' ∧ (v = .int .i64 (cmpI x y)) := by
 refine ret_Q (vs := [.int .i64 x, .int .i64 y]) Tryz.func172 rfl Tryz.ntmps172 rfl (fun Q hQ hN => ?_)
 have H0 := Sep.start (w := w) (F := []) (by simp)
 refine W_sr (sA rfl rfl (s_nil (W_sr (sM rfl rfl (s_call (wn rfl) rfl rfl (pc_call Tryz.func262 rfl Tryz_nm262 rfl) Tryz_cmp_isNaN_int64 (fun v1 w1 r1 => ?_))))))
 obtain ⟨e1, rfl⟩ := r1
 have H1 := H0.to e1
 refine sA rfl rfl (s_nil (W_sr (sM rfl rfl (s_call (wn rfl) rfl rfl (pc_call Tryz.func262 rfl Tryz_nm262 rfl) Tryz_cmp_isNaN_int64 (fun v2 w2 r2 => ?_)))))
 obtain ⟨e2, rfl⟩ := r2
 have H2 := H1.to e2
 refine sA rfl rfl (s_nil (W_seq (W_sr (sM rfl rfl (s_nil (W_if rfl (fun c1 => ?_) (fun c1 => ?_)))))))
 ·refine W_seq (W_sr (sM rfl rfl (s_nil (W_if rfl (fun c2 => ?_) (fun c2 => ?_)))))
  ·refine W_sr (sA rfl rfl (s_nil (rT hQ Tryz.results172 rfl ?_)))
   exact ⟨H2.ext, congrArg (Value.int .i64) (by unfold cmpI; split <;> (try split) <;> simp_all <;> omega)⟩
  ·refine W_skip (W_sr (sA rfl rfl (s_nil (rT hQ Tryz.results172 rfl ?_))))
   exact ⟨H2.ext, congrArg (Value.int .i64) (by unfold cmpI; split <;> (try split) <;> simp_all <;> omega)⟩
 ·refine W_skip (W_seq (W_sr (sM rfl rfl (s_nil (W_if rfl (fun c3 => ?_) (fun c3 => ?_))))))
  ·refine W_sr (sA rfl rfl (s_nil (rT hQ Tryz.results172 rfl ?_)))
   exact ⟨H2.ext, congrArg (Value.int .i64) (by unfold cmpI; split <;> (try split) <;> simp_all <;> omega)⟩
  ·refine W_skip (W_seq (W_sr (sM rfl rfl (sM rfl rfl (sV rfl (py_lss rfl rfl) (s_nil (W_ifd rfl (fun c4 => ?_) (fun c4 => ?_))))))))
   ·refine W_sr (sA rfl rfl (s_nil (rT hQ Tryz.results172 rfl ?_)))
    exact ⟨H2.ext, congrArg (Value.int .i64) (by unfold cmpI; split <;> (try split) <;> simp_all <;> omega)⟩
   ·refine W_skip (W_seq (W_sr (sM rfl rfl (sM rfl rfl (sV rfl (py_gtr rfl rfl) (s_nil (W_ifd rfl (fun c5 => ?_) (fun c5 => ?_))))))))
    ·refine W_sr (sA rfl rfl (s_nil (rT hQ Tryz.results172 rfl ?_)))
     exact ⟨H2.ext, congrArg (Value.int .i64) (by unfold cmpI; split <;> (try split) <;> simp_all <;> omega)⟩
    ·refine W_skip (W_sr (sA rfl rfl (s_nil (rT hQ Tryz.results172 rfl ?_))))
     exact ⟨H2.ext, congrArg (Value.int .i64) (by unfold cmpI; split <;> (try split) <;> simp_all <;> omega)⟩
theorem Tryz_cmp_Or_int {w : World} {xs : List Int} {xsA : Option Addr} {xsC : Nat} (xsS : Sees w [.slice xsA xs.length xsC] xs) : Ret Tryz.prog 171 #[.slice xsA xs.length xsC] w fun v w' => Ext No w w' ∧ (v = .int .i64 (orI xs)) := by
 have xsL := sL xsS
 obtain ⟨xsF, xsO⟩ := xsS
 refine ret_Q (vs := [.slice xsA xs.length xsC]) Tryz.func171 rfl Tryz.ntmps171 rfl (fun Q hQ hN => ?_)
 have H0 := Sep.start (w := w) (F := [seen false [.slice xsA xs.length xsC] xs xsF]) (all_cons xsO (by simp))
 refine W_sr (sA rfl rfl (s_nil (W_sr (sA rfl rfl (s_nil (W_seq (W_sr (sM rfl rfl (sV rfl (py_len tu229 rfl) (sM rfl rfl (s_nil (W_block (W_loopS (γ := Nat) H0 [(3, _), (6, _), (7, _)] ⟨rfl, rfl, rfl, trivial⟩ (fun k => [(8, .int .i64 k)]) (fun k => k ≤ xs.length ∧ (∀ i, i < k → xs.getD i 0 = 0)) (fun k => xs.length - k) 0 ⟨rfl, trivial⟩ ⟨by omega, fun i hi => by omega⟩ (fun k w1 H1 ⟨hk, he⟩ => ?_))))))))))))))
 dsimp only [lCA, lNA]
 refine W_sr (sV rfl (py_lss rfl rfl) (s_nil (W_seq (W_ifd rfl (fun c1 => ?_) (fun c1 => ?_)))))
 ·refine W_skip (W_seq (W_block (W_seq ?_)))
  obtain ⟨eb1, eo1, ee1, ec1⟩ := elem_int (H1.seen 0 rfl) k (by omega)
  have eI1 := elem_i64 (H1.seen 0 rfl) k (by omega)
  refine W_reg (sV rfl (py_elz tu229 ts3 rfl rfl ee1 k (by omega) (by omega)) (sV rfl (py_load tu3 rfl rfl ec1) (sA rfl rfl (s_nil (W_sr (sM rfl rfl (sM rfl rfl (sV rfl (py_neq rfl rfl) (s_nil (W_ifd rfl (fun c2 => ?_) (fun c2 => ?_)))))))))))
  ·refine W_sr (sM rfl rfl (sA rfl rfl (s_nil (rT hQ Tryz.results171 rfl ?_))))
   exact ⟨H1.ext, congrArg (Value.int .i64) (or_yes (k := k) (by omega) he c2).symm⟩
  ·refine W_skip (W_reg (sV rfl (py_add rfl rfl (in64 ⟨by omega, by omega⟩)) (sM rfl rfl (s_nil (⟨k + 1, ⟨rfl, rfl, rfl, rfl, trivial⟩, ⟨H1, by omega, fun i hi => ?_⟩, by dsimp only; omega⟩)))))
   by_cases e : i = k
   ·subst e
    omega
   ·exact he i (by omega)
 ·refine W_exit (W_sr (sM rfl rfl (sA rfl rfl (s_nil (rT hQ Tryz.results171 rfl ?_)))))
  exact ⟨H1.ext, congrArg (Value.int .i64) (or_no (fun i hi => he i (by omega))).symm⟩
theorem Tryz_impl_World_counted_1 {w : World} {x y : Rec} {xA6 xA7 xA8 yA6 yA7 yA8 : Option Addr} {xC6 xC7 xC8 yC6 yC7 yC8 : Nat}  : Ret Tryz.prog 170 #[x.val xA6 xC6 xA7 xC7 xA8 xC8, y.val yA6 yC6 yA7 yC7 yA8 yC8] w fun v w' => Ext No w w' ∧ (v = .int .i64 (cfR x y)) := by
 have b1 := cmpI_bd (a := x.Seq) (b := y.Seq)
 have b2 := cmpI_bd (a := x.Kind) (b := y.Kind)
 have b3 := cmpI_bd (a := x.Group) (b := y.Group)
 refine ret_Q (vs := [x.val xA6 xC6 xA7 xC7 xA8 xC8, y.val yA6 yC6 yA7 yC7 yA8 yC8]) Tryz.func170 rfl Tryz.ntmps170 rfl (fun Q hQ hN => ?_)
 have H0 := Sep.start (w := w) (F := []) (by simp)
 refine W_sr (s_box (wn rfl) rfl rfl H0 (fun b1 w1 e1 g1 H1 => ?_))
 refine s_box (wn rfl) rfl rfl H1 (fun b2 w2 e2 g2 H2 => ?_)
 refine sA rfl rfl (s_nil (W_seq (W_drw (S := Ext No _) [(0, true), (1, true), (2, true), (3, true), (5, true), (6, true), (7, true), (8, true), (10, true), (11, true), (12, true), (13, true), (4, false), (9, false), (14, false), (15, false), (16, false), (17, false)] (by kernel_rfl) (by kernel_rfl) (by kernel_rfl) rfl (fun _ => Ext.refl.drawn _) (fun q1 => ?_))))
 have H3 := H2.drawn q1
 refine dV rfl rfl (fun zw hx => py_field tu68 rfl ts2 rfl rfl) (dV rfl rfl (fun zw hx => py_load tu2 rfl rfl (cell_atL (hx.heap (H3.box 0 rfl)) rfl)) (dV rfl rfl (fun zw hx => py_field tu68 rfl ts2 rfl rfl) (dV rfl rfl (fun zw hx => py_load tu2 rfl rfl (cell_atL (hx.heap (H3.box 1 rfl)) rfl)) (dV rfl rfl (fun zw hx => py_field tu68 rfl ts2 rfl rfl) (dV rfl rfl (fun zw hx => py_load tu2 rfl rfl (cell_atL (hx.heap (H3.box 0 rfl)) rfl)) (dV rfl rfl (fun zw hx => py_field tu68 rfl ts2 rfl rfl) (dV rfl rfl (fun zw hx => py_load tu2 rfl rfl (cell_atL (hx.heap (H3.box 1 rfl)) rfl)) (dV rfl rfl (fun zw hx => py_field tu68 rfl ts2 rfl rfl) (dV rfl rfl (fun zw hx => py_load tu2 rfl rfl (cell_atL (hx.heap (H3.box 0 rfl)) rfl)) (dV rfl rfl (fun zw hx => py_field tu68 rfl ts2 rfl rfl) (dV rfl rfl (fun zw hx => py_load tu2 rfl rfl (cell_atL (hx.heap (H3.box 1 rfl)) rfl)) (d_call rfl (wn rfl) rfl rfl (pc_call Tryz.func172 rfl Tryz_nm172 rfl) Tryz_cmp_Compare_int64 (fun hS _ _ r _ => hS.trans r.1.no) (fun v1 w3 r1 => ?_)))))))))))))
 obtain ⟨e3, rfl⟩ := r1
 have H4 := H3.to e3
 refine d_call rfl (wn rfl) rfl rfl (pc_call Tryz.func172 rfl Tryz_nm172 rfl) Tryz_cmp_Compare_int64 (fun hS _ _ r _ => hS.trans r.1.no) (fun v2 w4 r2 => ?_)
 obtain ⟨e4, rfl⟩ := r2
 have H5 := H4.to e4
 refine d_call rfl (wn rfl) rfl rfl (pc_call Tryz.func172 rfl Tryz_nm172 rfl) Tryz_cmp_Compare_int64 (fun hS _ _ r _ => hS.trans r.1.no) (fun v3 w5 r3 => ?_)
 obtain ⟨e5, rfl⟩ := r3
 have H6 := H5.to e5
 refine d_litI ([cmpI x.Seq y.Seq, cmpI x.Kind y.Kind, cmpI x.Group y.Group]) rfl (wn rfl) rfl tu229 Tryz_ty3 rfl rfl (by intro x hx; unfold I64ok; simp only [List.mem_cons, List.not_mem_nil, or_false] at hx; omega) (by simp) (by simp) H6 (fun _ h e => h.trans e.no) (fun b3 w6 e6 g3 H7 => ?_)
 refine d_call rfl (wn rfl) rfl rfl (pc_call Tryz.func171 rfl Tryz_nm171 rfl) (Tryz_cmp_Or_int (H7.msees 2 rfl)) (fun hS _ _ r _ => hS.trans r.1.no) (fun v4 w7 r4 => ?_)
 obtain ⟨e7, rfl⟩ := r4
 have H8 := H7.to e7
 refine d_end rfl (wn rfl) rfl rfl (py_assign rfl) (d_nil (rT hQ Tryz.results170 rfl ?_))
 exact ⟨H8.ext, congrArg (Value.int .i64) or_cf⟩
theorem Tryz_impl_has_1 {w : World} {x r : Rec} {xA6 xA7 xA8 rA6 rA7 rA8 : Option Addr} {xC6 xC7 xC8 rb rC6 rC7 rC8 : Nat} (xK : x.Ok) (xS6 : Sees w [.slice xA6 x.Rows.length xC6] x.Rows) (xS7 : Sees w [.slice xA7 x.Data.length xC7] x.Data) (xS8 : Sees w [.slice xA8 x.Delta.length xC8] x.Delta) (rB : w.heap[rb]? = some (.cells [.int .i64 r.Kind, .int .i64 r.Seq, .string r.Name, .int .i64 r.Length, .int .i64 r.Group, .int .i64 r.Row, .slice rA6 r.Rows.length rC6, .slice rA7 r.Data.length rC7, .slice rA8 r.Delta.length rC8].toArray 68)) (rK : r.Ok) (rS6 : Sees w [.slice rA6 r.Rows.length rC6] r.Rows) (rS7 : Sees w [.slice rA7 r.Data.length rC7] r.Data) (rS8 : Sees w [.slice rA8 r.Delta.length rC8] r.Delta) : Ret Tryz.prog 260 #[x.val xA6 xC6 xA7 xC7 xA8 xC8, .pointer (some ⟨rb, 0, none⟩)] w fun v w' => Ext No w w' ∧ (v = .bool (decide (x = r))) := by
 have xK2 := xK
 unfold Rec.Ok at xK2
 try unfold I64ok at xK2
 try unfold maxLen at xK2
 have xN2 : x.Name.size ≤ maxLen := by unfold maxLen; omega
 have xL6 := sL xS6
 obtain ⟨xF6, xO6⟩ := xS6
 have xL7 := sL xS7
 obtain ⟨xF7, xO7⟩ := xS7
 have xL8 := sL xS8
 obtain ⟨xF8, xO8⟩ := xS8
 have rK2 := rK
 unfold Rec.Ok at rK2
 try unfold I64ok at rK2
 try unfold maxLen at rK2
 have rN2 : r.Name.size ≤ maxLen := by unfold maxLen; omega
 have rL6 := sL rS6
 obtain ⟨rF6, rO6⟩ := rS6
 have rL7 := sL rS7
 obtain ⟨rF7, rO7⟩ := rS7
 have rL8 := sL rS8
 obtain ⟨rF8, rO8⟩ := rS8
 refine ret_Q (vs := [x.val xA6 xC6 xA7 xC7 xA8 xC8, .pointer (some ⟨rb, 0, none⟩)]) Tryz.func260 rfl Tryz.ntmps260 rfl (fun Q hQ hN => ?_)
 have H0 := Sep.start (w := w) (F := [seen false [.slice xA6 x.Rows.length xC6] x.Rows xF6, seen false [.slice xA7 x.Data.length xC7] x.Data xF7, seen false [.slice xA8 x.Delta.length xC8] x.Delta xF8, box rb (.cells [.int .i64 r.Kind, .int .i64 r.Seq, .string r.Name, .int .i64 r.Length, .int .i64 r.Group, .int .i64 r.Row, .slice rA6 r.Rows.length rC6, .slice rA7 r.Data.length rC7, .slice rA8 r.Delta.length rC8].toArray 68), seen false [.slice rA6 r.Rows.length rC6] r.Rows rF6, seen false [.slice rA7 r.Data.length rC7] r.Data rF7, seen false [.slice rA8 r.Delta.length rC8] r.Delta rF8]) (all_cons xO6 (all_cons xO7 (all_cons xO8 (all_cons (by exact rB) (all_cons rO6 (all_cons rO7 (all_cons rO8 (by simp))))))))
 refine W_sr (s_box (wn rfl) rfl rfl H0 (fun b1 w1 e1 g1 H1 => ?_))
 refine sA rfl rfl (s_nil (W_sr (sV rfl (py_loadS tu68 rfl ts68 rfl rfl (At.whole (H1.box 0 rfl))) (sV rfl (py_loadS tu68 rfl ts68 rfl rfl (At.whole (H1.fbox 3 rfl))) (s_call (wn rfl) rfl rfl (pc_call Tryz.func204 rfl Tryz_nm204 rfl) (Tryz_impl_sameRec (by assumption) (H1.sees 0 rfl) (H1.sees 1 rfl) (H1.sees 2 rfl) (by assumption) (H1.sees 4 rfl) (H1.sees 5 rfl) (H1.sees 6 rfl)) (fun v1 w2 r1 => ?_))))))
 obtain ⟨e2, rfl⟩ := r1
 have H2 := H1.to e2
 refine sA rfl rfl (s_nil (rT hQ Tryz.results260 rfl ?_))
 exact ⟨H2.ext, rfl⟩
theorem Tryz_impl_has {w : World} {xs : List Rec} {xsA rA6 rA7 rA8 : Option Addr} {xsC rC6 rC7 rC8 : Nat} {r : Rec} (xsS : Sees w [.slice xsA xs.length xsC] xs) (rK : r.Ok) (rS6 : Sees w [.slice rA6 r.Rows.length rC6] r.Rows) (rS7 : Sees w [.slice rA7 r.Data.length rC7] r.Data) (rS8 : Sees w [.slice rA8 r.Delta.length rC8] r.Delta) : Ret Tryz.prog 168 #[.slice xsA xs.length xsC, r.val rA6 rC6 rA7 rC7 rA8 rC8] w fun v w' => Ext No w w' ∧ (v = .bool (decide (r ∈ xs))) := by
 have xsL := sL xsS
 obtain ⟨xsF, xsO⟩ := xsS
 have rK2 := rK
 unfold Rec.Ok at rK2
 try unfold I64ok at rK2
 try unfold maxLen at rK2
 have rN2 : r.Name.size ≤ maxLen := by unfold maxLen; omega
 have rL6 := sL rS6
 obtain ⟨rF6, rO6⟩ := rS6
 have rL7 := sL rS7
 obtain ⟨rF7, rO7⟩ := rS7
 have rL8 := sL rS8
 obtain ⟨rF8, rO8⟩ := rS8
 refine ret_Q (vs := [.slice xsA xs.length xsC, r.val rA6 rC6 rA7 rC7 rA8 rC8]) Tryz.func168 rfl Tryz.ntmps168 rfl (fun Q hQ hN => ?_)
 have H0 := Sep.start (w := w) (F := [seen false [.slice xsA xs.length xsC] xs xsF, seen false [.slice rA6 r.Rows.length rC6] r.Rows rF6, seen false [.slice rA7 r.Data.length rC7] r.Data rF7, seen false [.slice rA8 r.Delta.length rC8] r.Delta rF8]) (all_cons xsO (all_cons rO6 (all_cons rO7 (all_cons rO8 (by simp)))))
 refine W_sr (s_box (wn rfl) rfl rfl H0 (fun b1 w1 e1 g1 H1 => ?_))
 refine sA rfl rfl (s_nil (W_sr (sM rfl rfl (sV rfl (py_func rfl) (s_call (wn rfl) rfl rfl (pc_call Tryz.func221 rfl Tryz_nm221 rfl) (Tryz_ContainsFunc_Rec (H1.sees 0 rfl) (p := (fun x => decide (x = r))) Tryz.func260 rfl Tryz_nm260 (fun w1 e1 i0 hi0 _ _ _ _ _ _ K0 o0_6 o0_7 o0_8 => Tryz_impl_has_1 K0 o0_6 o0_7 o0_8 ((H1.to e1).box 0 rfl) (by assumption) ((H1.to e1).sees 1 rfl) ((H1.to e1).sees 2 rfl) ((H1.to e1).sees 3 rfl))) (fun v1 w2 r1 => ?_))))))
 obtain ⟨e2, rfl⟩ := r1
 have H2 := H1.to e2
 refine sA rfl rfl (s_nil (rT hQ Tryz.results168 rfl ?_))
 exact ⟨H2.ext, congrArg Value.bool any_eq⟩
theorem Tryz_spec_l6Nums {w : World} {xs ys : List Int} {xsA ysA : Option Addr} {xsC ysC : Nat} (xsS : Sees w [.slice xsA xs.length xsC] xs) (ysS : Sees w [.slice ysA ys.length ysC] ys) : Ret Tryz.prog 306 #[.slice xsA xs.length xsC, .slice ysA ys.length ysC] w fun v w' => Ext No w w' ∧ (v = .bool (decide (xs = ys))) := by
 have xsL := sL xsS
 obtain ⟨xsF, xsO⟩ := xsS
 have ysL := sL ysS
 obtain ⟨ysF, ysO⟩ := ysS
 refine ret_Q (vs := [.slice xsA xs.length xsC, .slice ysA ys.length ysC]) Tryz.func306 rfl Tryz.ntmps306 rfl (fun Q hQ hN => ?_)
 have H0 := Sep.start (w := w) (F := [seen false [.slice xsA xs.length xsC] xs xsF, seen false [.slice ysA ys.length ysC] ys ysF]) (all_cons xsO (all_cons ysO (by simp)))
 refine W_sr (sA rfl rfl (s_nil (W_seq (W_sr (sM rfl rfl (sV rfl (py_len tu25 rfl) (sM rfl rfl (sV rfl (py_len tu25 rfl) (sV rfl (py_neq rfl rfl) (s_nil (W_ifd rfl (fun c1 => ?_) (fun c1 => ?_))))))))))))
 ·refine W_sr (sA rfl rfl (s_nil (rT hQ Tryz.results306 rfl (⟨H0.ext, ?_⟩))))
  rw [decide_eq_false (fun e => by subst e; exact c1 rfl)]
 ·refine W_skip (W_seq (W_sr (sA rfl rfl (s_nil (W_block (W_loopS (γ := Nat) H0 [(0, _), (1, _)] ⟨rfl, rfl, trivial⟩ (fun k => [(5, .int .i64 k)]) (fun k => k ≤ xs.length ∧ (∀ i, i < k → xs.getD i 0 = ys.getD i 0)) (fun k => xs.length - k) 0 ⟨rfl, trivial⟩ ⟨by omega, fun i hi => by omega⟩ (fun k w1 H1 ⟨hk, he⟩ => ?_)))))))
  dsimp only [lCA, lNA]
  refine W_seq (W_sr (sM rfl rfl (sM rfl rfl (sV rfl (py_len tu25 rfl) (sV rfl (py_lss rfl rfl) (s_nil (W_ifd rfl (fun c2 => ?_) (fun c2 => ?_))))))))
  ·refine W_skip (W_seq (W_block (W_seq ?_)))
   obtain ⟨eb1, eo1, ee1, ec1⟩ := elem_int (H1.seen 0 rfl) k (by omega)
   have eI1 := elem_i64 (H1.seen 0 rfl) k (by omega)
   obtain ⟨eb2, eo2, ee2, ec2⟩ := elem_int (H1.seen 1 rfl) k (by omega)
   have eI2 := elem_i64 (H1.seen 1 rfl) k (by omega)
   refine W_drw (S := Ext No _) [(0, true), (1, true), (2, true), (3, true), (4, true), (5, true), (6, true), (7, true), (8, false)] (by kernel_rfl) (by kernel_rfl) (by kernel_rfl) rfl (fun _ => Ext.refl.drawn _) (fun q1 => ?_)
   have H2 := H1.drawn q1
   refine dM rfl rfl rfl (dM rfl rfl rfl (dV rfl rfl (fun zw hx => py_elz tu25 ts2 rfl rfl ee1 k (by omega) (by omega)) (dV rfl rfl (fun zw hx => py_load tu2 rfl rfl (hx.cell ec1)) (dM rfl rfl rfl (dM rfl rfl rfl (dV rfl rfl (fun zw hx => py_elz tu25 ts2 rfl rfl ee2 k (by omega) (by omega)) (dV rfl rfl (fun zw hx => py_load tu2 rfl rfl (hx.cell ec2)) (d_end rfl (wn rfl) rfl rfl (py_neq rfl rfl) (d_nil (W_ifd rfl (fun c3 => ?_) (fun c3 => ?_)))))))))))
   ·refine W_sr (sA rfl rfl (s_nil (rT hQ Tryz.results306 rfl (⟨H2.ext, ?_⟩))))
    rw [decide_eq_false (fun e => by subst e; exact c3 rfl)]
   ·refine W_skip (W_reg (sM rfl rfl (sV rfl (py_add rfl rfl (in64 ⟨by omega, by omega⟩)) (sA rfl rfl (s_nil (⟨k + 1, ⟨rfl, rfl, rfl, trivial⟩, ⟨H2, by omega, fun i hi => ?_⟩, by dsimp only; omega⟩))))))
    by_cases e : i = k
    ·subst e
     omega
    ·exact he i (by omega)
  ·refine W_exit (W_sr (sA rfl rfl (s_nil (rT hQ Tryz.results306 rfl (⟨H1.ext, ?_⟩)))))
   rw [decide_eq_true (getD_ext (d := 0) (by omega) fun i hi => he i (by omega))]
theorem Tryz_l2Same_c {w : World} {xs ys : List UInt8} {xsA ysA : Option Addr} {xsC ysC : Nat} (xsS : Sees w [.slice xsA xs.length xsC] xs) (ysS : Sees w [.slice ysA ys.length ysC] ys) : Ret Tryz.prog 259 #[.slice xsA xs.length xsC, .slice ysA ys.length ysC] w fun v w' => Ext No w w' ∧ (v = .bool (decide (xs = ys))) := by
 have xsL := sL xsS
 obtain ⟨xsF, xsO⟩ := xsS
 have ysL := sL ysS
 obtain ⟨ysF, ysO⟩ := ysS
 refine ret_Q (vs := [.slice xsA xs.length xsC, .slice ysA ys.length ysC]) Tryz.func259 rfl Tryz.ntmps259 rfl (fun Q hQ hN => ?_)
 have H0 := Sep.start (w := w) (F := [seen false [.slice xsA xs.length xsC] xs xsF, seen false [.slice ysA ys.length ysC] ys ysF]) (all_cons xsO (all_cons ysO (by simp)))
 refine W_sr (sA rfl rfl (s_nil (W_seq (W_sr (sM rfl rfl (sV rfl (py_len tu45 rfl) (sM rfl rfl (sV rfl (py_len tu45 rfl) (sV rfl (py_neq rfl rfl) (s_nil (W_ifd rfl (fun c1 => ?_) (fun c1 => ?_))))))))))))
 ·refine W_sr (sA rfl rfl (s_nil (rT hQ Tryz.results259 rfl (⟨H0.ext, ?_⟩))))
  rw [decide_eq_false (fun e => by subst e; exact c1 rfl)]
 ·refine W_skip (W_seq (W_sr (sA rfl rfl (s_nil (W_block (W_loopS (γ := Nat) H0 [(0, _), (1, _)] ⟨rfl, rfl, trivial⟩ (fun k => [(5, .int .i64 k)]) (fun k => k ≤ xs.length ∧ (∀ i, i < k → xs.getD i 0 = ys.getD i 0)) (fun k => xs.length - k) 0 ⟨rfl, trivial⟩ ⟨by omega, fun i hi => by omega⟩ (fun k w1 H1 ⟨hk, he⟩ => ?_)))))))
  dsimp only [lCA, lNA]
  refine W_seq (W_sr (sM rfl rfl (sM rfl rfl (sV rfl (py_len tu45 rfl) (sV rfl (py_lss rfl rfl) (s_nil (W_ifd rfl (fun c2 => ?_) (fun c2 => ?_))))))))
  ·refine W_skip (W_seq (W_block (W_seq ?_)))
   obtain ⟨eb1, eo1, ee1, ec1⟩ := elem_u8 (H1.seen 0 rfl) k (by omega)
   obtain ⟨eb2, eo2, ee2, ec2⟩ := elem_u8 (H1.seen 1 rfl) k (by omega)
   refine W_drw (S := Ext No _) [(0, true), (1, true), (2, true), (3, true), (4, true), (5, true), (6, true), (7, true), (8, false)] (by kernel_rfl) (by kernel_rfl) (by kernel_rfl) rfl (fun _ => Ext.refl.drawn _) (fun q1 => ?_)
   have H2 := H1.drawn q1
   refine dM rfl rfl rfl (dM rfl rfl rfl (dV rfl rfl (fun zw hx => py_elz tu45 ts5 rfl rfl ee1 k (by omega) (by omega)) (dV rfl rfl (fun zw hx => py_load tu5 rfl rfl (hx.cell ec1)) (dM rfl rfl rfl (dM rfl rfl rfl (dV rfl rfl (fun zw hx => py_elz tu45 ts5 rfl rfl ee2 k (by omega) (by omega)) (dV rfl rfl (fun zw hx => py_load tu5 rfl rfl (hx.cell ec2)) (d_end rfl (wn rfl) rfl rfl (py_neq rfl rfl) (d_nil (W_ifd rfl (fun c3 => ?_) (fun c3 => ?_)))))))))))
   ·refine W_sr (sA rfl rfl (s_nil (rT hQ Tryz.results259 rfl (⟨H2.ext, ?_⟩))))
    rw [decide_eq_false (fun e => by subst e; exact c3 rfl)]
   ·refine W_skip (W_reg (sM rfl rfl (sV rfl (py_add rfl rfl (in64 ⟨by omega, by omega⟩)) (sA rfl rfl (s_nil (⟨k + 1, ⟨rfl, rfl, rfl, trivial⟩, ⟨H2, by omega, fun i hi => ?_⟩, by dsimp only; omega⟩))))))
    by_cases e : i = k
    ·subst e
     (apply u8_inj.1; omega)
    ·exact he i (by omega)
  ·refine W_exit (W_sr (sA rfl rfl (s_nil (rT hQ Tryz.results259 rfl (⟨H1.ext, ?_⟩)))))
   rw [decide_eq_true (getD_ext (d := 0) (by omega) fun i hi => he i (by omega))]
theorem Tryz_spec_SameRec {w : World} {a b : Rec} {aA6 aA7 aA8 bA6 bA7 bA8 : Option Addr} {aC6 aC7 aC8 bC6 bC7 bC8 : Nat} (aK : a.Ok) (aS6 : Sees w [.slice aA6 a.Rows.length aC6] a.Rows) (aS7 : Sees w [.slice aA7 a.Data.length aC7] a.Data) (aS8 : Sees w [.slice aA8 a.Delta.length aC8] a.Delta) (bK : b.Ok) (bS6 : Sees w [.slice bA6 b.Rows.length bC6] b.Rows) (bS7 : Sees w [.slice bA7 b.Data.length bC7] b.Data) (bS8 : Sees w [.slice bA8 b.Delta.length bC8] b.Delta) : Ret Tryz.prog 233 #[a.val aA6 aC6 aA7 aC7 aA8 aC8, b.val bA6 bC6 bA7 bC7 bA8 bC8] w fun v w' => Ext No w w' ∧ (v = .bool (decide (a = b))) := by
 have aK2 := aK
 unfold Rec.Ok at aK2
 try unfold I64ok at aK2
 try unfold maxLen at aK2
 have aN2 : a.Name.size ≤ maxLen := by unfold maxLen; omega
 have aL6 := sL aS6
 obtain ⟨aF6, aO6⟩ := aS6
 have aL7 := sL aS7
 obtain ⟨aF7, aO7⟩ := aS7
 have aL8 := sL aS8
 obtain ⟨aF8, aO8⟩ := aS8
 have bK2 := bK
 unfold Rec.Ok at bK2
 try unfold I64ok at bK2
 try unfold maxLen at bK2
 have bN2 : b.Name.size ≤ maxLen := by unfold maxLen; omega
 have bL6 := sL bS6
 obtain ⟨bF6, bO6⟩ := bS6
 have bL7 := sL bS7
 obtain ⟨bF7, bO7⟩ := bS7
 have bL8 := sL bS8
 obtain ⟨bF8, bO8⟩ := bS8
 refine ret_Q (vs := [a.val aA6 aC6 aA7 aC7 aA8 aC8, b.val bA6 bC6 bA7 bC7 bA8 bC8]) Tryz.func233 rfl Tryz.ntmps233 rfl (fun Q hQ hN => ?_)
 have H0 := Sep.start (w := w) (F := [seen false [.slice aA6 a.Rows.length aC6] a.Rows aF6, seen false [.slice aA7 a.Data.length aC7] a.Data aF7, seen false [.slice aA8 a.Delta.length aC8] a.Delta aF8, seen false [.slice bA6 b.Rows.length bC6] b.Rows bF6, seen false [.slice bA7 b.Data.length bC7] b.Data bF7, seen false [.slice bA8 b.Delta.length bC8] b.Delta bF8]) (all_cons aO6 (all_cons aO7 (all_cons aO8 (all_cons bO6 (all_cons bO7 (all_cons bO8 (by simp)))))))
 refine W_sr (s_box (wn rfl) rfl rfl H0 (fun b1 w1 e1 g1 H1 => ?_))
 refine s_box (wn rfl) rfl rfl H1 (fun b2 w2 e2 g2 H2 => ?_)
 refine sA rfl rfl (s_nil (W_sr (sV rfl (py_field tu68 rfl ts2 rfl rfl) (sV rfl (py_load tu2 rfl rfl (cell_atL (H2.box 0 rfl) rfl)) (sV rfl (py_field tu68 rfl ts2 rfl rfl) (sV rfl (py_load tu2 rfl rfl (cell_atL (H2.box 1 rfl) rfl)) (sV rfl (py_eql rfl rfl) (sM rfl rfl (s_grp 5 (j := 5) (want := true) (t := 15) rfl rfl rfl rfl (fun hg1 kk1 => s_val (wgE rfl rfl rfl hg1) rfl rfl (py_field tu68 rfl ts2 rfl rfl) (s_val (wgE rfl rfl rfl hg1) rfl rfl (py_load tu2 rfl rfl (cell_atL (H2.box 0 rfl) rfl)) (s_val (wgE rfl rfl rfl hg1) rfl rfl (py_field tu68 rfl ts2 rfl rfl) (s_val (wgE rfl rfl rfl hg1) rfl rfl (py_load tu2 rfl rfl (cell_atL (H2.box 1 rfl) rfl)) (s_val (wgE rfl rfl rfl hg1) rfl rfl (py_eql rfl rfl) (kk1 _ _ (kx rfl (kx rfl (kx rfl (kx rfl (kx rfl k0))))) rfl Ext.refl)))))) (fun w3 e3 => ?_))))))))))
 have H3 := H2.to e3
 refine sV rfl (py_band rfl rfl) (sM rfl rfl (s_grp 5 (j := 12) (want := true) (t := 22) rfl rfl rfl rfl (fun hg2 kk2 => s_val (wgE rfl rfl rfl hg2) rfl rfl (py_field tu68 rfl ts9 rfl rfl) (s_val (wgE rfl rfl rfl hg2) rfl rfl (py_load tu9 rfl rfl (cell_atL (H3.box 0 rfl) rfl)) (s_val (wgE rfl rfl rfl hg2) rfl rfl (py_field tu68 rfl ts9 rfl rfl) (s_val (wgE rfl rfl rfl hg2) rfl rfl (py_load tu9 rfl rfl (cell_atL (H3.box 1 rfl) rfl)) (s_val (wgE rfl rfl rfl hg2) rfl rfl (py_seql rfl rfl) (kk2 _ _ (kx rfl (kx rfl (kx rfl (kx rfl (kx rfl k0))))) rfl Ext.refl)))))) (fun w4 e4 => ?_)))
 have H4 := H3.to e4
 refine sV rfl (py_band rfl rfl) (sM rfl rfl (s_grp 5 (j := 19) (want := true) (t := 29) rfl rfl rfl rfl (fun hg3 kk3 => s_val (wgE rfl rfl rfl hg3) rfl rfl (py_field tu68 rfl ts2 rfl rfl) (s_val (wgE rfl rfl rfl hg3) rfl rfl (py_load tu2 rfl rfl (cell_atL (H4.box 0 rfl) rfl)) (s_val (wgE rfl rfl rfl hg3) rfl rfl (py_field tu68 rfl ts2 rfl rfl) (s_val (wgE rfl rfl rfl hg3) rfl rfl (py_load tu2 rfl rfl (cell_atL (H4.box 1 rfl) rfl)) (s_val (wgE rfl rfl rfl hg3) rfl rfl (py_eql rfl rfl) (kk3 _ _ (kx rfl (kx rfl (kx rfl (kx rfl (kx rfl k0))))) rfl Ext.refl)))))) (fun w5 e5 => ?_)))
 have H5 := H4.to e5
 refine sV rfl (py_band rfl rfl) (sM rfl rfl (s_grp 5 (j := 26) (want := true) (t := 36) rfl rfl rfl rfl (fun hg4 kk4 => s_val (wgE rfl rfl rfl hg4) rfl rfl (py_field tu68 rfl ts2 rfl rfl) (s_val (wgE rfl rfl rfl hg4) rfl rfl (py_load tu2 rfl rfl (cell_atL (H5.box 0 rfl) rfl)) (s_val (wgE rfl rfl rfl hg4) rfl rfl (py_field tu68 rfl ts2 rfl rfl) (s_val (wgE rfl rfl rfl hg4) rfl rfl (py_load tu2 rfl rfl (cell_atL (H5.box 1 rfl) rfl)) (s_val (wgE rfl rfl rfl hg4) rfl rfl (py_eql rfl rfl) (kk4 _ _ (kx rfl (kx rfl (kx rfl (kx rfl (kx rfl k0))))) rfl Ext.refl)))))) (fun w6 e6 => ?_)))
 have H6 := H5.to e6
 refine sV rfl (py_band rfl rfl) (sM rfl rfl (s_grp 5 (j := 33) (want := true) (t := 43) rfl rfl rfl rfl (fun hg5 kk5 => s_val (wgE rfl rfl rfl hg5) rfl rfl (py_field tu68 rfl ts2 rfl rfl) (s_val (wgE rfl rfl rfl hg5) rfl rfl (py_load tu2 rfl rfl (cell_atL (H6.box 0 rfl) rfl)) (s_val (wgE rfl rfl rfl hg5) rfl rfl (py_field tu68 rfl ts2 rfl rfl) (s_val (wgE rfl rfl rfl hg5) rfl rfl (py_load tu2 rfl rfl (cell_atL (H6.box 1 rfl) rfl)) (s_val (wgE rfl rfl rfl hg5) rfl rfl (py_eql rfl rfl) (kk5 _ _ (kx rfl (kx rfl (kx rfl (kx rfl (kx rfl k0))))) rfl Ext.refl)))))) (fun w7 e7 => ?_)))
 have H7 := H6.to e7
 refine sV rfl (py_band rfl rfl) (sM rfl rfl (s_grp 5 (j := 40) (want := true) (t := 50) rfl rfl rfl rfl (fun hg6 kk6 => s_val (wgE rfl rfl rfl hg6) rfl rfl (py_field tu68 rfl ts25 rfl rfl) (s_val (wgE rfl rfl rfl hg6) rfl rfl (py_load tu25 rfl rfl (cell_atL (H7.box 0 rfl) rfl)) (s_val (wgE rfl rfl rfl hg6) rfl rfl (py_field tu68 rfl ts25 rfl rfl) (s_val (wgE rfl rfl rfl hg6) rfl rfl (py_load tu25 rfl rfl (cell_atL (H7.box 1 rfl) rfl)) (s_callv (wgE rfl rfl rfl hg6) rfl rfl (pc_call Tryz.func306 rfl Tryz_nm306 rfl) (Tryz_spec_l6Nums (H7.sees 0 rfl) (H7.sees 3 rfl)) (fun w9 e9 => kk6 _ _ (kx rfl (kx rfl (kx rfl (kx rfl (kx rfl k0))))) rfl (Ext.refl.trans e9))))))) (fun w8 e8 => ?_)))
 have H8 := H7.to e8
 refine sV rfl (py_band rfl rfl) (sM rfl rfl (s_grp 5 (j := 47) (want := true) (t := 57) rfl rfl rfl rfl (fun hg7 kk7 => s_val (wgE rfl rfl rfl hg7) rfl rfl (py_field tu68 rfl ts45 rfl rfl) (s_val (wgE rfl rfl rfl hg7) rfl rfl (py_load tu45 rfl rfl (cell_atL (H8.box 0 rfl) rfl)) (s_val (wgE rfl rfl rfl hg7) rfl rfl (py_field tu68 rfl ts45 rfl rfl) (s_val (wgE rfl rfl rfl hg7) rfl rfl (py_load tu45 rfl rfl (cell_atL (H8.box 1 rfl) rfl)) (s_callv (wgE rfl rfl rfl hg7) rfl rfl (pc_call Tryz.func259 rfl Tryz_nm259 rfl) (Tryz_l2Same_c (H8.sees 1 rfl) (H8.sees 4 rfl)) (fun w11 e11 => kk7 _ _ (kx rfl (kx rfl (kx rfl (kx rfl (kx rfl k0))))) rfl (Ext.refl.trans e11))))))) (fun w10 e10 => ?_)))
 have H9 := H8.to e10
 refine sV rfl (py_band rfl rfl) (sM rfl rfl (s_grp 5 (j := 54) (want := true) (t := 64) rfl rfl rfl rfl (fun hg8 kk8 => s_val (wgE rfl rfl rfl hg8) rfl rfl (py_field tu68 rfl ts45 rfl rfl) (s_val (wgE rfl rfl rfl hg8) rfl rfl (py_load tu45 rfl rfl (cell_atL (H9.box 0 rfl) rfl)) (s_val (wgE rfl rfl rfl hg8) rfl rfl (py_field tu68 rfl ts45 rfl rfl) (s_val (wgE rfl rfl rfl hg8) rfl rfl (py_load tu45 rfl rfl (cell_atL (H9.box 1 rfl) rfl)) (s_callv (wgE rfl rfl rfl hg8) rfl rfl (pc_call Tryz.func259 rfl Tryz_nm259 rfl) (Tryz_l2Same_c (H9.sees 2 rfl) (H9.sees 5 rfl)) (fun w13 e13 => kk8 _ _ (kx rfl (kx rfl (kx rfl (kx rfl (kx rfl k0))))) rfl (Ext.refl.trans e13))))))) (fun w12 e12 => ?_)))
 have H10 := H9.to e12
 refine sV rfl (py_band rfl rfl) (sA rfl rfl (s_nil (rT hQ Tryz.results233 rfl ?_)))
 exact ⟨H10.ext, congrArg Value.bool (by rw [← same_rec]; simp only [Bool.and_assoc])⟩
theorem Tryz_spec_l6Holds {w : World} {xs : List Rec} {xsA rA6 rA7 rA8 : Option Addr} {xsC rC6 rC7 rC8 : Nat} {r : Rec} (xsS : Sees w [.slice xsA xs.length xsC] xs) (rK : r.Ok) (rS6 : Sees w [.slice rA6 r.Rows.length rC6] r.Rows) (rS7 : Sees w [.slice rA7 r.Data.length rC7] r.Data) (rS8 : Sees w [.slice rA8 r.Delta.length rC8] r.Delta) : Ret Tryz.prog 138 #[.slice xsA xs.length xsC, r.val rA6 rC6 rA7 rC7 rA8 rC8] w fun v w' => Ext No w w' ∧ (v = .bool (decide (r ∈ xs))) := by
 have xsL := sL xsS
 obtain ⟨xsF, xsO⟩ := xsS
 have rK2 := rK
 unfold Rec.Ok at rK2
 try unfold I64ok at rK2
 try unfold maxLen at rK2
 have rN2 : r.Name.size ≤ maxLen := by unfold maxLen; omega
 have rL6 := sL rS6
 obtain ⟨rF6, rO6⟩ := rS6
 have rL7 := sL rS7
 obtain ⟨rF7, rO7⟩ := rS7
 have rL8 := sL rS8
 obtain ⟨rF8, rO8⟩ := rS8
 refine ret_Q (vs := [.slice xsA xs.length xsC, r.val rA6 rC6 rA7 rC7 rA8 rC8]) Tryz.func138 rfl Tryz.ntmps138 rfl (fun Q hQ hN => ?_)
 have H0 := Sep.start (w := w) (F := [seen false [.slice xsA xs.length xsC] xs xsF, seen false [.slice rA6 r.Rows.length rC6] r.Rows rF6, seen false [.slice rA7 r.Data.length rC7] r.Data rF7, seen false [.slice rA8 r.Delta.length rC8] r.Delta rF8]) (all_cons xsO (all_cons rO6 (all_cons rO7 (all_cons rO8 (by simp)))))
 refine W_sr (s_box (wn rfl) rfl rfl H0 (fun b1 w1 e1 g1 H1 => ?_))
 refine sA rfl rfl (s_nil (W_seq (W_sr (sA rfl rfl (s_nil (W_block (W_loopS (γ := Nat) H1 [(0, _), (3, _)] ⟨rfl, rfl, trivial⟩ (fun k => [(5, .int .i64 k)]) (fun k => k ≤ xs.length ∧ (∀ i, i < k → decide (xs.getD i default = r) = false)) (fun k => xs.length - k) 0 ⟨rfl, trivial⟩ ⟨by omega, fun i hi => by omega⟩ (fun k w2 H2 ⟨hk, he⟩ => ?_))))))))
 dsimp only [lCA, lNA]
 refine W_seq (W_sr (sM rfl rfl (sM rfl rfl (sV rfl (py_len tu30 rfl) (sV rfl (py_lss rfl rfl) (s_nil (W_ifd rfl (fun c1 => ?_) (fun c1 => ?_))))))))
 ·refine W_skip (W_seq (W_block (W_seq ?_)))
  obtain ⟨eb1, eo1, es1, ef1, ee1, ec1, eO1, eH1, em1⟩ := elem_st (H2.seen 0 rfl) k (by omega)
  obtain ⟨ea1, ek1, ea2, ek2, ea3, ek3, eg1, eg2, eg3, rfl, eq1, eK1, eo2, eo3, eo4⟩ := own_Rec eO1
  have eK1U := eK1
  unfold Rec.Ok at eK1U
  try unfold I64ok at eK1U
  try unfold maxLen at eK1U
  have eP1 := H2.look1 0 rfl eo2 (fun b hb => eH1 b (by rw [eq1]; simp [hb]))
  have eL1 := oL eo2
  have eP2 := eP1.look1 0 rfl eo3 (fun b hb => eH1 b (by rw [eq1]; simp [hb]))
  have eL2 := oL eo3
  have eP3 := eP2.look1 0 rfl eo4 (fun b hb => eH1 b (by rw [eq1]; simp [hb]))
  have eL3 := oL eo4
  refine W_drw (S := Ext No _) [(0, true), (1, true), (2, true), (3, true), (4, true), (5, false)] (by kernel_rfl) (by kernel_rfl) (by kernel_rfl) rfl (fun _ => Ext.refl.drawn _) (fun q1 => ?_)
  have H3 := eP3.drawn q1
  refine dM rfl rfl rfl (dM rfl rfl rfl (dV rfl rfl (fun zw hx => py_elz tu30 ts68 rfl rfl ee1 k (by omega) (by omega)) (dV rfl rfl (fun zw hx => py_loadS tu68 rfl ts68 rfl rfl (hx.at ec1)) (dV rfl rfl (fun zw hx => py_loadS tu68 rfl ts68 rfl rfl (At.whole (hx.heap (H3.box 0 rfl)))) (d_call rfl (wn rfl) rfl rfl (pc_call Tryz.func233 rfl Tryz_nm233 rfl) (Tryz_spec_SameRec (by assumption) (H3.sees 4 rfl) (H3.sees 5 rfl) (H3.sees 6 rfl) (by assumption) (H3.sees 1 rfl) (H3.sees 2 rfl) (H3.sees 3 rfl)) (fun hS _ _ r _ => hS.trans r.1.no) (fun v1 w3 r1 => ?_))))))
  obtain ⟨e2, rfl⟩ := r1
  have H4 := H3.to e2
  refine d_nil (W_if rfl (fun c2 => ?_) (fun c2 => ?_))
  ·refine W_sr (sA rfl rfl (s_nil (rT hQ Tryz.results138 rfl ?_)))
   exact ⟨H4.ext, congrArg Value.bool (mem_yes (k := k) (by omega) (by simpa using c2))⟩
  ·refine W_skip (W_reg (sM rfl rfl (sV rfl (py_add rfl rfl (in64 ⟨by omega, by omega⟩)) (sA rfl rfl (s_nil (⟨k + 1, ⟨rfl, rfl, rfl, trivial⟩, ⟨(H4.ftake 4), by omega, fun i hi => ?_⟩, by dsimp only; omega⟩))))))
   by_cases e : i = k
   ·subst e
    simpa using c2
   ·exact he i (by omega)
 ·refine W_exit (W_sr (sA rfl rfl (s_nil (rT hQ Tryz.results138 rfl ?_))))
  exact ⟨H2.ext, congrArg Value.bool (mem_no (fun i hi => he i (by omega)))⟩
theorem Tryz_spec_l6Ahead {w : World} {x y : Rec} {xA6 xA7 xA8 yA6 yA7 yA8 : Option Addr} {xC6 xC7 xC8 yC6 yC7 yC8 : Nat}  : Ret Tryz.prog 139 #[x.val xA6 xC6 xA7 xC7 xA8 xC8, y.val yA6 yC6 yA7 yC7 yA8 yC8] w fun v w' => Ext No w w' ∧ (v = .bool (decide (kLt (keyR x) (keyR y)))) := by
 refine ret_Q (vs := [x.val xA6 xC6 xA7 xC7 xA8 xC8, y.val yA6 yC6 yA7 yC7 yA8 yC8]) Tryz.func139 rfl Tryz.ntmps139 rfl (fun Q hQ hN => ?_)
 have H0 := Sep.start (w := w) (F := []) (by simp)
 refine W_sr (s_box (wn rfl) rfl rfl H0 (fun b1 w1 e1 g1 H1 => ?_))
 refine s_box (wn rfl) rfl rfl H1 (fun b2 w2 e2 g2 H2 => ?_)
 refine sA rfl rfl (s_nil (W_seq (W_sr (sV rfl (py_field tu68 rfl ts2 rfl rfl) (sV rfl (py_load tu2 rfl rfl (cell_atL (H2.box 0 rfl) rfl)) (sV rfl (py_field tu68 rfl ts2 rfl rfl) (sV rfl (py_load tu2 rfl rfl (cell_atL (H2.box 1 rfl) rfl)) (sV rfl (py_neq rfl rfl) (s_nil (W_ifd rfl (fun c1 => ?_) (fun c1 => ?_)))))))))))
 ·refine W_sr (sV rfl (py_field tu68 rfl ts2 rfl rfl) (sV rfl (py_load tu2 rfl rfl (cell_atL (H2.box 0 rfl) rfl)) (sV rfl (py_field tu68 rfl ts2 rfl rfl) (sV rfl (py_load tu2 rfl rfl (cell_atL (H2.box 1 rfl) rfl)) (sV rfl (py_lss rfl rfl) (sA rfl rfl (s_nil (rT hQ Tryz.results139 rfl ?_))))))))
  exact ⟨H2.ext, congrArg Value.bool (decide_eq_decide.2 (by unfold kLt keyR; dsimp only; omega))⟩
 ·refine W_skip (W_seq (W_sr (sV rfl (py_field tu68 rfl ts2 rfl rfl) (sV rfl (py_load tu2 rfl rfl (cell_atL (H2.box 0 rfl) rfl)) (sV rfl (py_field tu68 rfl ts2 rfl rfl) (sV rfl (py_load tu2 rfl rfl (cell_atL (H2.box 1 rfl) rfl)) (sV rfl (py_neq rfl rfl) (s_nil (W_ifd rfl (fun c2 => ?_) (fun c2 => ?_))))))))))
  ·refine W_sr (sV rfl (py_field tu68 rfl ts2 rfl rfl) (sV rfl (py_load tu2 rfl rfl (cell_atL (H2.box 0 rfl) rfl)) (sV rfl (py_field tu68 rfl ts2 rfl rfl) (sV rfl (py_load tu2 rfl rfl (cell_atL (H2.box 1 rfl) rfl)) (sV rfl (py_lss rfl rfl) (sA rfl rfl (s_nil (rT hQ Tryz.results139 rfl ?_))))))))
   exact ⟨H2.ext, congrArg Value.bool (decide_eq_decide.2 (by unfold kLt keyR; dsimp only; omega))⟩
  ·refine W_skip (W_sr (sV rfl (py_field tu68 rfl ts2 rfl rfl) (sV rfl (py_load tu2 rfl rfl (cell_atL (H2.box 0 rfl) rfl)) (sV rfl (py_field tu68 rfl ts2 rfl rfl) (sV rfl (py_load tu2 rfl rfl (cell_atL (H2.box 1 rfl) rfl)) (sV rfl (py_lss rfl rfl) (sA rfl rfl (s_nil (rT hQ Tryz.results139 rfl ?_)))))))))
   exact ⟨H2.ext, congrArg Value.bool (decide_eq_decide.2 (by unfold kLt keyR; dsimp only; omega))⟩
theorem Tryz_impl_World_counted {w : World} {zb zC9 zC10 zC11 : Nat} {z : Wld} {zA9 zA10 zA11 : Option Addr} {zF9 zF10 zF11 : List Nat} (zB : w.heap[zb]? = some (.cells [.int .i64 z.Shape.Groups, .int .i64 z.Shape.Column, .int .i64 z.Shape.Data, .int .i64 z.Shape.Spare, .int .i64 z.Shape.Rows, .int .i64 z.Shape.Cap, .int .i64 z.Shape.Batch, .int .i64 z.Shape.Queue, .int .i64 z.Shape.Stage, .slice zA9 z.Groups.length zC9, .slice zA10 z.On.length zC10, .slice zA11 z.Tapes.length zC11, .int .i64 z.Writes, .int .i64 z.Stop, .bool z.Down].toArray 38)) (zK : z.Ok) (zO9 : own false w [.slice zA9 z.Groups.length zC9] z.Groups zF9) (zO10 : own false w [.slice zA10 z.On.length zC10] z.On zF10) (zO11 : own false w [.slice zA11 z.Tapes.length zC11] z.Tapes zF11) (hT : z.Tapes.length = 2) (hrl : ∀ k, (z.Tapes.getD k default).Recs.length ≤ 200000) : Ret Tryz.prog 99 #[.pointer (some ⟨zb, 0, none⟩)] w fun v w' => Ext No w w' ∧ (∃ vs, Res w w' [v] vs ∧ RdV w' zF11 vs ∧ vs.map RecV.r = cntL z) := by
 have zK2 := zK
 unfold Wld.Ok Shape.Ok at zK2
 try unfold I64ok at zK2
 try unfold maxLen at zK2
 have zL9 := oL zO9
 have zL10 := oL zO10
 have zL11 := oL zO11
 refine ret_Q (vs := [.pointer (some ⟨zb, 0, none⟩)]) Tryz.func99 rfl Tryz.ntmps99 rfl (fun Q hQ hN => ?_)
 have H0 := Sep.start (w := w) (F := [box zb (.cells [.int .i64 z.Shape.Groups, .int .i64 z.Shape.Column, .int .i64 z.Shape.Data, .int .i64 z.Shape.Spare, .int .i64 z.Shape.Rows, .int .i64 z.Shape.Cap, .int .i64 z.Shape.Batch, .int .i64 z.Shape.Queue, .int .i64 z.Shape.Stage, .slice zA9 z.Groups.length zC9, .slice zA10 z.On.length zC10, .slice zA11 z.Tapes.length zC11, .int .i64 z.Writes, .int .i64 z.Stop, .bool z.Down].toArray 38), seen false [.slice zA9 z.Groups.length zC9] z.Groups zF9, seen false [.slice zA10 z.On.length zC10] z.On zF10, seen false [.slice zA11 z.Tapes.length zC11] z.Tapes zF11]) (all_cons (by exact zB) (all_cons zO9 (all_cons zO10 (all_cons zO11 (by simp)))))
 refine W_sr (sA rfl rfl (s_nil (W_sr (s_lit0 (α := RecV) (wn rfl) rfl tu30 Tryz_ty68 H0 (fun b1 w1 e1 g1 H1 => ?_)))))
 refine sA rfl rfl (s_nil (W_seq (W_sr (sM rfl rfl (sV rfl (py_nil rfl) (sV rfl (py_field tu38 rfl ts36 rfl rfl) (sV rfl (py_load tu36 rfl rfl (cell_atL (H1.fbox 0 rfl) rfl)) (sV rfl (py_len tu36 rfl) (sM rfl rfl (s_nil (W_block (W_loopA (α := RecV) (γ := Nat × List RecV) (fun (k, vs) => vs) (0, []) H1 0 rfl 3 rfl [(2, _), (12, _), (13, _)] ⟨rfl, rfl, rfl, trivial⟩ (fun (k, vs) => [(14, .int .i64 k)]) (fun (k, vs) => k ≤ z.Tapes.length ∧ RdV w zF11 vs ∧ vs.map RecV.r = cntTo z k 0) (fun (k, vs) => z.Tapes.length - k) ⟨rfl, trivial⟩ ⟨by (try dsimp only); omega, RdV.nil, by (try dsimp only); rw [cntTo_zero]; rfl⟩ (fun (k, vs) vA1 fA1 w2 H2 ⟨hk, hR, hM⟩ => ?_)))))))))))))
 dsimp only [lCA, lNA, lSZ, lSS] at H2 ⊢
 refine W_sr (sV rfl (py_lss rfl rfl) (s_nil (W_seq (W_ifd rfl (fun c1 => ?_) (fun c1 => ?_)))))
 ·refine W_skip (W_seq (W_block (W_seq ?_)))
  obtain ⟨eb1, eo1, es1, ef1, ee1, ec1, eO1, eH1, em1⟩ := elem_st (H2.seen 3 rfl) k (by omega)
  obtain ⟨ea1, ek1, eg1, rfl, eq1, eK1, eo2⟩ := own_Tape eO1
  have eP1 := H2.look1 3 rfl eo2 (fun b hb => eH1 b (by rw [eq1]; simp [hb]))
  have eL1 := oL eo2
  refine W_reg (sV rfl (py_elz tu36 ts139 rfl rfl ee1 k (by omega) (by omega)) (sV rfl (py_loadS tu139 rfl ts139 rfl rfl ec1) (s_var (wn rfl) rfl Tryz.zeroValue139 eP1 (fun b2 w3 e2 g2 H3 => ?_))))
  refine s_stoS (wn rfl) ts139 rfl rfl rfl rfl H3 1 rfl rfl (fun w4 e3 H4 => ?_)
  dsimp only [lNA, lCA, lSZ, lSS, layL] at H4
  refine s_nil (W_sr (sV rfl (py_field tu139 rfl ts30 rfl rfl) (sV rfl (py_load tu30 rfl rfl (cell_atL (H4.box 1 rfl) rfl)) (sV rfl (py_len tu30 rfl) (sM rfl rfl (s_nil (W_block (W_loopA (α := RecV) (γ := Nat × List RecV) (fun (j, vs2) => vs2) (0, vs) H4 0 rfl 3 rfl [(2, _), (12, _), (13, _), (14, _), (19, _), (20, _)] ⟨rfl, rfl, rfl, rfl, rfl, rfl, trivial⟩ (fun (j, vs2) => [(21, .int .i64 j)]) (fun (j, vs2) => j ≤ (z.Tapes.getD k default).Recs.length ∧ RdV w zF11 vs2 ∧ vs2.map RecV.r = cntTo z k j) (fun (j, vs2) => (z.Tapes.getD k default).Recs.length - j) ⟨rfl, trivial⟩ ⟨by (try dsimp only); omega, hR, hM⟩ (fun (j, vs2) vA2 fA2 w5 H5 ⟨hj, hR2, hM2⟩ => ?_)))))))))
  dsimp only [lCA, lNA, lSZ, lSS] at H5 ⊢
  refine W_sr (sV rfl (py_lss rfl rfl) (s_nil (W_seq (W_ifd rfl (fun c2 => ?_) (fun c2 => ?_)))))
  ·refine W_skip (W_seq (W_block (W_seq ?_)))
   obtain ⟨eb2, eo3, es2, ef2, ee2, ec2, eO2, eH2, em2⟩ := elem_st (H5.seen 4 rfl) j (by omega)
   obtain ⟨ea2, ek2, ea3, ek3, ea4, ek4, eg2, eg3, eg4, rfl, eq2, eK2, eo4, eo5, eo6⟩ := own_Rec eO2
   have eK2U := eK2
   unfold Rec.Ok at eK2U
   try unfold I64ok at eK2U
   try unfold maxLen at eK2U
   have eP2 := H5.look1 4 rfl eo4 (fun b hb => eH2 b (by rw [eq2]; simp [hb]))
   have eL2 := oL eo4
   have eP3 := eP2.look1 4 rfl eo5 (fun b hb => eH2 b (by rw [eq2]; simp [hb]))
   have eL3 := oL eo5
   have eP4 := eP3.look1 4 rfl eo6 (fun b hb => eH2 b (by rw [eq2]; simp [hb]))
   have eL4 := oL eo6
   refine W_reg (sV rfl (py_elz tu30 ts68 rfl rfl ee2 j (by omega) (by omega)) (sV rfl (py_loadS tu68 rfl ts68 rfl rfl ec2) (s_var (wn rfl) rfl Tryz.zeroValue68 eP4 (fun b3 w6 e4 g3 H6 => ?_))))
   refine s_stoS (wn rfl) ts68 rfl rfl rfl rfl H6 2 rfl rfl (fun w7 e5 H7 => ?_)
   dsimp only [lNA, lCA, lSZ, lSS, layL] at H7
   refine s_nil (W_seq ?_)
   obtain ⟨oa, ok2, oq⟩ := own_slice (H7.mine 0 rfl)
   cases oq
   have hE := (InF.back (ft := zF11) (cs := ((RecV.mk ((z.Tapes.getD k default).Recs.getD j default) ea2 ek2 ea3 ek3 ea4 ek4)).cs) (x := ((z.Tapes.getD k default).Recs.getD j default)) ⟨_, eO2, (fun b hb => (fun b hb => eH1 b (by rw [eq1]; simp [hb])) b (eH2 b hb))⟩ eP4.ext (Rp.lt zO11))
   have hvl : vs2.length = (cntTo z k j).length := by rw [← hM2, List.length_map]
   have hcb := cntTo_bd hT hrl (k := k) (j := j) (by omega) (by have := hrl k; omega)
   refine W_reg (sM rfl rfl (sV rfl (py_loadS tu68 rfl ts68 rfl rfl (At.whole (H7.box 2 rfl))) (s_call (wn rfl) rfl rfl (pc_call Tryz.func168 rfl Tryz_nm168 rfl) (by have lc := Tryz_impl_has (xs := vs2.map RecV.r) (r := ((z.Tapes.getD k default).Recs.getD j default)) (by rw [List.length_map]; exact (hR2.to H7.ext).list (H7.mine 0 rfl)) (by assumption) (H7.sees 5 rfl) (H7.sees 6 rfl) (H7.sees 7 rfl); rw [List.length_map] at lc; exact lc) (fun v1 w8 r1 => ?_))))
   obtain ⟨e6, rfl⟩ := r1
   have H8 := H7.to e6
   refine sV rfl (py_not rfl) (s_nil (W_if rfl (fun c3 => ?_) (fun c3 => ?_)))
   ·refine W_reg (sM rfl rfl (sV rfl (py_loadS tu68 rfl ts68 rfl rfl (At.whole (H8.box 2 rfl))) (s_lit1 (wn rfl) rfl tu30 Tryz_ty68 rfl rfl rfl rfl H8 (fun b4 w9 e7 g4 H9 => ?_))))
    refine s_app1 (wn rfl) rfl tu30 Tryz_ty68 rfl rfl rfl H9 0 3 rfl rfl (recv_own (v := (RecV.mk ((z.Tapes.getD k default).Recs.getD j default) ea2 ek2 ea3 ek3 ea4 ek4)) (by assumption)) (by unfold maxLen; omega) (by omega) (fun v2 w10 fp1 H10 => ?_)
    refine sA rfl rfl (s_nil (W_reg (sV rfl (py_add rfl rfl (in64 ⟨by omega, by omega⟩)) (sM rfl rfl (s_nil ?_)))))
    exact ⟨((j + 1, vs2 ++ [(RecV.mk ((z.Tapes.getD k default).Recs.getD j default) ea2 ek2 ea3 ek3 ea4 ek4)]), _, _), ⟨rfl, rfl, rfl, rfl, rfl, rfl, rfl, rfl, trivial⟩, ⟨((H10.ftake 5).dtake 2), by (try dsimp only); omega, hR2.snoc hE, by (try dsimp only); rw [List.map_append, hM2, cntTo_next (by omega), dd_no (by rw [← hM2]; simpa using c3)]; rfl⟩, by dsimp only; omega⟩
   ·refine W_skip (W_reg (sV rfl (py_add rfl rfl (in64 ⟨by omega, by omega⟩)) (sM rfl rfl (s_nil ?_))))
    exact ⟨((j + 1, vs2), _, _), ⟨rfl, rfl, rfl, rfl, rfl, rfl, rfl, rfl, trivial⟩, ⟨((H8.ftake 5).dtake 2), by (try dsimp only); omega, hR2, by (try dsimp only); rw [hM2, cntTo_next (by omega), dd_yes (by rw [← hM2]; simpa using c3)]⟩, by dsimp only; omega⟩
  ·refine W_exit (W_reg (sV rfl (py_add rfl rfl (in64 ⟨by omega, by omega⟩)) (sM rfl rfl (s_nil ?_))))
   obtain rfl : j = (z.Tapes.getD k default).Recs.length := by omega
   exact ⟨((k + 1, vs2), _, _), ⟨rfl, rfl, rfl, rfl, rfl, trivial⟩, ⟨((H5.ftake 4).dtake 1), by (try dsimp only); omega, hR2, by (try dsimp only); rw [hM2, cntTo_tape (by omega)]⟩, by dsimp only; omega⟩
 ·refine W_exit (W_seq ?_)
  obtain rfl : k = z.Tapes.length := by omega
  have hvl : vs.length = (cntTo z z.Tapes.length 0).length := by rw [← hM, List.length_map]
  have hcb := cntTo_bd hT hrl (k := z.Tapes.length) (j := 0) (by omega) (by omega)
  refine W_reg (sM rfl rfl ?_)
  obtain ⟨oa, ok2, oq⟩ := own_slice (H2.mine 0 rfl)
  cases oq
  refine s_call (wn rfl) rfl rfl (pc_call Tryz.func169 rfl Tryz_nm169 rfl) (Tryz_ssf (ws := vs) (gL := []) (H2.mine 0 rfl) (H2.nodup1 (i := 0) rfl) Tryz.func170 rfl Tryz_nm170 (fun w1 e1 x y a6 c6 a7 c7 a8 c8 b6 d6 b7 d7 b8 d8 => Tryz_impl_World_counted_1) (by omega)) (fun v3 w11 r2 => ?_)
  obtain ⟨us, mm1, hS⟩ := r2
  obtain ⟨fp2, H11⟩ := H2.mut 0 rfl mm1
  try dsimp only [lNA, lCA, lSZ, lSS] at H11
  refine s_nil (W_sr (sM rfl rfl (sA rfl rfl (s_nil (rT hQ Tryz.results99 rfl ?_)))))
  exact ⟨H11.ext, us, H11.out 0 rfl, (hR.stable hS).to H11.ext, cnt_end hM hS⟩
theorem Tryz_spec_l6Counted {w : World} {zb zC9 zC10 zC11 : Nat} {z : Wld} {zA9 zA10 zA11 : Option Addr} {zF9 zF10 zF11 : List Nat} (zB : w.heap[zb]? = some (.cells [.int .i64 z.Shape.Groups, .int .i64 z.Shape.Column, .int .i64 z.Shape.Data, .int .i64 z.Shape.Spare, .int .i64 z.Shape.Rows, .int .i64 z.Shape.Cap, .int .i64 z.Shape.Batch, .int .i64 z.Shape.Queue, .int .i64 z.Shape.Stage, .slice zA9 z.Groups.length zC9, .slice zA10 z.On.length zC10, .slice zA11 z.Tapes.length zC11, .int .i64 z.Writes, .int .i64 z.Stop, .bool z.Down].toArray 38)) (zK : z.Ok) (zO9 : own false w [.slice zA9 z.Groups.length zC9] z.Groups zF9) (zO10 : own false w [.slice zA10 z.On.length zC10] z.On zF10) (zO11 : own false w [.slice zA11 z.Tapes.length zC11] z.Tapes zF11) (hT : z.Tapes.length = 2) (hrl : ∀ k, (z.Tapes.getD k default).Recs.length ≤ 200000) : Ret Tryz.prog 63 #[.pointer (some ⟨zb, 0, none⟩)] w fun v w' => Ext No w w' ∧ (∃ vs, Res w w' [v] vs ∧ RdV w' zF11 vs ∧ vs.map RecV.r = cntL z) := by
 have zK2 := zK
 unfold Wld.Ok Shape.Ok at zK2
 try unfold I64ok at zK2
 try unfold maxLen at zK2
 have zL9 := oL zO9
 have zL10 := oL zO10
 have zL11 := oL zO11
 refine ret_Q (vs := [.pointer (some ⟨zb, 0, none⟩)]) Tryz.func63 rfl Tryz.ntmps63 rfl (fun Q hQ hN => ?_)
 have H0 := Sep.start (w := w) (F := [box zb (.cells [.int .i64 z.Shape.Groups, .int .i64 z.Shape.Column, .int .i64 z.Shape.Data, .int .i64 z.Shape.Spare, .int .i64 z.Shape.Rows, .int .i64 z.Shape.Cap, .int .i64 z.Shape.Batch, .int .i64 z.Shape.Queue, .int .i64 z.Shape.Stage, .slice zA9 z.Groups.length zC9, .slice zA10 z.On.length zC10, .slice zA11 z.Tapes.length zC11, .int .i64 z.Writes, .int .i64 z.Stop, .bool z.Down].toArray 38), seen false [.slice zA9 z.Groups.length zC9] z.Groups zF9, seen false [.slice zA10 z.On.length zC10] z.On zF10, seen false [.slice zA11 z.Tapes.length zC11] z.Tapes zF11]) (all_cons (by exact zB) (all_cons zO9 (all_cons zO10 (all_cons zO11 (by simp)))))
 refine W_sr (sA rfl rfl (s_nil (W_sr (s_lit0 (α := RecV) (wn rfl) rfl tu30 Tryz_ty68 H0 (fun b1 w1 e1 g1 H1 => ?_)))))
 refine sA rfl rfl (s_nil (W_seq (W_sr (sA rfl rfl (s_nil (W_block (W_loopA (α := RecV) (γ := Nat × List RecV) (fun (k, vs) => vs) (0, []) H1 0 rfl 3 rfl [(0, _), (2, _)] ⟨rfl, rfl, trivial⟩ (fun (k, vs) => [(4, .int .i64 k)]) (fun (k, vs) => k ≤ 2 ∧ RdV w zF11 vs ∧ Stable kLt keyR (cntTo z k 0) (vs.map RecV.r)) (fun (k, vs) => 2 - k) ⟨rfl, trivial⟩ ⟨by (try dsimp only); omega, RdV.nil, by (try dsimp only); rw [cntTo_zero]; exact ⟨.nil, .refl⟩⟩ (fun (k, vs) vA1 fA1 w2 H2 ⟨hk, hR, hM⟩ => ?_))))))))
 dsimp only [lCA, lNA, lSZ, lSS] at H2 ⊢
 refine W_seq (W_sr (sM rfl rfl (sV rfl (py_lss rfl rfl) (s_nil (W_ifd rfl (fun c1 => ?_) (fun c1 => ?_))))))
 ·refine W_skip (W_seq (W_block (W_sr (sA rfl rfl (s_nil (W_block (W_loopA (α := RecV) (γ := Nat × List RecV) (fun (j, vs2) => vs2) (0, vs) H2 0 rfl 3 rfl [(0, _), (2, _), (4, _)] ⟨rfl, rfl, rfl, trivial⟩ (fun (j, vs2) => [(5, .int .i64 j)]) (fun (j, vs2) => j ≤ (z.Tapes.getD k default).Recs.length ∧ RdV w zF11 vs2 ∧ Stable kLt keyR (cntTo z k j) (vs2.map RecV.r)) (fun (j, vs2) => (z.Tapes.getD k default).Recs.length - j) ⟨rfl, trivial⟩ ⟨by (try dsimp only); omega, hR, hM⟩ (fun (j, vs2) vA2 fA2 w3 H3 ⟨hj, hR2, hM2⟩ => ?_))))))))
  dsimp only [lCA, lNA, lSZ, lSS] at H3 ⊢
  refine W_seq (W_seq ?_)
  obtain ⟨eb1, eo1, es1, ef1, ee1, ec1, eO1, eH1, em1⟩ := elem_st (H3.seen 3 rfl) k (by omega)
  obtain ⟨ea1, ek1, eg1, rfl, eq1, eK1, eo2⟩ := own_Tape eO1
  have eP1 := H3.look1 3 rfl eo2 (fun b hb => eH1 b (by rw [eq1]; simp [hb]))
  have eL1 := oL eo2
  refine W_reg (sM rfl rfl (sM rfl rfl (sV rfl (py_nil rfl) (sV rfl (py_field tu38 rfl ts36 rfl rfl) (sV rfl (py_load tu36 rfl rfl (cell_atL (eP1.fbox 0 rfl) rfl)) (sM rfl rfl (sV rfl (py_elz tu36 ts139 rfl rfl ee1 k (by omega) (by omega)) (sV rfl (py_field tu139 rfl ts30 rfl rfl) (sV rfl (py_load tu30 rfl rfl (at_cell ec1 1 rfl)) (sV rfl (py_len tu30 rfl) (sV rfl (py_lss rfl rfl) (s_nil (W_ifd rfl (fun c2 => ?_) (fun c2 => ?_))))))))))))))
  ·refine W_skip (W_seq (W_block (W_seq ?_)))
   obtain ⟨eb2, eo3, es2, ef2, ee2, ec2, eO2, eH2, em2⟩ := elem_st (eP1.seen 3 rfl) k (by omega)
   obtain ⟨ea2, ek2, eg2, rfl, eq2, eK2, eo4⟩ := own_Tape eO2
   have eP2 := eP1.look1 3 rfl eo4 (fun b hb => eH2 b (by rw [eq2]; simp [hb]))
   have eL2 := oL eo4
   obtain ⟨eb3, eo5, es3, ef3, ee3, ec3, eO3, eH3, em3⟩ := elem_st (eP2.seen 5 rfl) j (by omega)
   obtain ⟨ea3, ek3, ea4, ek4, ea5, ek5, eg3, eg4, eg5, rfl, eq3, eK3, eo6, eo7, eo8⟩ := own_Rec eO3
   have eK3U := eK3
   unfold Rec.Ok at eK3U
   try unfold I64ok at eK3U
   try unfold maxLen at eK3U
   have eP3 := eP2.look1 5 rfl eo6 (fun b hb => eH3 b (by rw [eq3]; simp [hb]))
   have eL3 := oL eo6
   have eP4 := eP3.look1 5 rfl eo7 (fun b hb => eH3 b (by rw [eq3]; simp [hb]))
   have eL4 := oL eo7
   have eP5 := eP4.look1 5 rfl eo8 (fun b hb => eH3 b (by rw [eq3]; simp [hb]))
   have eL5 := oL eo8
   refine W_reg (sM rfl rfl (sV rfl (py_nil rfl) (sV rfl (py_field tu38 rfl ts36 rfl rfl) (sV rfl (py_load tu36 rfl rfl (cell_atL (eP5.fbox 0 rfl) rfl)) (sM rfl rfl (sV rfl (py_elz tu36 ts139 rfl rfl ee2 k (by omega) (by omega)) (sV rfl (py_field tu139 rfl ts30 rfl rfl) (sV rfl (py_load tu30 rfl rfl (at_cell ec2 1 rfl)) (sM rfl rfl (sV rfl (py_elz tu30 ts68 rfl rfl ee3 j (by omega) (by omega)) (sV rfl (py_loadS tu68 rfl ts68 rfl rfl ec3) (s_var (wn rfl) rfl Tryz.zeroValue68 eP5 (fun b2 w4 e2 g2 H4 => ?_)))))))))))))
   refine s_stoS (wn rfl) ts68 rfl rfl rfl rfl H4 1 rfl rfl (fun w5 e3 H5 => ?_)
   dsimp only [lNA, lCA, lSZ, lSS, layL] at H5
   refine s_nil (W_seq (W_seq ?_))
   obtain ⟨oa, ok2, oq⟩ := own_slice (H5.mine 0 rfl)
   cases oq
   have hE := (InF.back (ft := zF11) (cs := ((RecV.mk ((z.Tapes.getD k default).Recs.getD j default) ea3 ek3 ea4 ek4 ea5 ek5)).cs) (x := ((z.Tapes.getD k default).Recs.getD j default)) ⟨_, eO3, (fun b hb => (fun b hb => eH2 b (by rw [eq2]; simp [hb])) b (eH3 b hb))⟩ eP5.ext (Rp.lt zO11))
   have hvl : vs2.length = (cntTo z k j).length := by have := hM2.2.len; rwa [List.length_map] at this
   have hcb := cntTo_bd hT hrl (k := k) (j := j) (by omega) (by have := hrl k; omega)
   refine W_reg (sM rfl rfl (sV rfl (py_loadS tu68 rfl ts68 rfl rfl (At.whole (H5.box 1 rfl))) (s_call (wn rfl) rfl rfl (pc_call Tryz.func138 rfl Tryz_nm138 rfl) (by have lc := Tryz_spec_l6Holds (xs := vs2.map RecV.r) (r := ((z.Tapes.getD k default).Recs.getD j default)) (by rw [List.length_map]; exact (hR2.to H5.ext).list (H5.mine 0 rfl)) (by assumption) (H5.sees 6 rfl) (H5.sees 7 rfl) (H5.sees 8 rfl); rw [List.length_map] at lc; exact lc) (fun v1 w6 r1 => ?_))))
   obtain ⟨e4, rfl⟩ := r1
   have H6 := H5.to e4
   refine s_nil (W_if rfl (fun c3 => ?_) (fun c3 => ?_))
   ·refine W_exit (W_reg (sM rfl rfl (sV rfl (py_add rfl rfl (in64 ⟨by omega, by omega⟩)) (sA rfl rfl (s_nil ?_)))))
    exact ⟨((j + 1, vs2), _, _), ⟨rfl, rfl, rfl, rfl, rfl, trivial⟩, ⟨((H6.ftake 4).dtake 1), by (try dsimp only); omega, hR2, by (try dsimp only); rw [cntTo_next (by omega), dd_yes ((stable_mem hM2 _).1 (by simpa using c3))]; exact hM2⟩, by dsimp only; omega⟩
   ·have hno := c3
    refine W_skip (W_seq ?_)
    have HS := H6.share 0 rfl
    try dsimp only [lNA, lCA, lSZ, lSS] at HS
    have vsl := vs2.length_map RecV.r
    refine W_reg (sM rfl rfl (sV rfl (py_len tu30 rfl) (sA rfl rfl (s_nil (W_seq (W_block (W_loopS (γ := Nat) HS [(0, _), (2, _), (3, _), (4, _), (5, _), (6, _)] ⟨rfl, rfl, rfl, rfl, rfl, rfl, trivial⟩ (fun a => [(7, .int .i64 a)]) (fun a => a ≤ vs2.length ∧ (∀ i, a ≤ i → i < vs2.length → kLt (keyR ((z.Tapes.getD k default).Recs.getD j default)) (keyR (vs2.getD i default).r))) (fun a => a) vs2.length ⟨rfl, trivial⟩ ⟨by omega, fun i h1 h2 => by omega⟩ (fun a w7 H7 ⟨ha, hB⟩ => ?_))))))))
    dsimp only [lCA, lNA]
    refine W_seq (W_seq (W_drw (S := Ext No _) [(0, true), (1, true), (2, true), (3, true), (4, true), (5, true), (6, true), (7, true), (8, true), (9, false), (10, false)] (by kernel_rfl) (by kernel_rfl) (by kernel_rfl) rfl (fun _ => Ext.refl.drawn _) (fun q1 => ?_)))
    have H8 := H7.drawn q1
    refine dM rfl rfl rfl (dV rfl rfl (fun zw hx => py_gtr rfl rfl) (dM rfl rfl rfl (d_case (t := 44) rfl (fun hg1 => ?_) (fun hg1 => ?_))))
    ·try simp only [decide_eq_true_eq, decide_eq_false_iff_not] at hg1
     refine d_val rfl (wg rfl rfl rfl) rfl rfl (fun zw hx => py_loadS tu68 rfl ts68 rfl rfl (At.whole (hx.heap (H8.box 1 rfl)))) (d_val rfl (wg rfl rfl rfl) rfl rfl (fun zw hx => py_move rfl) (d_val rfl (wg rfl rfl rfl) rfl rfl (fun zw hx => py_move rfl) (d_val rfl (wg rfl rfl rfl) rfl rfl (fun zw hx => py_sub rfl rfl (in64 ⟨by omega, by omega⟩)) ?_)))
     obtain ⟨eb4, eo9, ee4, ec4, eK4⟩ := H8.viewSeen 9 rfl (a - 1) (by omega)
     refine d_val rfl (wg rfl rfl rfl) rfl rfl (fun zw hx => py_elz tu30 ts68 rfl rfl ee4 (a - 1) (by omega) (by omega)) (d_val rfl (wg rfl rfl rfl) rfl rfl (fun zw hx => py_loadS tu68 rfl ts68 rfl rfl (hx.at ec4)) (d_call rfl (wg rfl rfl rfl) rfl rfl (pc_call Tryz.func139 rfl Tryz_nm139 rfl) Tryz_spec_l6Ahead (fun hS _ _ r _ => hS.trans r.1.no) (fun v2 w8 r2 => ?_)))
     obtain ⟨e5, rfl⟩ := r2
     have H9 := H8.to e5
     refine d_end rfl (wn rfl) rfl rfl (py_pickT rfl rfl) (d_nil (W_if rfl (fun c4 => ?_) (fun c4 => ?_)))
     ·refine W_skip (W_block (W_reg (sM rfl rfl (sV rfl (py_sub rfl rfl (in64 ⟨by omega, by omega⟩)) (sA rfl rfl (s_nil (⟨a - 1, ⟨eqI (by omega), rfl, rfl, rfl, rfl, rfl, rfl, trivial⟩, ⟨H9, by omega, fun i h1 h2 => ?_⟩, by dsimp only; omega⟩)))))))
      by_cases e : i = a - 1
      ·subst e; exact of_decide_eq_true c4
      ·exact hB i (by omega) h2
     ·refine W_exit (W_drw (S := Ext No _) [(1, true), (2, true), (3, true), (5, true), (8, true), (9, true), (10, true), (1012, false), (0, false), (1005, false), (4, false), (6, false), (7, false), (11, false), (12, false), (6, false), (4, false), (7, false), (11, false), (12, false), (6, false), (0, false), (4, false), (7, false), (11, false), (12, false)] (by kernel_rfl) (by kernel_rfl) (by kernel_rfl) rfl (fun _ => Ext.refl.drawn _) (fun q2 => ?_))
      have H10 := H9.drawn q2
      refine dM rfl rfl rfl (dM rfl rfl rfl ?_)
      have sc1 := own_le_cap (H10.seen 9 rfl)
      obtain ⟨sf1, so1, ss1⟩ := own_cutL (H10.seen 9 rfl) (0) (a) _ (by omega) (by omega) (by omega) (Nat.le_refl _)
      have H11 := H10.look1 9 rfl so1 ss1
      have sl1 := cut_len (xs := vs2) (l := 0) (h := a) (by omega)
      refine dV rfl rfl (fun zw hx => py_slcHN tu30 ts68 rfl rfl (a) (by omega) (by omega) sl1) (dV rfl rfl (fun zw hx => py_loadS tu68 rfl ts68 rfl rfl (At.whole (hx.heap (H10.box 1 rfl)))) (dM rfl rfl rfl (dM rfl rfl rfl ?_)))
      have sc2 := own_le_cap (H11.seen 9 rfl)
      obtain ⟨sf2, so2, ss2⟩ := own_cutL (H11.seen 9 rfl) (a) (vs2.length) _ (by omega) (by omega) (by omega) (Nat.le_refl _)
      have H12 := H11.look1 9 rfl so2 ss2
      have sl2 := cut_len (xs := vs2) (l := a) (h := vs2.length) (by omega)
      refine dV rfl rfl (fun zw hx => py_slcLN tu30 ts68 rfl rfl (a) (by omega) (by omega) sl2) (d_fork (l1 := [(0, false), (1005, false), (4, false), (6, false), (7, false), (11, false), (12, false), (6, false), (4, false), (7, false), (11, false), (12, false)]) (l2 := [(6, false), (0, false), (4, false), (7, false), (11, false), (12, false)]) rfl rfl rfl rfl ?_ ?_)
      ·refine d_S (fun hs1 => ?_) (by simp)
       refine d_lit0 (α := RecV) rfl (wn rfl) rfl tu30 Tryz_ty68 H12 (fun _ h e => h.trans e.no) (fun b3 w9 e6 g3 H13 => ?_)
       refine d_fork (l1 := [(4, false), (6, false), (7, false), (11, false), (12, false)]) (l2 := [(6, false), (4, false), (7, false), (11, false), (12, false)]) rfl rfl rfl rfl ?_ ?_
       ·refine d_S (fun hs2 => ?_) (by simp)
        refine d_appFS rfl (wn rfl) rfl tu30 Tryz_ty68 rfl rfl rfl H13 2 rfl (H13.seen 10 rfl) (by (try simp only [List.length_append, List.length_nil, List.length_cons]); unfold maxLen; omega) (by (try simp only [List.length_append, List.length_nil, List.length_cons]); omega) (fun b hb => by simp only [List.mem_singleton] at hb; rw [hb]; exact Nat.le_trans hs1.size g3) (fun v3 w10 fp1 sb1 H14 => ?_)
        try dsimp only [lNA, lCA, lSZ, lSS] at H14
        refine d_lit1 rfl (wn rfl) rfl tu30 Tryz_ty68 rfl rfl rfl rfl H14 (fun _ h e => h.trans e.no) (fun b4 w11 e7 g4 H15 => ?_)
        refine d_S (fun hs3 => ?_) (by simp)
        refine d_app1S rfl (wn rfl) rfl tu30 Tryz_ty68 rfl rfl rfl H15 2 3 rfl rfl (recv_own (v := (RecV.mk ((z.Tapes.getD k default).Recs.getD j default) ea3 ek3 ea4 ek4 ea5 ek5)) (by assumption)) (by (try simp only [List.length_append, List.length_nil, List.length_cons]); unfold maxLen; omega) (by (try simp only [List.length_append, List.length_nil, List.length_cons]); omega) (fun b hb => (sb1 b hb).elim (((fun b hb => by simp only [List.mem_singleton] at hb; rw [hb]; exact Nat.le_trans hs1.size g3) : ∀ b ∈ _, _ ≤ b) b) (fun h => Nat.le_trans hs2.size h)) (fun v4 w12 fp2 sb2 H16 => ?_)
        try dsimp only [lNA, lCA, lSZ, lSS] at H16
        refine d_S (fun hs4 => ?_) (by simp)
        refine d_appFS rfl (wn rfl) rfl tu30 Tryz_ty68 rfl rfl rfl H16 2 rfl (H16.seen 11 rfl) (by (try simp only [List.length_append, List.length_nil, List.length_cons]); unfold maxLen; omega) (by (try simp only [List.length_append, List.length_nil, List.length_cons]); omega) (fun b hb => (sb2 b hb).elim (((fun b hb => (sb1 b hb).elim (((fun b hb => by simp only [List.mem_singleton] at hb; rw [hb]; exact Nat.le_trans hs1.size g3) : ∀ b ∈ _, _ ≤ b) b) (fun h => Nat.le_trans hs2.size h)) : ∀ b ∈ _, _ ≤ b) b) (fun h => Nat.le_trans hs3.size h)) (fun v5 w13 fp3 sb3 H17 => ?_)
        try dsimp only [lNA, lCA, lSZ, lSS] at H17
        refine d_end rfl (wn rfl) rfl rfl (py_assign rfl) (d_nil (W_reg (sM rfl rfl (sV rfl (py_add rfl rfl (in64 ⟨by omega, by omega⟩)) (sA rfl rfl (s_nil ?_))))))
        exact ⟨((j + 1, _), _, _), ⟨rfl, rfl, rfl, rfl, rfl, trivial⟩, ⟨(H17.ftake 4).sub (.cons _ (.cons _ (.cons_cons _ (.cons _ List.Sublist.slnil)))), by (try dsimp only); omega, ((hR2.sub cut_sub).snoc hE).app (hR2.sub cut_sub), by (try dsimp only); rw [cntTo_next (by omega), dd_no (fun hm => absurd ((stable_mem hM2 _).2 hm) (by simpa using hno)), ins_list rfl (by omega)]; exact ins_new hM2 (by omega) (.inr (by rw [← map_getD rfl (by omega)]; exact of_decide_eq_false (by simpa using c4))) (fun i h1 h2 => by rw [← map_getD rfl (by omega)]; exact hB i h1 (by omega))⟩, by dsimp only; omega⟩
       ·refine d_lit1 rfl (wn rfl) rfl tu30 Tryz_ty68 rfl rfl rfl rfl H13 (fun _ h e => h.trans e.no) (fun b5 w14 e8 g5 H18 => ?_)
        refine d_S (fun hs5 => ?_) (by simp)
        refine d_appFS rfl (wn rfl) rfl tu30 Tryz_ty68 rfl rfl rfl H18 2 rfl (H18.seen 10 rfl) (by (try simp only [List.length_append, List.length_nil, List.length_cons]); unfold maxLen; omega) (by (try simp only [List.length_append, List.length_nil, List.length_cons]); omega) (fun b hb => by simp only [List.mem_singleton] at hb; rw [hb]; exact Nat.le_trans hs1.size g3) (fun v6 w15 fp4 sb4 H19 => ?_)
        try dsimp only [lNA, lCA, lSZ, lSS] at H19
        refine d_S (fun hs6 => ?_) (by simp)
        refine d_app1S rfl (wn rfl) rfl tu30 Tryz_ty68 rfl rfl rfl H19 2 3 rfl rfl (recv_own (v := (RecV.mk ((z.Tapes.getD k default).Recs.getD j default) ea3 ek3 ea4 ek4 ea5 ek5)) (by assumption)) (by (try simp only [List.length_append, List.length_nil, List.length_cons]); unfold maxLen; omega) (by (try simp only [List.length_append, List.length_nil, List.length_cons]); omega) (fun b hb => (sb4 b hb).elim (((fun b hb => by simp only [List.mem_singleton] at hb; rw [hb]; exact Nat.le_trans hs1.size g3) : ∀ b ∈ _, _ ≤ b) b) (fun h => Nat.le_trans hs5.size h)) (fun v7 w16 fp5 sb5 H20 => ?_)
        try dsimp only [lNA, lCA, lSZ, lSS] at H20
        refine d_S (fun hs7 => ?_) (by simp)
        refine d_appFS rfl (wn rfl) rfl tu30 Tryz_ty68 rfl rfl rfl H20 2 rfl (H20.seen 11 rfl) (by (try simp only [List.length_append, List.length_nil, List.length_cons]); unfold maxLen; omega) (by (try simp only [List.length_append, List.length_nil, List.length_cons]); omega) (fun b hb => (sb5 b hb).elim (((fun b hb => (sb4 b hb).elim (((fun b hb => by simp only [List.mem_singleton] at hb; rw [hb]; exact Nat.le_trans hs1.size g3) : ∀ b ∈ _, _ ≤ b) b) (fun h => Nat.le_trans hs5.size h)) : ∀ b ∈ _, _ ≤ b) b) (fun h => Nat.le_trans hs6.size h)) (fun v8 w17 fp6 sb6 H21 => ?_)
        try dsimp only [lNA, lCA, lSZ, lSS] at H21
        refine d_end rfl (wn rfl) rfl rfl (py_assign rfl) (d_nil (W_reg (sM rfl rfl (sV rfl (py_add rfl rfl (in64 ⟨by omega, by omega⟩)) (sA rfl rfl (s_nil ?_))))))
        exact ⟨((j + 1, _), _, _), ⟨rfl, rfl, rfl, rfl, rfl, trivial⟩, ⟨(H21.ftake 4).sub (.cons _ (.cons _ (.cons_cons _ (.cons _ List.Sublist.slnil)))), by (try dsimp only); omega, ((hR2.sub cut_sub).snoc hE).app (hR2.sub cut_sub), by (try dsimp only); rw [cntTo_next (by omega), dd_no (fun hm => absurd ((stable_mem hM2 _).2 hm) (by simpa using hno)), ins_list rfl (by omega)]; exact ins_new hM2 (by omega) (.inr (by rw [← map_getD rfl (by omega)]; exact of_decide_eq_false (by simpa using c4))) (fun i h1 h2 => by rw [← map_getD rfl (by omega)]; exact hB i h1 (by omega))⟩, by dsimp only; omega⟩
      ·refine d_lit1 rfl (wn rfl) rfl tu30 Tryz_ty68 rfl rfl rfl rfl H12 (fun _ h e => h.trans e.no) (fun b6 w18 e9 g6 H22 => ?_)
       refine d_S (fun hs8 => ?_) (by simp)
       refine d_lit0 (α := RecV) rfl (wn rfl) rfl tu30 Tryz_ty68 H22 (fun _ h e => h.trans e.no) (fun b7 w19 e10 g7 H23 => ?_)
       refine d_S (fun hs9 => ?_) (by simp)
       refine d_appFS rfl (wn rfl) rfl tu30 Tryz_ty68 rfl rfl rfl H23 3 rfl (H23.seen 10 rfl) (by (try simp only [List.length_append, List.length_nil, List.length_cons]); unfold maxLen; omega) (by (try simp only [List.length_append, List.length_nil, List.length_cons]); omega) (fun b hb => by simp only [List.mem_singleton] at hb; rw [hb]; exact Nat.le_trans hs8.size g7) (fun v9 w20 fp7 sb7 H24 => ?_)
       try dsimp only [lNA, lCA, lSZ, lSS] at H24
       refine d_S (fun hs10 => ?_) (by simp)
       refine d_app1S rfl (wn rfl) rfl tu30 Tryz_ty68 rfl rfl rfl H24 3 2 rfl rfl (recv_own (v := (RecV.mk ((z.Tapes.getD k default).Recs.getD j default) ea3 ek3 ea4 ek4 ea5 ek5)) (by assumption)) (by (try simp only [List.length_append, List.length_nil, List.length_cons]); unfold maxLen; omega) (by (try simp only [List.length_append, List.length_nil, List.length_cons]); omega) (fun b hb => (sb7 b hb).elim (((fun b hb => by simp only [List.mem_singleton] at hb; rw [hb]; exact Nat.le_trans hs8.size g7) : ∀ b ∈ _, _ ≤ b) b) (fun h => Nat.le_trans hs9.size h)) (fun v10 w21 fp8 sb8 H25 => ?_)
       try dsimp only [lNA, lCA, lSZ, lSS] at H25
       refine d_S (fun hs11 => ?_) (by simp)
       refine d_appFS rfl (wn rfl) rfl tu30 Tryz_ty68 rfl rfl rfl H25 3 rfl (H25.seen 11 rfl) (by (try simp only [List.length_append, List.length_nil, List.length_cons]); unfold maxLen; omega) (by (try simp only [List.length_append, List.length_nil, List.length_cons]); omega) (fun b hb => (sb8 b hb).elim (((fun b hb => (sb7 b hb).elim (((fun b hb => by simp only [List.mem_singleton] at hb; rw [hb]; exact Nat.le_trans hs8.size g7) : ∀ b ∈ _, _ ≤ b) b) (fun h => Nat.le_trans hs9.size h)) : ∀ b ∈ _, _ ≤ b) b) (fun h => Nat.le_trans hs10.size h)) (fun v11 w22 fp9 sb9 H26 => ?_)
       try dsimp only [lNA, lCA, lSZ, lSS] at H26
       refine d_end rfl (wn rfl) rfl rfl (py_assign rfl) (d_nil (W_reg (sM rfl rfl (sV rfl (py_add rfl rfl (in64 ⟨by omega, by omega⟩)) (sA rfl rfl (s_nil ?_))))))
       exact ⟨((j + 1, _), _, _), ⟨rfl, rfl, rfl, rfl, rfl, trivial⟩, ⟨(H26.ftake 4).sub (.cons _ (.cons _ (.cons _ (.cons_cons _ List.Sublist.slnil)))), by (try dsimp only); omega, ((hR2.sub cut_sub).snoc hE).app (hR2.sub cut_sub), by (try dsimp only); rw [cntTo_next (by omega), dd_no (fun hm => absurd ((stable_mem hM2 _).2 hm) (by simpa using hno)), ins_list rfl (by omega)]; exact ins_new hM2 (by omega) (.inr (by rw [← map_getD rfl (by omega)]; exact of_decide_eq_false (by simpa using c4))) (fun i h1 h2 => by rw [← map_getD rfl (by omega)]; exact hB i h1 (by omega))⟩, by dsimp only; omega⟩
    ·try simp only [decide_eq_true_eq, decide_eq_false_iff_not] at hg1
     refine dKf rfl rfl rfl rfl (dKf rfl rfl rfl rfl (dKf rfl rfl rfl rfl (dKf rfl rfl rfl rfl (dKf rfl rfl rfl rfl (dKf rfl rfl rfl rfl (d_skipA rfl (wog (b := false) rfl rfl rfl) rfl rfl (d_end rfl (wn rfl) rfl rfl (py_pickF rfl rfl) (d_nil (W_iff rfl (W_exit (W_drw (S := Ext No _) [(1, true), (2, true), (3, true), (5, true), (8, true), (9, true), (10, true), (1012, false), (0, false), (1005, false), (4, false), (6, false), (7, false), (11, false), (12, false), (6, false), (4, false), (7, false), (11, false), (12, false), (6, false), (0, false), (4, false), (7, false), (11, false), (12, false)] (by kernel_rfl) (by kernel_rfl) (by kernel_rfl) rfl (fun _ => Ext.refl.drawn _) (fun q3 => ?_))))))))))))
     have H27 := H8.drawn q3
     refine dM rfl rfl rfl (dM rfl rfl rfl ?_)
     have sc3 := own_le_cap (H27.seen 9 rfl)
     obtain ⟨sf3, so3, ss3⟩ := own_cutL (H27.seen 9 rfl) (0) (a) _ (by omega) (by omega) (by omega) (Nat.le_refl _)
     have H28 := H27.look1 9 rfl so3 ss3
     have sl3 := cut_len (xs := vs2) (l := 0) (h := a) (by omega)
     refine dV rfl rfl (fun zw hx => py_slcHN tu30 ts68 rfl rfl (a) (by omega) (by omega) sl3) (dV rfl rfl (fun zw hx => py_loadS tu68 rfl ts68 rfl rfl (At.whole (hx.heap (H27.box 1 rfl)))) (dM rfl rfl rfl (dM rfl rfl rfl ?_)))
     have sc4 := own_le_cap (H28.seen 9 rfl)
     obtain ⟨sf4, so4, ss4⟩ := own_cutL (H28.seen 9 rfl) (a) (vs2.length) _ (by omega) (by omega) (by omega) (Nat.le_refl _)
     have H29 := H28.look1 9 rfl so4 ss4
     have sl4 := cut_len (xs := vs2) (l := a) (h := vs2.length) (by omega)
     refine dV rfl rfl (fun zw hx => py_slcLN tu30 ts68 rfl rfl (a) (by omega) (by omega) sl4) (d_fork (l1 := [(0, false), (1005, false), (4, false), (6, false), (7, false), (11, false), (12, false), (6, false), (4, false), (7, false), (11, false), (12, false)]) (l2 := [(6, false), (0, false), (4, false), (7, false), (11, false), (12, false)]) rfl rfl rfl rfl ?_ ?_)
     ·refine d_S (fun hs12 => ?_) (by simp)
      refine d_lit0 (α := RecV) rfl (wn rfl) rfl tu30 Tryz_ty68 H29 (fun _ h e => h.trans e.no) (fun b8 w23 e11 g8 H30 => ?_)
      refine d_fork (l1 := [(4, false), (6, false), (7, false), (11, false), (12, false)]) (l2 := [(6, false), (4, false), (7, false), (11, false), (12, false)]) rfl rfl rfl rfl ?_ ?_
      ·refine d_S (fun hs13 => ?_) (by simp)
       refine d_appFS rfl (wn rfl) rfl tu30 Tryz_ty68 rfl rfl rfl H30 2 rfl (H30.seen 10 rfl) (by (try simp only [List.length_append, List.length_nil, List.length_cons]); unfold maxLen; omega) (by (try simp only [List.length_append, List.length_nil, List.length_cons]); omega) (fun b hb => by simp only [List.mem_singleton] at hb; rw [hb]; exact Nat.le_trans hs12.size g8) (fun v12 w24 fp10 sb10 H31 => ?_)
       try dsimp only [lNA, lCA, lSZ, lSS] at H31
       refine d_lit1 rfl (wn rfl) rfl tu30 Tryz_ty68 rfl rfl rfl rfl H31 (fun _ h e => h.trans e.no) (fun b9 w25 e12 g9 H32 => ?_)
       refine d_S (fun hs14 => ?_) (by simp)
       refine d_app1S rfl (wn rfl) rfl tu30 Tryz_ty68 rfl rfl rfl H32 2 3 rfl rfl (recv_own (v := (RecV.mk ((z.Tapes.getD k default).Recs.getD j default) ea3 ek3 ea4 ek4 ea5 ek5)) (by assumption)) (by (try simp only [List.length_append, List.length_nil, List.length_cons]); unfold maxLen; omega) (by (try simp only [List.length_append, List.length_nil, List.length_cons]); omega) (fun b hb => (sb10 b hb).elim (((fun b hb => by simp only [List.mem_singleton] at hb; rw [hb]; exact Nat.le_trans hs12.size g8) : ∀ b ∈ _, _ ≤ b) b) (fun h => Nat.le_trans hs13.size h)) (fun v13 w26 fp11 sb11 H33 => ?_)
       try dsimp only [lNA, lCA, lSZ, lSS] at H33
       refine d_S (fun hs15 => ?_) (by simp)
       refine d_appFS rfl (wn rfl) rfl tu30 Tryz_ty68 rfl rfl rfl H33 2 rfl (H33.seen 11 rfl) (by (try simp only [List.length_append, List.length_nil, List.length_cons]); unfold maxLen; omega) (by (try simp only [List.length_append, List.length_nil, List.length_cons]); omega) (fun b hb => (sb11 b hb).elim (((fun b hb => (sb10 b hb).elim (((fun b hb => by simp only [List.mem_singleton] at hb; rw [hb]; exact Nat.le_trans hs12.size g8) : ∀ b ∈ _, _ ≤ b) b) (fun h => Nat.le_trans hs13.size h)) : ∀ b ∈ _, _ ≤ b) b) (fun h => Nat.le_trans hs14.size h)) (fun v14 w27 fp12 sb12 H34 => ?_)
       try dsimp only [lNA, lCA, lSZ, lSS] at H34
       refine d_end rfl (wn rfl) rfl rfl (py_assign rfl) (d_nil (W_reg (sM rfl rfl (sV rfl (py_add rfl rfl (in64 ⟨by omega, by omega⟩)) (sA rfl rfl (s_nil ?_))))))
       exact ⟨((j + 1, _), _, _), ⟨rfl, rfl, rfl, rfl, rfl, trivial⟩, ⟨(H34.ftake 4).sub (.cons _ (.cons _ (.cons_cons _ (.cons _ List.Sublist.slnil)))), by (try dsimp only); omega, ((hR2.sub cut_sub).snoc hE).app (hR2.sub cut_sub), by (try dsimp only); rw [cntTo_next (by omega), dd_no (fun hm => absurd ((stable_mem hM2 _).2 hm) (by simpa using hno)), ins_list rfl (by omega)]; exact ins_new hM2 (by omega) (.inl (by omega)) (fun i h1 h2 => by rw [← map_getD rfl (by omega)]; exact hB i h1 (by omega))⟩, by dsimp only; omega⟩
      ·refine d_lit1 rfl (wn rfl) rfl tu30 Tryz_ty68 rfl rfl rfl rfl H30 (fun _ h e => h.trans e.no) (fun b10 w28 e13 g10 H35 => ?_)
       refine d_S (fun hs16 => ?_) (by simp)
       refine d_appFS rfl (wn rfl) rfl tu30 Tryz_ty68 rfl rfl rfl H35 2 rfl (H35.seen 10 rfl) (by (try simp only [List.length_append, List.length_nil, List.length_cons]); unfold maxLen; omega) (by (try simp only [List.length_append, List.length_nil, List.length_cons]); omega) (fun b hb => by simp only [List.mem_singleton] at hb; rw [hb]; exact Nat.le_trans hs12.size g8) (fun v15 w29 fp13 sb13 H36 => ?_)
       try dsimp only [lNA, lCA, lSZ, lSS] at H36
       refine d_S (fun hs17 => ?_) (by simp)
       refine d_app1S rfl (wn rfl) rfl tu30 Tryz_ty68 rfl rfl rfl H36 2 3 rfl rfl (recv_own (v := (RecV.mk ((z.Tapes.getD k default).Recs.getD j default) ea3 ek3 ea4 ek4 ea5 ek5)) (by assumption)) (by (try simp only [List.length_append, List.length_nil, List.length_cons]); unfold maxLen; omega) (by (try simp only [List.length_append, List.length_nil, List.length_cons]); omega) (fun b hb => (sb13 b hb).elim (((fun b hb => by simp only [List.mem_singleton] at hb; rw [hb]; exact Nat.le_trans hs12.size g8) : ∀ b ∈ _, _ ≤ b) b) (fun h => Nat.le_trans hs16.size h)) (fun v16 w30 fp14 sb14 H37 => ?_)
       try dsimp only [lNA, lCA, lSZ, lSS] at H37
       refine d_S (fun hs18 => ?_) (by simp)
       refine d_appFS rfl (wn rfl) rfl tu30 Tryz_ty68 rfl rfl rfl H37 2 rfl (H37.seen 11 rfl) (by (try simp only [List.length_append, List.length_nil, List.length_cons]); unfold maxLen; omega) (by (try simp only [List.length_append, List.length_nil, List.length_cons]); omega) (fun b hb => (sb14 b hb).elim (((fun b hb => (sb13 b hb).elim (((fun b hb => by simp only [List.mem_singleton] at hb; rw [hb]; exact Nat.le_trans hs12.size g8) : ∀ b ∈ _, _ ≤ b) b) (fun h => Nat.le_trans hs16.size h)) : ∀ b ∈ _, _ ≤ b) b) (fun h => Nat.le_trans hs17.size h)) (fun v17 w31 fp15 sb15 H38 => ?_)
       try dsimp only [lNA, lCA, lSZ, lSS] at H38
       refine d_end rfl (wn rfl) rfl rfl (py_assign rfl) (d_nil (W_reg (sM rfl rfl (sV rfl (py_add rfl rfl (in64 ⟨by omega, by omega⟩)) (sA rfl rfl (s_nil ?_))))))
       exact ⟨((j + 1, _), _, _), ⟨rfl, rfl, rfl, rfl, rfl, trivial⟩, ⟨(H38.ftake 4).sub (.cons _ (.cons _ (.cons_cons _ (.cons _ List.Sublist.slnil)))), by (try dsimp only); omega, ((hR2.sub cut_sub).snoc hE).app (hR2.sub cut_sub), by (try dsimp only); rw [cntTo_next (by omega), dd_no (fun hm => absurd ((stable_mem hM2 _).2 hm) (by simpa using hno)), ins_list rfl (by omega)]; exact ins_new hM2 (by omega) (.inl (by omega)) (fun i h1 h2 => by rw [← map_getD rfl (by omega)]; exact hB i h1 (by omega))⟩, by dsimp only; omega⟩
     ·refine d_lit1 rfl (wn rfl) rfl tu30 Tryz_ty68 rfl rfl rfl rfl H29 (fun _ h e => h.trans e.no) (fun b11 w32 e14 g11 H39 => ?_)
      refine d_S (fun hs19 => ?_) (by simp)
      refine d_lit0 (α := RecV) rfl (wn rfl) rfl tu30 Tryz_ty68 H39 (fun _ h e => h.trans e.no) (fun b12 w33 e15 g12 H40 => ?_)
      refine d_S (fun hs20 => ?_) (by simp)
      refine d_appFS rfl (wn rfl) rfl tu30 Tryz_ty68 rfl rfl rfl H40 3 rfl (H40.seen 10 rfl) (by (try simp only [List.length_append, List.length_nil, List.length_cons]); unfold maxLen; omega) (by (try simp only [List.length_append, List.length_nil, List.length_cons]); omega) (fun b hb => by simp only [List.mem_singleton] at hb; rw [hb]; exact Nat.le_trans hs19.size g12) (fun v18 w34 fp16 sb16 H41 => ?_)
      try dsimp only [lNA, lCA, lSZ, lSS] at H41
      refine d_S (fun hs21 => ?_) (by simp)
      refine d_app1S rfl (wn rfl) rfl tu30 Tryz_ty68 rfl rfl rfl H41 3 2 rfl rfl (recv_own (v := (RecV.mk ((z.Tapes.getD k default).Recs.getD j default) ea3 ek3 ea4 ek4 ea5 ek5)) (by assumption)) (by (try simp only [List.length_append, List.length_nil, List.length_cons]); unfold maxLen; omega) (by (try simp only [List.length_append, List.length_nil, List.length_cons]); omega) (fun b hb => (sb16 b hb).elim (((fun b hb => by simp only [List.mem_singleton] at hb; rw [hb]; exact Nat.le_trans hs19.size g12) : ∀ b ∈ _, _ ≤ b) b) (fun h => Nat.le_trans hs20.size h)) (fun v19 w35 fp17 sb17 H42 => ?_)
      try dsimp only [lNA, lCA, lSZ, lSS] at H42
      refine d_S (fun hs22 => ?_) (by simp)
      refine d_appFS rfl (wn rfl) rfl tu30 Tryz_ty68 rfl rfl rfl H42 3 rfl (H42.seen 11 rfl) (by (try simp only [List.length_append, List.length_nil, List.length_cons]); unfold maxLen; omega) (by (try simp only [List.length_append, List.length_nil, List.length_cons]); omega) (fun b hb => (sb17 b hb).elim (((fun b hb => (sb16 b hb).elim (((fun b hb => by simp only [List.mem_singleton] at hb; rw [hb]; exact Nat.le_trans hs19.size g12) : ∀ b ∈ _, _ ≤ b) b) (fun h => Nat.le_trans hs20.size h)) : ∀ b ∈ _, _ ≤ b) b) (fun h => Nat.le_trans hs21.size h)) (fun v20 w36 fp18 sb18 H43 => ?_)
      try dsimp only [lNA, lCA, lSZ, lSS] at H43
      refine d_end rfl (wn rfl) rfl rfl (py_assign rfl) (d_nil (W_reg (sM rfl rfl (sV rfl (py_add rfl rfl (in64 ⟨by omega, by omega⟩)) (sA rfl rfl (s_nil ?_))))))
      exact ⟨((j + 1, _), _, _), ⟨rfl, rfl, rfl, rfl, rfl, trivial⟩, ⟨(H43.ftake 4).sub (.cons _ (.cons _ (.cons _ (.cons_cons _ List.Sublist.slnil)))), by (try dsimp only); omega, ((hR2.sub cut_sub).snoc hE).app (hR2.sub cut_sub), by (try dsimp only); rw [cntTo_next (by omega), dd_no (fun hm => absurd ((stable_mem hM2 _).2 hm) (by simpa using hno)), ins_list rfl (by omega)]; exact ins_new hM2 (by omega) (.inl (by omega)) (fun i h1 h2 => by rw [← map_getD rfl (by omega)]; exact hB i h1 (by omega))⟩, by dsimp only; omega⟩
  ·refine W_exit (W_reg (sM rfl rfl (sV rfl (py_add rfl rfl (in64 ⟨by omega, by omega⟩)) (sA rfl rfl (s_nil ?_)))))
   obtain rfl : j = (z.Tapes.getD k default).Recs.length := by omega
   exact ⟨((k + 1, vs2), _, _), ⟨rfl, rfl, rfl, rfl, trivial⟩, ⟨(eP1.ftake 4), by (try dsimp only); omega, hR2, by (try dsimp only); rw [← cntTo_tape (by omega)]; exact hM2⟩, by dsimp only; omega⟩
 ·refine W_exit (W_sr (sM rfl rfl (sA rfl rfl (s_nil (rT hQ Tryz.results63 rfl ?_)))))
  obtain rfl : k = 2 := by omega
  exact ⟨H2.ext, vs, H2.out 0 rfl, hR.to H2.ext, cntTo_all (by rw [hT]; exact hM)⟩
end Go.Wk
namespace Go.Wk
open Rp (sz own)
theorem opI_none2 {xs : List Rec} {g row : Int} (h : ¬ 0 ≤ lastI (shP g row) xs) : opI xs g row = lastI (shP g row) xs := by
  have := lastI_bd (p := shP g row) (rs := xs)
  rw [opI_none h]; omega
def nodef (l : List Oper) : Bool := l.all fun o => match o.op with
  | .defer _ => false
  | _ => true
theorem nodef_at {l : List Oper} (h : nodef l = true) {o : Oper} (ho : o ∈ l) : ∀ c, o.op ≠ .defer c := by
  have := List.all_eq_true.1 h o ho
  intro c e
  rw [e] at this
  cases this
section
variable {ro : Option Nat} {P : Program} {n m : Nat} {ops : Array Oper} {L : Env} {w : World}
theorem rows_in {row : String} {args : Array Value} {R : Value → World → Prop} (h : Rows P row args w R) : RowsIn (inF ro) m P row args w R :=
  fun c cs _ => let ⟨v, w', r, s⟩ := h c cs; ⟨v, w', r, stepsIn_wide.2 s⟩
theorem op_in {o : Oper} (hd : ∀ c, o.op ≠ .defer c) {a : Act} {K : Act → World → Prop} {QQ : Exit → Act → World → Prop} (h : o.wp P a w K QQ) : o.wpIn (inF ro) m P a w K QQ := by
  refine ⟨fun _ _ => trivial, ?_⟩
  rw [Oper.semAt_eq _ _ _ hd]
  unfold Oper.wp at h
  generalize (execOp a.eval o).run P w = r at *
  cases r with
  | ok x w' =>
    cases x with
    | enter f args => exact ⟨fun h => (by cases h), callsIn_wide.2 h⟩
    | row r args => exact ⟨fun h => (by cases h), rows_in h⟩
    | _ => first | exact h | exact h.elim
  | halt x w' => cases x <;> exact h
theorem no_out {Q : Post} : ¬ LetsOut (lift n Q) := fun ⟨_, _, h⟩ => h
theorem list_in {Q : Post} : ∀ {l : List Oper}, nodef l = true → ∀ {a : Act} {w : World}, wpList P ops (lift n Q) l a w → wpListIn (inF ro) m P ops (lift n Q) l a w
  | [], _, _, _, h => h
  | o :: l, hd, a, w, h => by
    have hl : nodef l = true := by unfold nodef at hd ⊢; simp only [List.all_cons, Bool.and_eq_true] at hd; exact hd.2
    unfold wpListIn
    unfold wpList at h
    split
    · next hw =>
      rw [if_pos hw] at h
      rcases h with h | h
      · exact op_in (nodef_at hd (by simp)) (Oper.wp_mono (fun a w => list_in hl) h)
      · exact absurd h.2 no_out
    · next hw =>
      rw [if_neg hw] at h
      exact ⟨fun _ _ => trivial, list_in hl h⟩
theorem any_in {Q : Post} (hd : nodef ops.toList = true) : ∀ (k : Nat) (listed : Array Bool) (a : Act) (w : World), wpAny P .any ops (lift n Q) k listed a w → wpAnyIn (inF ro) m P .any ops (lift n Q) k listed a w
  | 0, _, _, _, h => h
  | k + 1, listed, a, w, h => ⟨h.1, fun i hi => by
    have h2 := h.2 i hi
    unfold wpOp at h2
    unfold wpOpIn
    split
    · next ho => rw [ho] at h2; exact any_in hd k _ _ _ h2
    · next o ho =>
      simp only [ho] at h2
      split
      · next hw =>
        rw [if_pos hw] at h2
        rcases h2 with h2 | h2
        · exact op_in (nodef_at hd (Array.mem_toList_iff.2 (Array.mem_of_getElem? ho))) (Oper.wp_mono (fun a w => any_in hd k _ a w) h2)
        · exact absurd h2.2 no_out
      · next hw => rw [if_neg hw] at h2; exact ⟨fun _ _ => trivial, any_in hd k _ _ _ h2⟩⟩
theorem lift_in {Q : Post} {e : Exit} {a : Act} (h : lift n Q e a w) : liftD [] n Q e a w := by
  cases e <;> first | exact h | (obtain ⟨L, hg, hq⟩ := h; exact ⟨L, ⟨by have := hg; cases a; have := this.defers; simp only at this; subst this; exact hg, hg.defers⟩, hq⟩)
theorem good_in {a : Act} (h : GoodD [] n a L) : Good n a L := by
  obtain ⟨h1, h2⟩ := h
  cases a; simp only at h2; subst h2; exact h1
theorem WF_regW {Q : Post} {id : Nat} {l : List Oper} (hd : nodef l = true) (h : RL P n l.toArray Q l L w) : WF ro [] P n (.region id l.toArray false) Q L w := fun a ha =>
  wpIn_mono (wpIn_region_lit (list_in hd (h a (good_in ha)))) fun _ _ _ h => lift_in h
theorem WF_drwW {Q : Post} {S : World → Prop} {id : Nat} (l : List (Nat × Bool)) (hd : nodef ops.toList = true) (hm : P.follows .mixedOrders = true) (hc : chkN ops ops.size l (Array.replicate ops.size false) = true) (hs : Region.noSelect ops = true)
    (hS : ∀ k, S { w with drawn := k }) (h : ∀ k, DL P n ops Q S l L { w with drawn := k }) : WF ro [] P n (.region id ops true) Q L w := fun a ha =>
  wpIn_mono (wpIn_region_any hm (any_in hd _ _ _ _ (wpG_any _ _ _ _ ((h _ hs a (good_in ha) (fun _ => hS _) ops.size _ ops.size (Nat.le_refl _)).1 hc)))) fun _ _ _ h => lift_in h
theorem GoodD.eval {ds : List Deferred} {a : Act} {x : Operand} {v : Value} (h : GoodD ds n a L) (hx : evL L x = some v) : a.eval x = v := by
  have := h.1.eval hx
  exact this
theorem WF_if {ds : List Deferred} {Q : Post} {c : Operand} {x y : Code} {b : Bool} (hc : evL L c = some (.bool b)) (h1 : b = true → WF ro ds P n x Q L w) (h2 : b = false → WF ro ds P n y Q L w) :
    WF ro ds P n (.cond c x y) Q L w := fun a ha => wpIn_cond_split (ha.eval hc) (fun h => h1 h a ha) (fun h => h2 h a ha)
theorem WF_weak {ds : List Deferred} {Q : Post} {M : Env} {c : Code} (hs : sub L M) (h : WF ro ds P n c Q M w) : WF ro ds P n c Q L w := fun a ha => h a (ha.weak hs)
theorem f_yield2 {ds : List Deferred} {Q : Post} {rest : List Oper} {d : Tmp} {x y1 y2 : Operand} {ats : Array TypeId} {ty : TypeId} {p : String} {af : Array Edge} {l : Nat} {u1 u2 : Value} {R : Ending → World → Prop}
    (hx : evL L x = some (.func (.yield l) #[] #[])) (hy1 : evL L y1 = some u1) (hy2 : evL L y2 = some u2) (hn : Nat.blt d n = true)
    (hc : YieldAt (inF none) 2 P l #[u1, u2] w R) (k : ∀ e w', R e w' → ∃ v, e = .returned v ∧ RF none ds P n ops Q rest ((d, v) :: L) w') :
    RF none ds P n ops Q (⟨some d, .call ⟨.value x, #[y1, y2], ats⟩, ty, p, af, none⟩ :: rest) L w := by
  obtain ⟨fn, tmps, assign, body, hr, hR⟩ := hc
  refine f_op (wn rfl) (by intro c h; cases h) (r := .ok (.round l fn tmps assign body) w) (fun a ha => ?_) fun a ha K hK => ?_
  · simp [execOp, resolve, invoke, Deferred.ofValue, ha.eval hx, ha.eval hy1, ha.eval hy2, hr]
  · rw [Oper.uponIn_round]
    refine ⟨fun h => (by cases h), hR.mono fun e w' he => ?_⟩
    obtain ⟨v, rfl, hk⟩ := k e w' he
    exact hK _ _ (hk _ (ha.put hn))
end
theorem f_stoS {ro : Option Nat} {ds : List Deferred} {P : Program} {n : Nat} {ops : Array Oper} {Q : Post} {L : Env} {w w0 : World} {M : Nat → Prop} {Δ F : List Rsc} {rest : List Oper} {ty : TypeId} {p : String} {af : Array Edge} {g : Option (Nat × Bool)} {t : TypeId} {x y : Operand} {b off sz : Nat} {cs : List Value} {T} {vs : List Value} (hw : Wn ops n L ⟨none, .store t x y, ty, p, af, g⟩) (hs : ∀ w, (sizeOf t).run P w = .ok sz w) (hx : evL L x = some (.pointer (some ⟨b, off, none⟩))) (hy : evL L y = some (.agg vs.toArray))
    (hl : vs.length = sz) (h1 : allOne vs = true) (H : Sep M w0 Δ F w) (i : Nat) (hi : Δ[i]? = some (box b (.cells cs.toArray T))) (ho : Nat.ble (off + sz) cs.length = true)
    (k : ∀ w', Ext (· = b) w w' → Sep M w0 (Δ.set i (box b (.cells (layL cs off vs).toArray T))) F w' → RF ro ds P n ops Q rest L w') :
    RF ro ds P n ops Q (⟨none, .store t x y, ty, p, af, g⟩ :: rest) L w := by
  have ho' := Nat.le_of_ble_eq_true ho
  have h := k _ (Ext.refl.put (.inl rfl)) (H.put i _ hi)
  rw [← lay_layL (by rw [hl]; exact ho')] at h
  exact f_do hw rfl (pd_storeS hs hx hy hl (allOne_spec h1) (H.box i hi) (by simpa using ho')) h
theorem finCC {P : Program} {fn : Func} {R : Value → World → Prop} {L : Env} {w : World} {t u : Nat} {ty uy : TypeId} {x y : Addr} {v v2 : Value} (hr : fn.results = #[.cell t ty, .cell u uy]) (hv : look L t = some (.pointer (some x))) (hl : (loadVar ty x).run P w = .ok v w)
    (hu : look L u = some (.pointer (some y))) (hl2 : (loadVar uy y).run P w = .ok v2 w) (h : R (.tuple #[v, v2]) w) : fin P fn R .ret L w := fun _ a hg =>
  ⟨_, by have h1 := hg.cov t _ hv; have h2 := hg.cov u _ hu; simp only [Array.getD_eq_getD_getElem?] at h1 h2; simp [results, hr, h1, h2, asAddr, hl, hl2], h⟩
section
variable {P : Program} {n : Nat} {L : Env} {W : World} {R : LoopState → Option Code → Loop} {fn : FuncId} {tmps : Array Value} {assign body : Code} {t1 t2 : Tmp} {l : Nat} {u1 u2 : Value}
theorem yield_at2 (hR : Recs R fn tmps #[t1, t2] assign body) (hg : Good n { tmps := tmps, defers := [] } L) (ht1 : Nat.blt t1 n = true) (ht2 : Nat.blt t2 n = true) (hl : W.heap[l]? = some (.loop (R .ready none))) {A : Env → World → Prop} {B C : World → Prop}
    (ha : WF (some l) [] P n assign (fun e L' W' => e = .normal ∧ W'.heap[l]? = some (.loop (R .ready none)) ∧ A L' W') ((t2, u2) :: (t1, u1) :: L) W)
    (hb : ∀ L' W', A L' W' → WF (some l) [] P n body (fun e L' W' => W'.heap[l]? = some (.loop (R .busy none)) ∧ (e = .normal ∧ B W' ∨ e = .ret ∧ C W')) L' (put W' l (.loop (R .busy none)))) :
    YieldAt (inF none) 2 P l #[u1, u2] W fun e W' => ∃ W2, W2.heap[l]? = some (.loop (R .busy none)) ∧ (e = .returned (.bool true) ∧ B W2 ∧ W' = put W2 l (.loop (R .ready none)) ∨ e = .returned (.bool false) ∧ C W2 ∧ W' = put W2 l (.loop (R .done (some .ret)))) := by
  have hy := run_yield (P := P) (args := #[u1, u2]) hl (by rw [hR.ps]; rfl)
  rw [hR.fn, hR.tmps, hR.ps, hR.asg, hR.bo] at hy
  refine ⟨fn, _, assign, body, hy, ?_⟩
  have hg2 : GoodD [] n { tmps := ((#[t1, t2].zip #[u1, u2]).foldl (fun tmps (t, a) => tmps.setIfInBounds t a) tmps), defers := [] } ((t2, u2) :: (t1, u1) :: L) := by
    refine ⟨?_, rfl⟩
    have := (hg.put ht1 (v := u1)).put ht2 (v := u2)
    simpa [Act.put] using this
  refine roundIn_of_wpIn (F := inF none) trivial ?_
  have key : assign.wpIn (inF (some l)) 3 P (liftD [] n (fun e L' W' => e = .normal ∧ W'.heap[l]? = some (.loop (R .ready none)) ∧ A L' W')) { tmps := ((#[t1, t2].zip #[u1, u2]).foldl (fun tmps (t, a) => tmps.setIfInBounds t a) tmps), defers := [] } W := ha _ hg2
  have dn : ∀ {c : Code} {QQ : Exit → Act → World → Prop} {a : Act} {w : World}, c.wpIn (inF (some l)) 3 P QQ a w → c.wpIn ((inF none).inRound l) 2 P QQ a w := fun h b k cs h1 h2 h3 => h b k cs h1 h2 (fun d hd => by cases hd)
  refine dn (wpIn_mono key fun e a w hh => ?_)
  cases e with
  | normal =>
    obtain ⟨L', hg', _, hl1, hA⟩ := hh
    refine ⟨put w l (.loop (R .busy none)), ?_, dn (wpIn_mono (hb _ _ hA _ hg') fun e a w2 hh => ?_)⟩
    · have := run_beginRound (P := P) hl1 (hR.st _ _)
      rw [this]
      have e1 := hR.up .ready none .busy none
      have e2 : ({ R .ready none with state := .busy } : Loop) = R .busy none := by
        rw [← e1]
        have := hR.pe .ready none
        cases h : R .ready none; rw [h] at this; simp only at this; subst this; rfl
      rw [e2]; rfl
    · cases e with
      | normal =>
        obtain ⟨L3, _, hl2, hB⟩ := hh
        rcases hB with ⟨_, hB⟩ | ⟨hf, _⟩
        · refine ⟨_, _, run_endRound (P := P) none hl2, w2, hl2, .inl ⟨rfl, hB, ?_⟩⟩
          show put w2 l _ = _
          congr 2
          exact hR.up .busy none .ready none
        · cases hf
      | ret =>
        obtain ⟨L3, _, hl2, hB⟩ := hh
        rcases hB with ⟨hf, _⟩ | ⟨_, hC⟩
        · cases hf
        · refine ⟨_, _, run_endRound (P := P) (some .ret) hl2, w2, hl2, .inr ⟨rfl, hC, ?_⟩⟩
          show put w2 l _ = _
          congr 2
          exact hR.up .busy none .done (some .ret)
      | panic _ => exact hh
      | outgrown => exact hh
      | exit _ => obtain ⟨_, _, _, h | h⟩ := hh <;> cases h.1
      | goto _ => obtain ⟨_, _, _, h | h⟩ := hh <;> cases h.1
  | panic _ => exact hh
  | outgrown => exact hh
  | ret => obtain ⟨_, _, h, _⟩ := hh; cases h
  | exit _ => obtain ⟨_, _, h, _⟩ := hh; cases h
  | goto _ => obtain ⟨_, _, h, _⟩ := hh; cases h
end
section
variable {P : Program} {n : Nat} {L : Env} {w : World} {Q : Exit → Act → World → Prop}
theorem WF_range2 {g : Operand} {ps : Array Tmp} {assign body : Code} {gf : FuncId} {gfn : Func} {lb : Array Value} {a : Act} {K K2 : World → Prop} (ha : GoodD [] n a L) (hg : evL L g = some (.func (.func gf) #[] lb))
    (hf : P.funcs[gf]? = some gfn) (hb : gfn.body.isNone = false) (hnm : (gfn.name == "runtime.NumGoroutine") = false)
    (hc : ∀ (R : LoopState → Option Code → Loop) (fn : FuncId), Recs R fn a.tmps ps assign body →
      Ret P gf (#[.func (.yield (w.heap.size + 1)) #[] #[]] ++ lb) ((w.alloc (.deferred (some []))).alloc (.loop (R .ready none))) fun _ w2 =>
        (w2.heap[w.heap.size + 1]? = some (.loop (R .ready none)) ∧ K (put w2 (w.heap.size + 1) (.loop (R .exhausted none)))) ∨
        (w2.heap[w.heap.size + 1]? = some (.loop (R .done (some .ret))) ∧ K2 (put w2 (w.heap.size + 1) (.loop (R .exhausted (some .ret))))))
    (hQ : ∀ w3, K w3 → Q .normal { a with defers := [{ target := .collected w.heap.size, args := #[] }] } w3) (hQ2 : ∀ w3, K2 w3 → Q .ret { a with defers := [{ target := .collected w.heap.size, args := #[] }] } w3) :
    (Code.rangeFunc g ps assign body).wpIn (inF none) 3 P Q a w := by
  refine wpIn_rangeFunc ?_
  intro fn _
  let R : LoopState → Option Code → Loop := fun st pe => { state := st, pending := pe, fn, tmps := a.tmps, params := ps, assign, body, defers := w.heap.size }
  have hR : Recs R fn a.tmps ps assign body := ⟨fun _ _ => rfl, fun _ _ => rfl, fun _ _ _ _ => rfl, fun _ _ => rfl, fun _ _ => rfl, fun _ _ => rfl, fun _ _ => rfl, fun _ _ => rfl⟩
  refine ⟨w.heap.size + 1, [{ target := .collected w.heap.size, args := #[] }], (w.alloc (.deferred (some []))).alloc (.loop (R .ready none)), { target := .fn (.func gf) lb, args := #[.func (.yield (w.heap.size + 1)) #[] #[]] },
    (w.alloc (.deferred (some []))).alloc (.loop (R .ready none)), gf, #[.func (.yield (w.heap.size + 1)) #[] #[]] ++ lb, (w.alloc (.deferred (some []))).alloc (.loop (R .ready none)), run_enterLoop_outer _ _ _ _ _, ?_, fun _ _ => trivial, ?_, fun h => (by cases h), ?_⟩
  · have : a.eval g = .func (.func gf) #[] lb := ha.1.eval hg
    simp [resolve, this, Deferred.ofValue]
    rfl
  · have hb' : ¬ gfn.body = none := fun e => by rw [e] at hb; simp at hb
    have hnm' : ¬ gfn.name = "runtime.NumGoroutine" := fun e => by rw [e] at hnm; simp at hnm
    simp [invoke, callFunc, hf, hb', hnm']
  · refine callsIn_wide.2 (Calls.mono (hc R fn hR) fun e w2 ⟨v, he, hK⟩ => ?_)
    subst he
    rcases hK with ⟨hl, hK⟩ | ⟨hl, hK⟩
    · refine ⟨none, _, by have := run_endLoop (P := P) hl (by rw [hR.st]; simp); exact this, ?_⟩
      rw [ha.2]
      exact hQ _ hK
    · refine ⟨some .ret, _, by have := run_endLoop (P := P) hl (by rw [hR.st]; simp); exact this, ?_⟩
      rw [ha.2]
      exact wpIn_ret (hQ2 _ hK)
end
end Go.Wk
namespace Go.Wk
open Go.Proofs Rp
set_option maxRecDepth 10000
theorem Tryz_impl_World_spent_3 {w : World} {x r : Rec} {xA6 xA7 xA8 rA6 rA7 rA8 : Option Addr} {xC6 xC7 xC8 rb rC6 rC7 rC8 : Nat} (xK : x.Ok) (xS6 : Sees w [.slice xA6 x.Rows.length xC6] x.Rows) (xS7 : Sees w [.slice xA7 x.Data.length xC7] x.Data) (xS8 : Sees w [.slice xA8 x.Delta.length xC8] x.Delta) (rB : w.heap[rb]? = some (.cells [.int .i64 r.Kind, .int .i64 r.Seq, .string r.Name, .int .i64 r.Length, .int .i64 r.Group, .int .i64 r.Row, .slice rA6 r.Rows.length rC6, .slice rA7 r.Data.length rC7, .slice rA8 r.Delta.length rC8].toArray 68)) (rK : r.Ok) (rS6 : Sees w [.slice rA6 r.Rows.length rC6] r.Rows) (rS7 : Sees w [.slice rA7 r.Data.length rC7] r.Data) (rS8 : Sees w [.slice rA8 r.Delta.length rC8] r.Delta) : Ret Tryz.prog 251 #[x.val xA6 xC6 xA7 xC7 xA8 xC8, .pointer (some ⟨rb, 0, none⟩)] w fun v w' => Ext No w w' ∧ (v = .bool (spS r x)) := by
 have xK2 := xK
 unfold Rec.Ok at xK2
 try unfold I64ok at xK2
 try unfold maxLen at xK2
 have xN2 : x.Name.size ≤ maxLen := by unfold maxLen; omega
 have xL6 := sL xS6
 obtain ⟨xF6, xO6⟩ := xS6
 have xL7 := sL xS7
 obtain ⟨xF7, xO7⟩ := xS7
 have xL8 := sL xS8
 obtain ⟨xF8, xO8⟩ := xS8
 have rK2 := rK
 unfold Rec.Ok at rK2
 try unfold I64ok at rK2
 try unfold maxLen at rK2
 have rN2 : r.Name.size ≤ maxLen := by unfold maxLen; omega
 have rL6 := sL rS6
 obtain ⟨rF6, rO6⟩ := rS6
 have rL7 := sL rS7
 obtain ⟨rF7, rO7⟩ := rS7
 have rL8 := sL rS8
 obtain ⟨rF8, rO8⟩ := rS8
 refine ret_Q (vs := [x.val xA6 xC6 xA7 xC7 xA8 xC8, .pointer (some ⟨rb, 0, none⟩)]) Tryz.func251 rfl Tryz.ntmps251 rfl (fun Q hQ hN => ?_)
 have H0 := Sep.start (w := w) (F := [seen false [.slice xA6 x.Rows.length xC6] x.Rows xF6, seen false [.slice xA7 x.Data.length xC7] x.Data xF7, seen false [.slice xA8 x.Delta.length xC8] x.Delta xF8, box rb (.cells [.int .i64 r.Kind, .int .i64 r.Seq, .string r.Name, .int .i64 r.Length, .int .i64 r.Group, .int .i64 r.Row, .slice rA6 r.Rows.length rC6, .slice rA7 r.Data.length rC7, .slice rA8 r.Delta.length rC8].toArray 68), seen false [.slice rA6 r.Rows.length rC6] r.Rows rF6, seen false [.slice rA7 r.Data.length rC7] r.Data rF7, seen false [.slice rA8 r.Delta.length rC8] r.Delta rF8]) (all_cons xO6 (all_cons xO7 (all_cons xO8 (all_cons (by exact rB) (all_cons rO6 (all_cons rO7 (all_cons rO8 (by simp))))))))
 refine W_sr (s_box (wn rfl) rfl rfl H0 (fun b1 w1 e1 g1 H1 => ?_))
 refine sA rfl rfl (s_nil (W_sr (sV rfl (py_field tu68 rfl ts2 rfl rfl) (sV rfl (py_load tu2 rfl rfl (cell_atL (H1.box 0 rfl) rfl)) (sV rfl (py_eql rfl rfl) (sM rfl rfl (s_grp 5 (j := 3) (want := true) (t := 12) rfl rfl rfl rfl (fun hg1 kk1 => s_val (wgE rfl rfl rfl hg1) rfl rfl (py_field tu68 rfl ts2 rfl rfl) (s_val (wgE rfl rfl rfl hg1) rfl rfl (py_load tu2 rfl rfl (cell_atL (H1.box 0 rfl) rfl)) (s_val (wgE rfl rfl rfl hg1) rfl rfl (py_field tu68 rfl ts2 rfl rfl) (s_val (wgE rfl rfl rfl hg1) rfl rfl (py_load tu2 rfl rfl (cell_atL (H1.fbox 3 rfl) rfl)) (s_val (wgE rfl rfl rfl hg1) rfl rfl (py_eql rfl rfl) (kk1 _ _ (kx rfl (kx rfl (kx rfl (kx rfl (kx rfl k0))))) rfl Ext.refl)))))) (fun w2 e2 => ?_))))))))
 have H2 := H1.to e2
 refine sV rfl (py_band rfl rfl) (sM rfl rfl (s_grp 24 (j := 10) (want := false) (t := 38) rfl rfl rfl rfl (fun hg2 kk2 => s_val (wgE rfl rfl rfl hg2) rfl rfl (py_field tu68 rfl ts2 rfl rfl) (s_val (wgE rfl rfl rfl hg2) rfl rfl (py_load tu2 rfl rfl (cell_atL (H2.box 0 rfl) rfl)) (s_val (wgE rfl rfl rfl hg2) rfl rfl (py_eql rfl rfl) (s_val (wgE rfl rfl rfl hg2) rfl rfl (py_move rfl) (s_grp 5 (j := 14) (want := true) (t := 23) rfl rfl rfl rfl (fun hg3 kk3 => s_val (wgE rfl rfl rfl hg3) rfl rfl (py_field tu68 rfl ts2 rfl rfl) (s_val (wgE rfl rfl rfl hg3) rfl rfl (py_load tu2 rfl rfl (cell_atL (H2.box 0 rfl) rfl)) (s_val (wgE rfl rfl rfl hg3) rfl rfl (py_field tu68 rfl ts2 rfl rfl) (s_val (wgE rfl rfl rfl hg3) rfl rfl (py_load tu2 rfl rfl (cell_atL (H2.fbox 3 rfl) rfl)) (s_val (wgE rfl rfl rfl hg3) rfl rfl (py_eql rfl rfl) (kk3 _ _ (kx rfl (kx rfl (kx rfl (kx rfl (kx rfl k0))))) rfl Ext.refl)))))) (fun w4 e4 => s_val (wgE rfl rfl rfl hg2) rfl rfl (py_band rfl rfl) (s_val (wgE rfl rfl rfl hg2) rfl rfl (py_move rfl) (s_grp 5 (j := 21) (want := true) (t := 30) rfl rfl rfl rfl (fun hg4 kk4 => s_val (wgE rfl rfl rfl hg4) rfl rfl (py_field tu68 rfl ts2 rfl rfl) (s_val (wgE rfl rfl rfl hg4) rfl rfl (py_load tu2 rfl rfl (cell_atL ((H2.to e4).box 0 rfl) rfl)) (s_val (wgE rfl rfl rfl hg4) rfl rfl (py_field tu68 rfl ts2 rfl rfl) (s_val (wgE rfl rfl rfl hg4) rfl rfl (py_load tu2 rfl rfl (cell_atL ((H2.to e4).fbox 3 rfl) rfl)) (s_val (wgE rfl rfl rfl hg4) rfl rfl (py_eql rfl rfl) (kk4 _ _ (kx rfl (kx rfl (kx rfl (kx rfl (kx rfl k0))))) rfl Ext.refl)))))) (fun w5 e5 => s_val (wgE rfl rfl rfl hg2) rfl rfl (py_band rfl rfl) (s_val (wgE rfl rfl rfl hg2) rfl rfl (py_move rfl) (s_grp 5 (j := 28) (want := true) (t := 37) rfl rfl rfl rfl (fun hg5 kk5 => s_val (wgE rfl rfl rfl hg5) rfl rfl (py_field tu68 rfl ts2 rfl rfl) (s_val (wgE rfl rfl rfl hg5) rfl rfl (py_load tu2 rfl rfl (cell_atL (((H2.to e4).to e5).box 0 rfl) rfl)) (s_val (wgE rfl rfl rfl hg5) rfl rfl (py_field tu68 rfl ts2 rfl rfl) (s_val (wgE rfl rfl rfl hg5) rfl rfl (py_load tu2 rfl rfl (cell_atL (((H2.to e4).to e5).fbox 3 rfl) rfl)) (s_val (wgE rfl rfl rfl hg5) rfl rfl (py_gtr rfl rfl) (kk5 _ _ (kx rfl (kx rfl (kx rfl (kx rfl (kx rfl k0))))) rfl Ext.refl)))))) (fun w6 e6 => s_val (wgE rfl rfl rfl hg2) rfl rfl (py_band rfl rfl) (kk2 _ _ (kx rfl (kx rfl (kx rfl (kx rfl (kx rfl (kx rfl (kx rfl (kx rfl (kx rfl (kx rfl (kx rfl (kx rfl k0)))))))))))) rfl (((Ext.refl.trans e4).trans e5).trans e6)))))))))))))) (fun w3 e3 => ?_)))
 have H6 := H2.to e3
 refine sV rfl (py_bor rfl rfl) (sA rfl rfl (s_nil (rT hQ Tryz.results251 rfl ?_)))
 exact ⟨H6.ext, congrArg Value.bool (by unfold spS; simp only [Bool.and_assoc])⟩
theorem Tryz_impl_World_spent {w : World} {zp xsA : Option Addr} {xs : List Rec} {xsC a : Nat} (xsS : Sees w [.slice xsA xs.length xsC] xs) (ha : a < xs.length) (hk4 : (xs.getD a default).Kind = 4) : Ret Tryz.prog 149 #[.pointer zp, .slice xsA xs.length xsC, .int .i64 a] w fun v w' => Ext No w w' ∧ (v = .bool (xs.any (spS (xs.getD a default)))) := by
 have xsL := sL xsS
 obtain ⟨xsF, xsO⟩ := xsS
 refine ret_Q (vs := [.pointer zp, .slice xsA xs.length xsC, .int .i64 a]) Tryz.func149 rfl Tryz.ntmps149 rfl (fun Q hQ hN => ?_)
 have H0 := Sep.start (w := w) (F := [seen false [.slice xsA xs.length xsC] xs xsF]) (all_cons xsO (by simp))
 refine W_sr (sA rfl rfl (s_nil (W_seq ?_)))
 obtain ⟨eb1, eo1, es1, ef1, ee1, ec1, eO1, eH1, em1⟩ := elem_st (H0.seen 0 rfl) a (by omega)
 obtain ⟨ea1, ek1, ea2, ek2, ea3, ek3, eg1, eg2, eg3, rfl, eq1, eK1, eo2, eo3, eo4⟩ := own_Rec eO1
 have eK1U := eK1
 unfold Rec.Ok at eK1U
 try unfold I64ok at eK1U
 try unfold maxLen at eK1U
 have eP1 := H0.look1 0 rfl eo2 (fun b hb => eH1 b (by rw [eq1]; simp [hb]))
 have eL1 := oL eo2
 have eP2 := eP1.look1 0 rfl eo3 (fun b hb => eH1 b (by rw [eq1]; simp [hb]))
 have eL2 := oL eo3
 have eP3 := eP2.look1 0 rfl eo4 (fun b hb => eH1 b (by rw [eq1]; simp [hb]))
 have eL3 := oL eo4
 refine W_reg (sM rfl rfl (sM rfl rfl (sV rfl (py_elz tu30 ts68 rfl rfl ee1 a (by omega) (by omega)) (sV rfl (py_loadS tu68 rfl ts68 rfl rfl ec1) (s_var (wn rfl) rfl Tryz.zeroValue68 eP3 (fun b1 w1 e1 g1 H1 => ?_))))))
 refine s_stoS (wn rfl) ts68 rfl rfl rfl rfl H1 0 rfl rfl (fun w2 e2 H2 => ?_)
 dsimp only [lNA, lCA, lSZ, lSS, layL] at H2
 refine s_nil (W_seq (W_sr (sV rfl (py_field tu68 rfl ts2 rfl rfl) (sV rfl (py_load tu2 rfl rfl (cell_atL (H2.box 0 rfl) rfl)) (s_nil (W_block (W_sr (sV rfl (py_eql rfl rfl) (sA rfl rfl (s_nil (W_ifd rfl (fun c1 => ?_) (fun c1 => ?_))))))))))))
 ·exact absurd c1 (by omega)
 ·refine W_sr (sV rfl (py_eql rfl rfl) (sA rfl rfl (s_nil (W_ifd rfl (fun c2 => ?_) (fun c2 => ?_)))))
  ·exact absurd c2 (by omega)
  ·refine W_sr (sV rfl (py_eql rfl rfl) (sA rfl rfl (s_nil (W_ifd rfl (fun c3 => ?_) (fun c3 => ?_)))))
   ·exact absurd c3 (by omega)
   ·refine W_skip (W_sr (sM rfl rfl (sV rfl (py_func rfl) (s_call (wn rfl) rfl rfl (pc_call Tryz.func221 rfl Tryz_nm221 rfl) (Tryz_ContainsFunc_Rec (H2.sees 0 rfl) (p := (spS (xs.getD a default))) Tryz.func251 rfl Tryz_nm251 (fun w1 e1 i0 hi0 _ _ _ _ _ _ K0 o0_6 o0_7 o0_8 => Tryz_impl_World_spent_3 K0 o0_6 o0_7 o0_8 ((H2.to e1).box 0 rfl) (by assumption) ((H2.to e1).sees 1 rfl) ((H2.to e1).sees 2 rfl) ((H2.to e1).sees 3 rfl))) (fun v1 w3 r1 => ?_)))))
    obtain ⟨e3, rfl⟩ := r1
    have H3 := H2.to e3
    refine sA rfl rfl (s_nil (rT hQ Tryz.results149 rfl ?_))
    exact ⟨H3.ext, rfl⟩
theorem Tryz_spec_l6IsSpent {w : World} {s : Shape} {xs : List Rec} {xsA : Option Addr} {xsC a : Nat} (xsS : Sees w [.slice xsA xs.length xsC] xs) (ha : a < xs.length) (hk4 : (xs.getD a default).Kind = 4) : Ret Tryz.prog 140 #[s.v, .slice xsA xs.length xsC, .int .i64 a] w fun v w' => Ext No w w' ∧ (v = .bool (xs.any (spS (xs.getD a default)))) := by
 have xsL := sL xsS
 obtain ⟨xsF, xsO⟩ := xsS
 refine ret_Q (vs := [s.v, .slice xsA xs.length xsC, .int .i64 a]) Tryz.func140 rfl Tryz.ntmps140 rfl (fun Q hQ hN => ?_)
 have H0 := Sep.start (w := w) (F := [seen false [.slice xsA xs.length xsC] xs xsF]) (all_cons xsO (by simp))
 refine W_sr (s_box (wn rfl) rfl rfl H0 (fun b1 w1 e1 g1 H1 => ?_))
 refine sA rfl rfl (s_nil (W_seq ?_))
 obtain ⟨eb1, eo1, es1, ef1, ee1, ec1, eO1, eH1, em1⟩ := elem_st (H1.seen 0 rfl) a (by omega)
 obtain ⟨ea1, ek1, ea2, ek2, ea3, ek3, eg1, eg2, eg3, rfl, eq1, eK1, eo2, eo3, eo4⟩ := own_Rec eO1
 have eK1U := eK1
 unfold Rec.Ok at eK1U
 try unfold I64ok at eK1U
 try unfold maxLen at eK1U
 have eP1 := H1.look1 0 rfl eo2 (fun b hb => eH1 b (by rw [eq1]; simp [hb]))
 have eL1 := oL eo2
 have eP2 := eP1.look1 0 rfl eo3 (fun b hb => eH1 b (by rw [eq1]; simp [hb]))
 have eL2 := oL eo3
 have eP3 := eP2.look1 0 rfl eo4 (fun b hb => eH1 b (by rw [eq1]; simp [hb]))
 have eL3 := oL eo4
 refine W_reg (sM rfl rfl (sM rfl rfl (sV rfl (py_elz tu30 ts68 rfl rfl ee1 a (by omega) (by omega)) (sV rfl (py_loadS tu68 rfl ts68 rfl rfl ec1) (s_var (wn rfl) rfl Tryz.zeroValue68 eP3 (fun b2 w2 e2 g2 H2 => ?_))))))
 refine s_stoS (wn rfl) ts68 rfl rfl rfl rfl H2 1 rfl rfl (fun w3 e3 H3 => ?_)
 dsimp only [lNA, lCA, lSZ, lSS, layL] at H3
 refine s_nil (W_seq (W_sr (sV rfl (py_field tu68 rfl ts2 rfl rfl) (sV rfl (py_load tu2 rfl rfl (cell_atL (H3.box 1 rfl) rfl)) (sV rfl (py_eql rfl rfl) (s_nil (W_ifd rfl (fun c1 => ?_) (fun c1 => ?_))))))))
 ·exact absurd c1 (by omega)
 ·refine W_skip (W_seq (W_sr (sV rfl (py_field tu68 rfl ts2 rfl rfl) (sV rfl (py_load tu2 rfl rfl (cell_atL (H3.box 1 rfl) rfl)) (sV rfl (py_eql rfl rfl) (s_nil (W_ifd rfl (fun c2 => ?_) (fun c2 => ?_))))))))
  ·exact absurd c2 (by omega)
  ·refine W_skip (W_seq (W_sr (sA rfl rfl (s_nil (W_block (W_loopS (γ := Nat) H3 [(1, _), (7, _)] ⟨rfl, rfl, trivial⟩ (fun k => [(8, .int .i64 k)]) (fun k => k ≤ xs.length ∧ (∀ i, i < k → spS (xs.getD a default) (xs.getD i default) = false)) (fun k => xs.length - k) 0 ⟨rfl, trivial⟩ ⟨by omega, fun i hi => by omega⟩ (fun k w4 H4 ⟨hk, he⟩ => ?_)))))))
   dsimp only [lCA, lNA]
   refine W_seq (W_sr (sM rfl rfl (sM rfl rfl (sV rfl (py_len tu30 rfl) (sV rfl (py_lss rfl rfl) (s_nil (W_ifd rfl (fun c3 => ?_) (fun c3 => ?_))))))))
   ·refine W_skip (W_seq (W_block (W_seq ?_)))
    obtain ⟨eb2, eo5, es2, ef2, ee2, ec2, eO2, eH2, em2⟩ := elem_st (H4.seen 0 rfl) k (by omega)
    obtain ⟨ea4, ek4, ea5, ek5, ea6, ek6, eg4, eg5, eg6, rfl, eq2, eK2, eo6, eo7, eo8⟩ := own_Rec eO2
    have eK2U := eK2
    unfold Rec.Ok at eK2U
    try unfold I64ok at eK2U
    try unfold maxLen at eK2U
    have eP4 := H4.look1 0 rfl eo6 (fun b hb => eH2 b (by rw [eq2]; simp [hb]))
    have eL4 := oL eo6
    have eP5 := eP4.look1 0 rfl eo7 (fun b hb => eH2 b (by rw [eq2]; simp [hb]))
    have eL5 := oL eo7
    have eP6 := eP5.look1 0 rfl eo8 (fun b hb => eH2 b (by rw [eq2]; simp [hb]))
    have eL6 := oL eo8
    refine W_reg (sM rfl rfl (sM rfl rfl (sV rfl (py_elz tu30 ts68 rfl rfl ee2 k (by omega) (by omega)) (sV rfl (py_loadS tu68 rfl ts68 rfl rfl ec2) (s_var (wn rfl) rfl Tryz.zeroValue68 eP6 (fun b3 w5 e4 g3 H5 => ?_))))))
    refine s_stoS (wn rfl) ts68 rfl rfl rfl rfl H5 2 rfl rfl (fun w6 e5 H6 => ?_)
    dsimp only [lNA, lCA, lSZ, lSS, layL] at H6
    refine s_nil (W_seq (W_sr (sV rfl (py_field tu68 rfl ts2 rfl rfl) (sV rfl (py_load tu2 rfl rfl (cell_atL (H6.box 1 rfl) rfl)) (sV rfl (py_eql rfl rfl) (sM rfl rfl (s_grp 3 (j := 3) (want := true) (t := 46) rfl rfl rfl rfl (fun hg1 kk1 => s_val (wgE rfl rfl rfl hg1) rfl rfl (py_field tu68 rfl ts2 rfl rfl) (s_val (wgE rfl rfl rfl hg1) rfl rfl (py_load tu2 rfl rfl (cell_atL (H6.box 2 rfl) rfl)) (s_val (wgE rfl rfl rfl hg1) rfl rfl (py_eql rfl rfl) (kk1 _ _ (kx rfl (kx rfl (kx rfl k0))) rfl Ext.refl)))) (fun w7 e6 => ?_))))))))
    have H7 := H6.to e6
    refine sV rfl (py_band rfl rfl) (sM rfl rfl (s_grp 5 (j := 8) (want := true) (t := 53) rfl rfl rfl rfl (fun hg2 kk2 => s_val (wgE rfl rfl rfl hg2) rfl rfl (py_field tu68 rfl ts2 rfl rfl) (s_val (wgE rfl rfl rfl hg2) rfl rfl (py_load tu2 rfl rfl (cell_atL (H7.box 2 rfl) rfl)) (s_val (wgE rfl rfl rfl hg2) rfl rfl (py_field tu68 rfl ts2 rfl rfl) (s_val (wgE rfl rfl rfl hg2) rfl rfl (py_load tu2 rfl rfl (cell_atL (H7.box 1 rfl) rfl)) (s_val (wgE rfl rfl rfl hg2) rfl rfl (py_eql rfl rfl) (kk2 _ _ (kx rfl (kx rfl (kx rfl (kx rfl (kx rfl k0))))) rfl Ext.refl)))))) (fun w8 e7 => ?_)))
    have H8 := H7.to e7
    refine sV rfl (py_band rfl rfl) (s_nil (W_if rfl (fun c4 => ?_) (fun c4 => ?_)))
    ·exfalso; rw [hk4] at c4; simp at c4
    ·refine W_skip (W_sr (sV rfl (py_field tu68 rfl ts2 rfl rfl) (sV rfl (py_load tu2 rfl rfl (cell_atL (H8.box 1 rfl) rfl)) (sV rfl (py_eql rfl rfl) (sM rfl rfl (s_grp 36 (j := 3) (want := true) (t := 94) rfl rfl rfl rfl (fun hg3 kk3 => s_val (wgE rfl rfl rfl hg3) rfl rfl (py_field tu68 rfl ts2 rfl rfl) (s_val (wgE rfl rfl rfl hg3) rfl rfl (py_load tu2 rfl rfl (cell_atL (H8.box 2 rfl) rfl)) (s_val (wgE rfl rfl rfl hg3) rfl rfl (py_eql rfl rfl) (s_val (wgE rfl rfl rfl hg3) rfl rfl (py_move rfl) (s_grp 5 (j := 7) (want := true) (t := 67) rfl rfl rfl rfl (fun hg4 kk4 => s_val (wgE rfl rfl rfl hg4) rfl rfl (py_field tu68 rfl ts2 rfl rfl) (s_val (wgE rfl rfl rfl hg4) rfl rfl (py_load tu2 rfl rfl (cell_atL (H8.box 2 rfl) rfl)) (s_val (wgE rfl rfl rfl hg4) rfl rfl (py_field tu68 rfl ts2 rfl rfl) (s_val (wgE rfl rfl rfl hg4) rfl rfl (py_load tu2 rfl rfl (cell_atL (H8.box 1 rfl) rfl)) (s_val (wgE rfl rfl rfl hg4) rfl rfl (py_eql rfl rfl) (kk4 _ _ (kx rfl (kx rfl (kx rfl (kx rfl (kx rfl k0))))) rfl Ext.refl)))))) (fun w10 e9 => s_val (wgE rfl rfl rfl hg3) rfl rfl (py_band rfl rfl) (s_val (wgE rfl rfl rfl hg3) rfl rfl (py_move rfl) (s_grp 24 (j := 14) (want := false) (t := 93) rfl rfl rfl rfl (fun hg5 kk5 => s_val (wgE rfl rfl rfl hg5) rfl rfl (py_field tu68 rfl ts2 rfl rfl) (s_val (wgE rfl rfl rfl hg5) rfl rfl (py_load tu2 rfl rfl (cell_atL ((H8.to e9).box 2 rfl) rfl)) (s_val (wgE rfl rfl rfl hg5) rfl rfl (py_eql rfl rfl) (s_val (wgE rfl rfl rfl hg5) rfl rfl (py_move rfl) (s_grp 5 (j := 18) (want := true) (t := 78) rfl rfl rfl rfl (fun hg6 kk6 => s_val (wgE rfl rfl rfl hg6) rfl rfl (py_field tu68 rfl ts2 rfl rfl) (s_val (wgE rfl rfl rfl hg6) rfl rfl (py_load tu2 rfl rfl (cell_atL ((H8.to e9).box 2 rfl) rfl)) (s_val (wgE rfl rfl rfl hg6) rfl rfl (py_field tu68 rfl ts2 rfl rfl) (s_val (wgE rfl rfl rfl hg6) rfl rfl (py_load tu2 rfl rfl (cell_atL ((H8.to e9).box 1 rfl) rfl)) (s_val (wgE rfl rfl rfl hg6) rfl rfl (py_eql rfl rfl) (kk6 _ _ (kx rfl (kx rfl (kx rfl (kx rfl (kx rfl k0))))) rfl Ext.refl)))))) (fun w12 e11 => s_val (wgE rfl rfl rfl hg5) rfl rfl (py_band rfl rfl) (s_val (wgE rfl rfl rfl hg5) rfl rfl (py_move rfl) (s_grp 5 (j := 25) (want := true) (t := 85) rfl rfl rfl rfl (fun hg7 kk7 => s_val (wgE rfl rfl rfl hg7) rfl rfl (py_field tu68 rfl ts2 rfl rfl) (s_val (wgE rfl rfl rfl hg7) rfl rfl (py_load tu2 rfl rfl (cell_atL (((H8.to e9).to e11).box 2 rfl) rfl)) (s_val (wgE rfl rfl rfl hg7) rfl rfl (py_field tu68 rfl ts2 rfl rfl) (s_val (wgE rfl rfl rfl hg7) rfl rfl (py_load tu2 rfl rfl (cell_atL (((H8.to e9).to e11).box 1 rfl) rfl)) (s_val (wgE rfl rfl rfl hg7) rfl rfl (py_eql rfl rfl) (kk7 _ _ (kx rfl (kx rfl (kx rfl (kx rfl (kx rfl k0))))) rfl Ext.refl)))))) (fun w13 e12 => s_val (wgE rfl rfl rfl hg5) rfl rfl (py_band rfl rfl) (s_val (wgE rfl rfl rfl hg5) rfl rfl (py_move rfl) (s_grp 5 (j := 32) (want := true) (t := 92) rfl rfl rfl rfl (fun hg8 kk8 => s_val (wgE rfl rfl rfl hg8) rfl rfl (py_field tu68 rfl ts2 rfl rfl) (s_val (wgE rfl rfl rfl hg8) rfl rfl (py_load tu2 rfl rfl (cell_atL ((((H8.to e9).to e11).to e12).box 2 rfl) rfl)) (s_val (wgE rfl rfl rfl hg8) rfl rfl (py_field tu68 rfl ts2 rfl rfl) (s_val (wgE rfl rfl rfl hg8) rfl rfl (py_load tu2 rfl rfl (cell_atL ((((H8.to e9).to e11).to e12).box 1 rfl) rfl)) (s_val (wgE rfl rfl rfl hg8) rfl rfl (py_gtr rfl rfl) (kk8 _ _ (kx rfl (kx rfl (kx rfl (kx rfl (kx rfl k0))))) rfl Ext.refl)))))) (fun w14 e13 => s_val (wgE rfl rfl rfl hg5) rfl rfl (py_band rfl rfl) (kk5 _ _ (kx rfl (kx rfl (kx rfl (kx rfl (kx rfl (kx rfl (kx rfl (kx rfl (kx rfl (kx rfl (kx rfl (kx rfl k0)))))))))))) rfl (((Ext.refl.trans e11).trans e12).trans e13)))))))))))))) (fun w11 e10 => s_val (wgE rfl rfl rfl hg3) rfl rfl (py_bor rfl rfl) (kk3 _ _ (kx rfl (kx rfl (kx rfl (kx rfl (kx rfl (kx rfl (kx rfl (kx rfl (kx rfl k0))))))))) rfl ((Ext.refl.trans e9).trans e10))))))))))) (fun w9 e8 => ?_)))))))
     have H14 := H8.to e8
     refine sV rfl (py_band rfl rfl) (s_nil (W_if rfl (fun c5 => ?_) (fun c5 => ?_)))
     ·refine W_sr (sA rfl rfl (s_nil (rT hQ Tryz.results140 rfl ?_)))
      exact ⟨H14.ext, congrArg Value.bool (by rw [anyR_yes (k := k) (by omega) (by have hc := c5; simp only [hk4] at hc; simpa [spS, Bool.and_assoc] using hc)])⟩
     ·refine W_skip (W_reg (sM rfl rfl (sV rfl (py_add rfl rfl (in64 ⟨by omega, by omega⟩)) (sA rfl rfl (s_nil (⟨k + 1, ⟨rfl, rfl, rfl, trivial⟩, ⟨((H14.ftake 4).dtake 2), by omega, fun i hi => ?_⟩, by dsimp only; omega⟩))))))
      by_cases e : i = k
      ·subst e
       have hc := c5
       simp only [hk4] at hc
       simpa [spS, Bool.and_assoc] using hc
      ·exact he i (by omega)
   ·refine W_exit (W_sr (sV rfl (py_field tu68 rfl ts2 rfl rfl) (sV rfl (py_load tu2 rfl rfl (cell_atL (H4.box 1 rfl) rfl)) (sV rfl (py_eql rfl rfl) (sA rfl rfl (s_nil (rT hQ Tryz.results140 rfl ?_)))))))
    exact ⟨H4.ext, congrArg Value.bool (by rw [anyR_none (fun i hi => he i (by omega)), hk4]; rfl)⟩
theorem Tryz_spec_l8Open {w : World} {s : Shape} {xs : List Rec} {xsA : Option Addr} {xsC : Nat} {g row : Int} (xsS : Sees w [.slice xsA xs.length xsC] xs) : Ret Tryz.prog 64 #[s.v, .slice xsA xs.length xsC, .int .i64 g, .int .i64 row] w fun v w' => Ext No w w' ∧ (v = .int .i64 (opI xs g row)) := by
 have xsL := sL xsS
 obtain ⟨xsF, xsO⟩ := xsS
 refine ret_Q (vs := [s.v, .slice xsA xs.length xsC, .int .i64 g, .int .i64 row]) Tryz.func64 rfl Tryz.ntmps64 rfl (fun Q hQ hN => ?_)
 have H0 := Sep.start (w := w) (F := [seen false [.slice xsA xs.length xsC] xs xsF]) (all_cons xsO (by simp))
 refine W_sr (s_box (wn rfl) rfl rfl H0 (fun b1 w1 e1 g1 H1 => ?_))
 refine sA rfl rfl (s_nil (W_sr (sA rfl rfl (s_nil (W_seq (W_sr (sA rfl rfl (s_nil (W_block (W_loopS (γ := Nat) H1 [(1, _), (2, _), (3, _), (4, _), (8, _)] ⟨rfl, rfl, rfl, rfl, rfl, trivial⟩ (fun k => [(9, .int .i64 (lastTo (shP g row) xs k)), (10, .int .i64 k)]) (fun k => k ≤ xs.length ∧ True) (fun k => xs.length - k) 0 ⟨rfl, rfl, trivial⟩ ⟨by omega, trivial⟩ (fun k w2 H2 ⟨hk, _⟩ => ?_)))))))))))
 dsimp only [lCA, lNA]
 refine W_seq (W_sr (sM rfl rfl (sM rfl rfl (sV rfl (py_len tu30 rfl) (sV rfl (py_lss rfl rfl) (s_nil (W_ifd rfl (fun c1 => ?_) (fun c1 => ?_))))))))
 ·refine W_skip (W_seq (W_block (W_seq ?_)))
  obtain ⟨eb1, eo1, es1, ef1, ee1, ec1, eO1, eH1, em1⟩ := elem_st (H2.seen 0 rfl) k (by omega)
  obtain ⟨ea1, ek1, ea2, ek2, ea3, ek3, eg1, eg2, eg3, rfl, eq1, eK1, eo2, eo3, eo4⟩ := own_Rec eO1
  have eK1U := eK1
  unfold Rec.Ok at eK1U
  try unfold I64ok at eK1U
  try unfold maxLen at eK1U
  have eP1 := H2.look1 0 rfl eo2 (fun b hb => eH1 b (by rw [eq1]; simp [hb]))
  have eL1 := oL eo2
  have eP2 := eP1.look1 0 rfl eo3 (fun b hb => eH1 b (by rw [eq1]; simp [hb]))
  have eL2 := oL eo3
  have eP3 := eP2.look1 0 rfl eo4 (fun b hb => eH1 b (by rw [eq1]; simp [hb]))
  have eL3 := oL eo4
  refine W_reg (sM rfl rfl (sM rfl rfl (sV rfl (py_elz tu30 ts68 rfl rfl ee1 k (by omega) (by omega)) (sV rfl (py_field tu68 rfl ts2 rfl rfl) (sV rfl (py_load tu2 rfl rfl (at_cell ec1 0 rfl)) (sV rfl (py_eql rfl rfl) (sM rfl rfl (s_grp 7 (j := 6) (want := true) (t := 30) rfl rfl rfl rfl (fun hg1 kk1 => s_val (wgE rfl rfl rfl hg1) rfl rfl (py_move rfl) (s_val (wgE rfl rfl rfl hg1) rfl rfl (py_move rfl) (s_val (wgE rfl rfl rfl hg1) rfl rfl (py_elz tu30 ts68 rfl rfl ee1 k (by first | omega | (simp only [Bool.or_eq_false_iff, Bool.and_eq_true, Bool.and_eq_false_iff, Bool.or_eq_true, Bool.not_eq_true', Bool.not_eq_false', decide_eq_true_eq, decide_eq_false_iff_not] at hg1; omega)) (by omega)) (s_val (wgE rfl rfl rfl hg1) rfl rfl (py_field tu68 rfl ts2 rfl rfl) (s_val (wgE rfl rfl rfl hg1) rfl rfl (py_load tu2 rfl rfl (at_cell ec1 4 rfl)) (s_val (wgE rfl rfl rfl hg1) rfl rfl (py_move rfl) (s_val (wgE rfl rfl rfl hg1) rfl rfl (py_eql rfl rfl) (kk1 _ _ (kx rfl (kx rfl (kx rfl (kx rfl (kx rfl (kx rfl (kx rfl k0))))))) rfl Ext.refl)))))))) (fun w3 e2 => ?_)))))))))
  have H3 := eP3.to e2
  refine sV rfl (py_band rfl rfl) (sM rfl rfl (s_grp 7 (j := 15) (want := true) (t := 39) rfl rfl rfl rfl (fun hg2 kk2 => s_val (wgE rfl rfl rfl hg2) rfl rfl (py_move rfl) (s_val (wgE rfl rfl rfl hg2) rfl rfl (py_move rfl) (s_val (wgE rfl rfl rfl hg2) rfl rfl (py_elz tu30 ts68 rfl rfl ee1 k (by first | omega | (simp only [Bool.or_eq_false_iff, Bool.and_eq_true, Bool.and_eq_false_iff, Bool.or_eq_true, Bool.not_eq_true', Bool.not_eq_false', decide_eq_true_eq, decide_eq_false_iff_not] at hg2; omega)) (by omega)) (s_val (wgE rfl rfl rfl hg2) rfl rfl (py_field tu68 rfl ts2 rfl rfl) (s_val (wgE rfl rfl rfl hg2) rfl rfl (py_load tu2 rfl rfl (at_cell (e2.at ec1) 5 rfl)) (s_val (wgE rfl rfl rfl hg2) rfl rfl (py_move rfl) (s_val (wgE rfl rfl rfl hg2) rfl rfl (py_eql rfl rfl) (kk2 _ _ (kx rfl (kx rfl (kx rfl (kx rfl (kx rfl (kx rfl (kx rfl k0))))))) rfl Ext.refl)))))))) (fun w4 e3 => ?_)))
  have H4 := H3.to e3
  refine sV rfl (py_band rfl rfl) (s_nil (W_if rfl (fun c2 => ?_) (fun c2 => ?_)))
  ·refine W_reg (sM rfl rfl (sA rfl rfl (s_nil (W_reg (sM rfl rfl (sV rfl (py_add rfl rfl (in64 ⟨by omega, by omega⟩)) (sA rfl rfl (s_nil (⟨k + 1, ⟨eqI (lastTo_yes (by simpa [shP, Bool.and_assoc] using c2)).symm, rfl, rfl, rfl, rfl, rfl, rfl, trivial⟩, ⟨(H4.ftake 1), by omega, trivial⟩, by dsimp only; omega⟩)))))))))
  ·refine W_skip (W_reg (sM rfl rfl (sV rfl (py_add rfl rfl (in64 ⟨by omega, by omega⟩)) (sA rfl rfl (s_nil (⟨k + 1, ⟨eqI (lastTo_no (by simpa [shP, Bool.and_assoc] using c2)).symm, rfl, rfl, rfl, rfl, rfl, rfl, trivial⟩, ⟨(H4.ftake 1), by omega, trivial⟩, by dsimp only; omega⟩))))))
 ·refine W_exit (W_seq (W_seq ?_))
  obtain rfl : k = xs.length := by omega
  have hlb := lastI_bd (p := shP g row) (rs := xs)
  refine W_reg (sM rfl rfl (sV rfl (py_geq rfl rfl) (sM rfl rfl (s_case (t := 44) rfl (fun hg3 => ?_) (fun hg3 => ?_)))))
  ·have hg0 : 0 ≤ (lastI (shP g row) xs) := of_decide_eq_true hg3
   refine s_val (wg rfl rfl rfl) rfl rfl (py_loadS tu34 rfl ts34 rfl rfl (At.whole (H2.box 0 rfl))) (s_val (wg rfl rfl rfl) rfl rfl (py_move rfl) (s_val (wg rfl rfl rfl) rfl rfl (py_move rfl) (s_call (wg rfl rfl rfl) rfl rfl (pc_call Tryz.func140 rfl Tryz_nm140 rfl) (by have hS : Sees _ [.slice xsA xs.length xsC] xs := ⟨_, own_weak (H2.seen 0 rfl)⟩; have lc := Tryz_spec_l6IsSpent (s := s) (a := (lastI (shP g row) xs).toNat) hS (by omega) ((shP_kind (lastTo_get hg0)).1); rw [Int.toNat_of_nonneg hg0] at lc; exact lc) (fun v1 w5 r1 => ?_))))
   obtain ⟨e4, rfl⟩ := r1
   have H5 := H2.to e4
   refine sV rfl (py_pickT rfl rfl) (s_nil (W_if rfl (fun c3 => ?_) (fun c3 => ?_)))
   ·refine W_sr (sA rfl rfl (s_nil (rT hQ Tryz.results64 rfl ?_)))
    exact ⟨H5.ext, congrArg (Value.int .i64) (opI_spent (by omega) c3).symm⟩
   ·refine W_skip (W_sr (sM rfl rfl (sA rfl rfl (s_nil (rT hQ Tryz.results64 rfl ?_)))))
    exact ⟨H5.ext, congrArg (Value.int .i64) (opI_open (by omega) (by simpa using c3)).symm⟩
  ·have hg0 : ¬ 0 ≤ (lastI (shP g row) xs) := of_decide_eq_false hg3
   refine sKf rfl rfl rfl (sKf rfl rfl rfl (sKf rfl rfl rfl (sKf rfl rfl rfl (sV rfl (py_pickF rfl rfl) (s_nil (W_iff rfl (W_skip (W_sr (sM rfl rfl (sA rfl rfl (s_nil (rT hQ Tryz.results64 rfl ?_))))))))))))
   exact ⟨H2.ext, congrArg (Value.int .i64) (opI_none2 hg0).symm⟩
end Go.Wk
namespace Go.Wk
open Go.Proofs Rp
set_option maxRecDepth 10000
theorem Tryz_backward {w : World} {A : Option Addr} {n C : Nat} : Ret Tryz.prog 148 #[.slice A n C] w fun v w' => Ext No w w' ∧ ∃ b, w.heap.size ≤ b ∧ v = .func (.func 247) #[] #[.pointer (some ⟨b, 0, none⟩)] ∧ w'.heap[b]? = some (.cells [.slice A n C].toArray 30) := by
 refine ret_Q (vs := [.slice A n C]) Tryz.func148 rfl Tryz.ntmps148 rfl (fun Q hQ hN => ?_)
 have H0 := Sep.start (w := w) (F := []) (by simp)
 refine W_sr (s_box (wn rfl) rfl rfl H0 (fun b1 w1 e1 g1 H1 => ?_))
 dsimp only [lNA, lCA] at H1
 refine sA rfl rfl (s_nil (W_sr (sV rfl (py_func rfl) (sA rfl rfl (s_nil (rT hQ Tryz.results148 rfl ?_))))))
 exact ⟨H1.ext, b1, g1, rfl, H1.box 0 rfl⟩
theorem Tryz_backgo {w : World} {l b1 n C : Nat} {A : Option Addr} {val : Nat → List Value} {J : Nat → World → Prop} {K : World → Prop} (hn : n ≤ 1000000)
  (hb : ∀ i W, J i W → W.heap[b1]? = some (.cells [.slice A n C].toArray 30))
  (hc : ∀ i W, J (i + 1) W → i < n → ∃ b o, A = some ⟨b, o, none⟩ ∧ At W b (o + i * 9) (val i))
  (hY : ∀ i W, J (i + 1) W → i < n → YieldAt (inF none) 2 Tryz.prog l #[.int .i64 (i : Nat), .agg (val i).toArray] W fun e W' => e = .returned (.bool true) ∧ J i W' ∨ e = .returned (.bool false) ∧ K W') (hv : ∀ i, (val i).length = 9) (h0 : J n w) :
  Ret Tryz.prog 247 #[.func (.yield l) #[] #[], .pointer (some ⟨b1, 0, none⟩)] w fun _ w' => J 0 w' ∨ K w' := by
 refine ret_Q (vs := [.func (.yield l) #[] #[], .pointer (some ⟨b1, 0, none⟩)]) Tryz.func247 rfl Tryz.ntmps247 rfl (fun Q hQ hN => ?_)
 refine W_sr (sV rfl (py_load tu30 rfl rfl (cell_atL (hb _ _ h0) rfl)) (sV rfl (py_len tu30 rfl) (sV rfl (py_sub rfl rfl (in64 ⟨by omega, by omega⟩)) (sA rfl rfl (s_nil (W_block (W_loop (γ := Nat) (fun i => [(0, .func (.yield l) #[] #[]), (1, .pointer (some ⟨b1, 0, none⟩)), (3, .int .i64 ((i : Int) - 1))]) (fun i w' => i ≤ n ∧ J i w') (fun i => i) n ⟨rfl, rfl, rfl, trivial⟩ ⟨Nat.le_refl _, h0⟩ (fun i w1 hI => ?_))))))))
 obtain ⟨hi, hJ⟩ := hI
 refine W_seq (W_sr (sM rfl rfl (sV rfl (py_geq rfl rfl) (s_nil (W_ifd rfl (fun c1 => ?_) (fun c1 => ?_))))))
 ·obtain ⟨j, rfl⟩ : ∃ j, i = j + 1 := ⟨i - 1, by omega⟩
  have ej : ((j + 1 : Nat) : Int) - 1 = (j : Nat) := by omega
  rw [ej]
  obtain ⟨b, o, hA, hat⟩ := hc j w1 hJ (by omega)
  refine W_skip (W_seq (W_block (W_seq (W_of (WF_reg (f_val (wn rfl) rfl rfl (py_move rfl) (f_val (wn rfl) rfl rfl (py_move rfl) (f_val (wn rfl) rfl rfl (py_load tu30 rfl rfl (cell_atL (hb _ _ hJ) rfl)) (f_val (wn rfl) rfl rfl (py_move rfl) (f_val (wn rfl) rfl rfl (py_elz tu30 ts68 rfl rfl hA j rfl (by omega)) (f_val (wn rfl) rfl rfl (py_loadS tu68 rfl ts68 rfl (hv j) hat) (f_yield2 rfl rfl rfl rfl (hY j _ hJ (by omega)) (fun e w2 he => ?_)))))))))))))
  rcases he with ⟨rfl, hJ2⟩ | ⟨rfl, hK⟩
  ·refine ⟨_, rfl, ?_⟩
   refine f_val (wn rfl) rfl rfl (py_not rfl) (f_nil (W_iff rfl (W_skip (W_reg (sM rfl rfl (sV rfl (py_sub rfl rfl (in64 ⟨by omega, by omega⟩)) (sA rfl rfl (s_nil ?_))))))))
   exact ⟨j, ⟨rfl, rfl, rfl, trivial⟩, ⟨by omega, hJ2⟩, by dsimp only; omega⟩
  ·refine ⟨_, rfl, ?_⟩
   refine f_val (wn rfl) rfl rfl (py_not rfl) (f_nil (W_ift rfl (W_ret (hQ _ _ (fin0 Tryz.results247 ?_)))))
   exact .inr hK
 ·obtain rfl : i = 0 := by omega
  refine W_exit (hN _ _ (fin0 Tryz.results247 ?_))
  exact .inl hJ
theorem Tryz_impl_World_openShare {w : World} {zb zC9 zC10 zC11 : Nat} {z : Wld} {zA9 zA10 zA11 : Option Addr} {zF9 zF10 zF11 : List Nat} {g row : Int} (zB : w.heap[zb]? = some (.cells [.int .i64 z.Shape.Groups, .int .i64 z.Shape.Column, .int .i64 z.Shape.Data, .int .i64 z.Shape.Spare, .int .i64 z.Shape.Rows, .int .i64 z.Shape.Cap, .int .i64 z.Shape.Batch, .int .i64 z.Shape.Queue, .int .i64 z.Shape.Stage, .slice zA9 z.Groups.length zC9, .slice zA10 z.On.length zC10, .slice zA11 z.Tapes.length zC11, .int .i64 z.Writes, .int .i64 z.Stop, .bool z.Down].toArray 38)) (zK : z.Ok) (zO9 : own false w [.slice zA9 z.Groups.length zC9] z.Groups zF9) (zO10 : own false w [.slice zA10 z.On.length zC10] z.On zF10) (zO11 : own false w [.slice zA11 z.Tapes.length zC11] z.Tapes zF11) (hT : z.Tapes.length = 2) (hrl : ∀ k, (z.Tapes.getD k default).Recs.length ≤ 200000) : Ret Tryz.prog 73 #[.pointer (some ⟨zb, 0, none⟩), .int .i64 g, .int .i64 row] w fun v w' => Ext No w w' ∧ (∃ A6 C6 A7 C7 A8 C8, v = .tuple #[(opR z g row).val A6 C6 A7 C7 A8 C8, .bool (opOK z g row)] ∧ InF w' zF11 (RecV.mk (opR z g row) A6 C6 A7 C7 A8 C8).cs (opR z g row)) := by
 have zK2 := zK
 unfold Wld.Ok Shape.Ok at zK2
 try unfold I64ok at zK2
 try unfold maxLen at zK2
 have zL9 := oL zO9
 have zL10 := oL zO10
 have zL11 := oL zO11
 refine ret_marks (vs := [.pointer (some ⟨zb, 0, none⟩), .int .i64 g, .int .i64 row]) Tryz.func73 rfl Tryz.ntmps73 rfl (fun a ha => ?_)
 have H0 := Sep.start (w := w) (F := [box zb (.cells [.int .i64 z.Shape.Groups, .int .i64 z.Shape.Column, .int .i64 z.Shape.Data, .int .i64 z.Shape.Spare, .int .i64 z.Shape.Rows, .int .i64 z.Shape.Cap, .int .i64 z.Shape.Batch, .int .i64 z.Shape.Queue, .int .i64 z.Shape.Stage, .slice zA9 z.Groups.length zC9, .slice zA10 z.On.length zC10, .slice zA11 z.Tapes.length zC11, .int .i64 z.Writes, .int .i64 z.Stop, .bool z.Down].toArray 38), seen false [.slice zA9 z.Groups.length zC9] z.Groups zF9, seen false [.slice zA10 z.On.length zC10] z.On zF10, seen false [.slice zA11 z.Tapes.length zC11] z.Tapes zF11]) (all_cons (by exact zB) (all_cons zO9 (all_cons zO10 (all_cons zO11 (by simp)))))
 refine seqF (L := argsL 0 _) (B := fun L' w' => ∃ b1 b2 b3 b4 b5, sub L' [(3, .pointer (some ⟨b1, 0, none⟩)), (4, .pointer (some ⟨b2, 0, none⟩)), (5, .pointer (some ⟨b3, 0, none⟩)), (6, .pointer (some ⟨b4, 0, none⟩)), (7, .pointer (some ⟨b5, 0, none⟩))] ∧ Sep No w [box b1 (.cells [.pointer (some ⟨zb, 0, none⟩)].toArray 82), box b2 (.cells [.int .i64 g].toArray 2), box b3 (.cells [.int .i64 row].toArray 2), box b4 (.cells [.int .i64 0, .int .i64 0, .string ⟨#[]⟩, .int .i64 0, .int .i64 0, .int .i64 0, .slice none 0 0, .slice none 0 0, .slice none 0 0].toArray 68), box b5 (.cells [.bool false].toArray 4)] [box zb (.cells [.int .i64 z.Shape.Groups, .int .i64 z.Shape.Column, .int .i64 z.Shape.Data, .int .i64 z.Shape.Spare, .int .i64 z.Shape.Rows, .int .i64 z.Shape.Cap, .int .i64 z.Shape.Batch, .int .i64 z.Shape.Queue, .int .i64 z.Shape.Stage, .slice zA9 z.Groups.length zC9, .slice zA10 z.On.length zC10, .slice zA11 z.Tapes.length zC11, .int .i64 z.Writes, .int .i64 z.Stop, .bool z.Down].toArray 38), seen false [.slice zA9 z.Groups.length zC9] z.Groups zF9, seen false [.slice zA10 z.On.length zC10] z.On zF10, seen false [.slice zA11 z.Tapes.length zC11] z.Tapes zF11] w') ha ?_ (fun a1 L1 w1 ha1 hB => ?_)
 ·refine WF_regW rfl (s_box (wn rfl) rfl rfl H0 (fun b11 w11 e1 g1 H11 => ?_))
  refine s_box (wn rfl) rfl rfl H11 (fun b12 w12 e2 g2 H12 => ?_)
  refine s_box (wn rfl) rfl rfl H12 (fun b13 w13 e3 g3 H13 => ?_)
  refine s_var (wn rfl) rfl Tryz.zeroValue68 H13 (fun b14 w14 e4 g4 H14 => ?_)
  refine s_var (wn rfl) rfl Tryz.zeroValue4 H14 (fun b15 w15 e5 g5 H15 => ?_)
  refine s_nil ?_
  exact ⟨rfl, _, _, _, _, _, ⟨rfl, rfl, rfl, rfl, rfl, trivial⟩, H15⟩
 obtain ⟨b1, b2, b3, b4, b5, hs1, H1⟩ := hB
 replace ha1 := ha1.weak hs1
 refine seqF (B := fun L' w' => ∃ b6 vs sa sk fp, sub L' [(3, .pointer (some ⟨b1, 0, none⟩)), (4, .pointer (some ⟨b2, 0, none⟩)), (5, .pointer (some ⟨b3, 0, none⟩)), (6, .pointer (some ⟨b4, 0, none⟩)), (7, .pointer (some ⟨b5, 0, none⟩)), (8, .pointer (some ⟨b6, 0, none⟩))] ∧ Sep No w [box b1 (.cells [.pointer (some ⟨zb, 0, none⟩)].toArray 82), box b2 (.cells [.int .i64 g].toArray 2), box b3 (.cells [.int .i64 row].toArray 2), box b4 (.cells [.int .i64 0, .int .i64 0, .string ⟨#[]⟩, .int .i64 0, .int .i64 0, .int .i64 0, .slice none 0 0, .slice none 0 0, .slice none 0 0].toArray 68), box b5 (.cells [.bool false].toArray 4), mine [.slice sa vs.length sk] vs fp, box b6 (.cells [.slice sa vs.length sk].toArray 30)] [box zb (.cells [.int .i64 z.Shape.Groups, .int .i64 z.Shape.Column, .int .i64 z.Shape.Data, .int .i64 z.Shape.Spare, .int .i64 z.Shape.Rows, .int .i64 z.Shape.Cap, .int .i64 z.Shape.Batch, .int .i64 z.Shape.Queue, .int .i64 z.Shape.Stage, .slice zA9 z.Groups.length zC9, .slice zA10 z.On.length zC10, .slice zA11 z.Tapes.length zC11, .int .i64 z.Writes, .int .i64 z.Stop, .bool z.Down].toArray 38), seen false [.slice zA9 z.Groups.length zC9] z.Groups zF9, seen false [.slice zA10 z.On.length zC10] z.On zF10, seen false [.slice zA11 z.Tapes.length zC11] z.Tapes zF11] w' ∧ RdV w zF11 vs ∧ vs.map RecV.r = cntL z) ha1 ?_ (fun a2 L2 w2 ha2 hB => ?_)
 ·refine WF_regW rfl (sV rfl (py_load tu82 rfl rfl (cell_atL (H1.box 0 rfl) rfl)) (s_call (wn rfl) rfl rfl (pc_call Tryz.func99 rfl Tryz_nm99 rfl) (Tryz_impl_World_counted (H1.fbox 0 rfl) (by assumption) (own_weak (H1.seen 1 rfl)) (own_weak (H1.seen 2 rfl)) (own_weak (H1.seen 3 rfl)) (by first | assumption | omega) (by first | assumption | omega)) (fun v1 w11 r1 => ?_)))
  obtain ⟨e1, vs1, r1, hR1, hM1⟩ := r1
  obtain ⟨fp1, H11⟩ := H1.res e1 r1
  obtain ⟨sa1, sk1, sq1⟩ := own_slice (H11.mine 5 rfl)
  cases sq1
  have hl1 : vs1.length = (cntL z).length := by rw [← hM1, List.length_map]
  have hb1 := cntL_bd (z := z) (by first | assumption | omega) (by assumption)
  have hRw1 : RdV w zF11 vs1 := hR1.back H11.ext (Rp.lt zO11)
  refine s_var (wn rfl) rfl Tryz.zeroValue30 H11 (fun b11 w12 e2 g1 H12 => ?_)
  refine s_sto (wn rfl) ts30 rfl rfl rfl H12 6 rfl rfl (fun w13 e3 H13 => ?_)
  dsimp only [lNA, lCA, lSZ, lSS, layL] at H13
  refine s_nil ?_
  exact ⟨rfl, _, _, _, _, _, ⟨rfl, rfl, rfl, rfl, rfl, rfl, trivial⟩, H13, hRw1, hM1⟩
 obtain ⟨b6, vs, sa, sk, fp, hs2, H2, hR, hM⟩ := hB
 replace ha2 := ha2.weak hs2
 have hl : vs.length = (cntL z).length := by rw [← hM, List.length_map]
 have hcb := cntL_bd (z := z) (by assumption) (by assumption)
 refine wpIn_seq (seqF (B := fun L' w' => ∃ b7, sub L' [(14, .func (.func 247) #[] #[.pointer (some ⟨b7, 0, none⟩)]), (3, .pointer (some ⟨b1, 0, none⟩)), (4, .pointer (some ⟨b2, 0, none⟩)), (5, .pointer (some ⟨b3, 0, none⟩)), (6, .pointer (some ⟨b4, 0, none⟩)), (7, .pointer (some ⟨b5, 0, none⟩)), (8, .pointer (some ⟨b6, 0, none⟩))] ∧ Sep No w [box b1 (.cells [.pointer (some ⟨zb, 0, none⟩)].toArray 82), box b2 (.cells [.int .i64 g].toArray 2), box b3 (.cells [.int .i64 row].toArray 2), box b4 (.cells [.int .i64 0, .int .i64 0, .string ⟨#[]⟩, .int .i64 0, .int .i64 0, .int .i64 0, .slice none 0 0, .slice none 0 0, .slice none 0 0].toArray 68), box b5 (.cells [.bool false].toArray 4), mine [.slice sa vs.length sk] vs fp, box b6 (.cells [.slice sa vs.length sk].toArray 30), box b7 (.cells [.slice sa vs.length sk].toArray 30)] [box zb (.cells [.int .i64 z.Shape.Groups, .int .i64 z.Shape.Column, .int .i64 z.Shape.Data, .int .i64 z.Shape.Spare, .int .i64 z.Shape.Rows, .int .i64 z.Shape.Cap, .int .i64 z.Shape.Batch, .int .i64 z.Shape.Queue, .int .i64 z.Shape.Stage, .slice zA9 z.Groups.length zC9, .slice zA10 z.On.length zC10, .slice zA11 z.Tapes.length zC11, .int .i64 z.Writes, .int .i64 z.Stop, .bool z.Down].toArray 38), seen false [.slice zA9 z.Groups.length zC9] z.Groups zF9, seen false [.slice zA10 z.On.length zC10] z.On zF10, seen false [.slice zA11 z.Tapes.length zC11] z.Tapes zF11] w') ha2 ?_ (fun a3 L3 w3 ha3 hB => ?_))
 ·refine WF_regW rfl (sV rfl (py_load tu30 rfl rfl (cell_atL (H2.box 6 rfl) rfl)) (s_call (wn rfl) rfl rfl (pc_call Tryz.func148 rfl Tryz_nm148 rfl) Tryz_backward (fun v9 w9 r9 => ?_)))
  obtain ⟨e9, b7, g7, rfl, h7⟩ := r9
  have H9 := H2.add e9 (r := box b7 (.cells [.slice sa vs.length sk].toArray 30)) (by exact h7) (by simp [Wk.box]) (by simpa [Wk.box] using g7)
  refine s_nil ?_
  exact ⟨rfl, b7, ⟨rfl, rfl, rfl, rfl, rfl, rfl, rfl, trivial⟩, H9⟩
 obtain ⟨b7, hs3, H3⟩ := hB
 replace ha3 := ha3.weak hs3
 refine wpIn_block (WF_range2 ha3 (lb := #[.pointer (some ⟨b7, 0, none⟩)]) rfl Tryz.func247 rfl Tryz_nm247 (K := fun W => ∃ o, Sep No w [box b1 (.cells [.pointer (some ⟨zb, 0, none⟩)].toArray 82), box b2 (.cells [.int .i64 g].toArray 2), box b3 (.cells [.int .i64 row].toArray 2), box b4 (.cells [.int .i64 0, .int .i64 0, .string ⟨#[]⟩, .int .i64 0, .int .i64 0, .int .i64 0, .slice none 0 0, .slice none 0 0, .slice none 0 0].toArray 68), box b5 (.cells [.bool false].toArray 4), mine [.slice sa vs.length sk] vs fp, box b6 (.cells [.slice sa vs.length sk].toArray 30), box b7 (.cells [.slice sa vs.length sk].toArray 30), box w3.heap.size (.deferred (some [])), box (w3.heap.size + 1) o] [box zb (.cells [.int .i64 z.Shape.Groups, .int .i64 z.Shape.Column, .int .i64 z.Shape.Data, .int .i64 z.Shape.Spare, .int .i64 z.Shape.Rows, .int .i64 z.Shape.Cap, .int .i64 z.Shape.Batch, .int .i64 z.Shape.Queue, .int .i64 z.Shape.Stage, .slice zA9 z.Groups.length zC9, .slice zA10 z.On.length zC10, .slice zA11 z.Tapes.length zC11, .int .i64 z.Writes, .int .i64 z.Stop, .bool z.Down].toArray 38), seen false [.slice zA9 z.Groups.length zC9] z.Groups zF9, seen false [.slice zA10 z.On.length zC10] z.On zF10, seen false [.slice zA11 z.Tapes.length zC11] z.Tapes zF11] W ∧ (∀ j, j < vs.length → shP g row (vs.getD j default).r = false)) (K2 := fun W => ∃ o i, Sep No w [box b1 (.cells [.pointer (some ⟨zb, 0, none⟩)].toArray 82), box b2 (.cells [.int .i64 g].toArray 2), box b3 (.cells [.int .i64 row].toArray 2), box b4 (.cells [.int .i64 (vs.getD i default).r.Kind, .int .i64 (vs.getD i default).r.Seq, .string (vs.getD i default).r.Name, .int .i64 (vs.getD i default).r.Length, .int .i64 (vs.getD i default).r.Group, .int .i64 (vs.getD i default).r.Row, .slice (vs.getD i default).A6 (vs.getD i default).r.Rows.length (vs.getD i default).C6, .slice (vs.getD i default).A7 (vs.getD i default).r.Data.length (vs.getD i default).C7, .slice (vs.getD i default).A8 (vs.getD i default).r.Delta.length (vs.getD i default).C8].toArray 68), box b5 (.cells [.bool (!((cntL z).any (spS ((cntL z).getD i default))))].toArray 4), mine [.slice sa vs.length sk] vs fp, box b6 (.cells [.slice sa vs.length sk].toArray 30), box b7 (.cells [.slice sa vs.length sk].toArray 30), box w3.heap.size (.deferred (some [])), box (w3.heap.size + 1) o] [box zb (.cells [.int .i64 z.Shape.Groups, .int .i64 z.Shape.Column, .int .i64 z.Shape.Data, .int .i64 z.Shape.Spare, .int .i64 z.Shape.Rows, .int .i64 z.Shape.Cap, .int .i64 z.Shape.Batch, .int .i64 z.Shape.Queue, .int .i64 z.Shape.Stage, .slice zA9 z.Groups.length zC9, .slice zA10 z.On.length zC10, .slice zA11 z.Tapes.length zC11, .int .i64 z.Writes, .int .i64 z.Stop, .bool z.Down].toArray 38), seen false [.slice zA9 z.Groups.length zC9] z.Groups zF9, seen false [.slice zA10 z.On.length zC10] z.On zF10, seen false [.slice zA11 z.Tapes.length zC11] z.Tapes zF11] W ∧ i < vs.length ∧ shP g row (vs.getD i default).r = true ∧ (∀ j, i < j → j < vs.length → shP g row (vs.getD j default).r = false)) (fun R fn hR2 => ?_) (fun W hK => ?_) (fun W hK => ?_))
 ·have e1 : (w3.alloc (.deferred (some []))).heap.size = w3.heap.size + 1 := by simp
  have HA := (H3.alloc (.deferred (some []))).alloc (.loop (R .ready none))
  rw [e1] at HA
  try dsimp only [lNA, lCA, lSZ, lSS] at HA
  refine Ret.mono (Tryz_backgo (A := sa) (n := vs.length) (C := sk) (b1 := b7) (val := fun i => [.int .i64 (vs.getD i default).r.Kind, .int .i64 (vs.getD i default).r.Seq, .string (vs.getD i default).r.Name, .int .i64 (vs.getD i default).r.Length, .int .i64 (vs.getD i default).r.Group, .int .i64 (vs.getD i default).r.Row, .slice (vs.getD i default).A6 (vs.getD i default).r.Rows.length (vs.getD i default).C6, .slice (vs.getD i default).A7 (vs.getD i default).r.Data.length (vs.getD i default).C7, .slice (vs.getD i default).A8 (vs.getD i default).r.Delta.length (vs.getD i default).C8]) (J := fun i W => Sep No w [box b1 (.cells [.pointer (some ⟨zb, 0, none⟩)].toArray 82), box b2 (.cells [.int .i64 g].toArray 2), box b3 (.cells [.int .i64 row].toArray 2), box b4 (.cells [.int .i64 0, .int .i64 0, .string ⟨#[]⟩, .int .i64 0, .int .i64 0, .int .i64 0, .slice none 0 0, .slice none 0 0, .slice none 0 0].toArray 68), box b5 (.cells [.bool false].toArray 4), mine [.slice sa vs.length sk] vs fp, box b6 (.cells [.slice sa vs.length sk].toArray 30), box b7 (.cells [.slice sa vs.length sk].toArray 30), box w3.heap.size (.deferred (some [])), box (w3.heap.size + 1) (.loop (R .ready none))] [box zb (.cells [.int .i64 z.Shape.Groups, .int .i64 z.Shape.Column, .int .i64 z.Shape.Data, .int .i64 z.Shape.Spare, .int .i64 z.Shape.Rows, .int .i64 z.Shape.Cap, .int .i64 z.Shape.Batch, .int .i64 z.Shape.Queue, .int .i64 z.Shape.Stage, .slice zA9 z.Groups.length zC9, .slice zA10 z.On.length zC10, .slice zA11 z.Tapes.length zC11, .int .i64 z.Writes, .int .i64 z.Stop, .bool z.Down].toArray 38), seen false [.slice zA9 z.Groups.length zC9] z.Groups zF9, seen false [.slice zA10 z.On.length zC10] z.On zF10, seen false [.slice zA11 z.Tapes.length zC11] z.Tapes zF11] W ∧ ∀ j, i ≤ j → j < vs.length → shP g row (vs.getD j default).r = false) (K := fun W => ∃ i, Sep No w [box b1 (.cells [.pointer (some ⟨zb, 0, none⟩)].toArray 82), box b2 (.cells [.int .i64 g].toArray 2), box b3 (.cells [.int .i64 row].toArray 2), box b4 (.cells [.int .i64 (vs.getD i default).r.Kind, .int .i64 (vs.getD i default).r.Seq, .string (vs.getD i default).r.Name, .int .i64 (vs.getD i default).r.Length, .int .i64 (vs.getD i default).r.Group, .int .i64 (vs.getD i default).r.Row, .slice (vs.getD i default).A6 (vs.getD i default).r.Rows.length (vs.getD i default).C6, .slice (vs.getD i default).A7 (vs.getD i default).r.Data.length (vs.getD i default).C7, .slice (vs.getD i default).A8 (vs.getD i default).r.Delta.length (vs.getD i default).C8].toArray 68), box b5 (.cells [.bool (!((cntL z).any (spS ((cntL z).getD i default))))].toArray 4), mine [.slice sa vs.length sk] vs fp, box b6 (.cells [.slice sa vs.length sk].toArray 30), box b7 (.cells [.slice sa vs.length sk].toArray 30), box w3.heap.size (.deferred (some [])), box (w3.heap.size + 1) (.loop (R .done (some .ret)))] [box zb (.cells [.int .i64 z.Shape.Groups, .int .i64 z.Shape.Column, .int .i64 z.Shape.Data, .int .i64 z.Shape.Spare, .int .i64 z.Shape.Rows, .int .i64 z.Shape.Cap, .int .i64 z.Shape.Batch, .int .i64 z.Shape.Queue, .int .i64 z.Shape.Stage, .slice zA9 z.Groups.length zC9, .slice zA10 z.On.length zC10, .slice zA11 z.Tapes.length zC11, .int .i64 z.Writes, .int .i64 z.Stop, .bool z.Down].toArray 38), seen false [.slice zA9 z.Groups.length zC9] z.Groups zF9, seen false [.slice zA10 z.On.length zC10] z.On zF10, seen false [.slice zA11 z.Tapes.length zC11] z.Tapes zF11] W ∧ i < vs.length ∧ shP g row (vs.getD i default).r = true ∧ (∀ j, i < j → j < vs.length → shP g row (vs.getD j default).r = false)) (by omega) ?_ ?_ ?_ (fun _ => rfl) ⟨HA, fun j h1 h2 => by omega⟩) ?_
  ·rintro i W ⟨H, _⟩
   exact H.box 7 rfl
  ·rintro i W ⟨H, _⟩ hi
   obtain ⟨b, o, h1, h2, _⟩ := H.viewAt 5 rfl i hi
   exact ⟨b, o, h1, h2⟩
  ·rintro i W ⟨HJ, hJ⟩ hi
   have hvo := hR.okAt hi
   have hy := yield_at2 (P := Tryz.prog) (u1 := .int .i64 (i : Nat)) (u2 := .agg [.int .i64 (vs.getD i default).r.Kind, .int .i64 (vs.getD i default).r.Seq, .string (vs.getD i default).r.Name, .int .i64 (vs.getD i default).r.Length, .int .i64 (vs.getD i default).r.Group, .int .i64 (vs.getD i default).r.Row, .slice (vs.getD i default).A6 (vs.getD i default).r.Rows.length (vs.getD i default).C6, .slice (vs.getD i default).A7 (vs.getD i default).r.Data.length (vs.getD i default).C7, .slice (vs.getD i default).A8 (vs.getD i default).r.Delta.length (vs.getD i default).C8].toArray) hR2 ha3.1 rfl rfl (HJ.box 9 rfl)
    (A := fun L' W' => ∃ b10, sub L' [(9, .int .i64 (i : Nat)), (10, .pointer (some ⟨b10, 0, none⟩)), (3, .pointer (some ⟨b1, 0, none⟩)), (4, .pointer (some ⟨b2, 0, none⟩)), (5, .pointer (some ⟨b3, 0, none⟩)), (6, .pointer (some ⟨b4, 0, none⟩)), (7, .pointer (some ⟨b5, 0, none⟩)), (8, .pointer (some ⟨b6, 0, none⟩))] ∧ Sep No w [box b1 (.cells [.pointer (some ⟨zb, 0, none⟩)].toArray 82), box b2 (.cells [.int .i64 g].toArray 2), box b3 (.cells [.int .i64 row].toArray 2), box b4 (.cells [.int .i64 0, .int .i64 0, .string ⟨#[]⟩, .int .i64 0, .int .i64 0, .int .i64 0, .slice none 0 0, .slice none 0 0, .slice none 0 0].toArray 68), box b5 (.cells [.bool false].toArray 4), mine [.slice sa vs.length sk] vs fp, box b6 (.cells [.slice sa vs.length sk].toArray 30), box b7 (.cells [.slice sa vs.length sk].toArray 30), box w3.heap.size (.deferred (some [])), box (w3.heap.size + 1) (.loop (R .ready none)), box b10 (.cells [.int .i64 (vs.getD i default).r.Kind, .int .i64 (vs.getD i default).r.Seq, .string (vs.getD i default).r.Name, .int .i64 (vs.getD i default).r.Length, .int .i64 (vs.getD i default).r.Group, .int .i64 (vs.getD i default).r.Row, .slice (vs.getD i default).A6 (vs.getD i default).r.Rows.length (vs.getD i default).C6, .slice (vs.getD i default).A7 (vs.getD i default).r.Data.length (vs.getD i default).C7, .slice (vs.getD i default).A8 (vs.getD i default).r.Delta.length (vs.getD i default).C8].toArray 68)] [box zb (.cells [.int .i64 z.Shape.Groups, .int .i64 z.Shape.Column, .int .i64 z.Shape.Data, .int .i64 z.Shape.Spare, .int .i64 z.Shape.Rows, .int .i64 z.Shape.Cap, .int .i64 z.Shape.Batch, .int .i64 z.Shape.Queue, .int .i64 z.Shape.Stage, .slice zA9 z.Groups.length zC9, .slice zA10 z.On.length zC10, .slice zA11 z.Tapes.length zC11, .int .i64 z.Writes, .int .i64 z.Stop, .bool z.Down].toArray 38), seen false [.slice zA9 z.Groups.length zC9] z.Groups zF9, seen false [.slice zA10 z.On.length zC10] z.On zF10, seen false [.slice zA11 z.Tapes.length zC11] z.Tapes zF11] W')
    (B := fun W2 => Sep No w [box b1 (.cells [.pointer (some ⟨zb, 0, none⟩)].toArray 82), box b2 (.cells [.int .i64 g].toArray 2), box b3 (.cells [.int .i64 row].toArray 2), box b4 (.cells [.int .i64 0, .int .i64 0, .string ⟨#[]⟩, .int .i64 0, .int .i64 0, .int .i64 0, .slice none 0 0, .slice none 0 0, .slice none 0 0].toArray 68), box b5 (.cells [.bool false].toArray 4), mine [.slice sa vs.length sk] vs fp, box b6 (.cells [.slice sa vs.length sk].toArray 30), box b7 (.cells [.slice sa vs.length sk].toArray 30), box w3.heap.size (.deferred (some [])), box (w3.heap.size + 1) (.loop (R .busy none))] [box zb (.cells [.int .i64 z.Shape.Groups, .int .i64 z.Shape.Column, .int .i64 z.Shape.Data, .int .i64 z.Shape.Spare, .int .i64 z.Shape.Rows, .int .i64 z.Shape.Cap, .int .i64 z.Shape.Batch, .int .i64 z.Shape.Queue, .int .i64 z.Shape.Stage, .slice zA9 z.Groups.length zC9, .slice zA10 z.On.length zC10, .slice zA11 z.Tapes.length zC11, .int .i64 z.Writes, .int .i64 z.Stop, .bool z.Down].toArray 38), seen false [.slice zA9 z.Groups.length zC9] z.Groups zF9, seen false [.slice zA10 z.On.length zC10] z.On zF10, seen false [.slice zA11 z.Tapes.length zC11] z.Tapes zF11] W2 ∧ shP g row (vs.getD i default).r = false)
    (C := fun W2 => Sep No w [box b1 (.cells [.pointer (some ⟨zb, 0, none⟩)].toArray 82), box b2 (.cells [.int .i64 g].toArray 2), box b3 (.cells [.int .i64 row].toArray 2), box b4 (.cells [.int .i64 (vs.getD i default).r.Kind, .int .i64 (vs.getD i default).r.Seq, .string (vs.getD i default).r.Name, .int .i64 (vs.getD i default).r.Length, .int .i64 (vs.getD i default).r.Group, .int .i64 (vs.getD i default).r.Row, .slice (vs.getD i default).A6 (vs.getD i default).r.Rows.length (vs.getD i default).C6, .slice (vs.getD i default).A7 (vs.getD i default).r.Data.length (vs.getD i default).C7, .slice (vs.getD i default).A8 (vs.getD i default).r.Delta.length (vs.getD i default).C8].toArray 68), box b5 (.cells [.bool (!((cntL z).any (spS ((cntL z).getD i default))))].toArray 4), mine [.slice sa vs.length sk] vs fp, box b6 (.cells [.slice sa vs.length sk].toArray 30), box b7 (.cells [.slice sa vs.length sk].toArray 30), box w3.heap.size (.deferred (some [])), box (w3.heap.size + 1) (.loop (R .busy none))] [box zb (.cells [.int .i64 z.Shape.Groups, .int .i64 z.Shape.Column, .int .i64 z.Shape.Data, .int .i64 z.Shape.Spare, .int .i64 z.Shape.Rows, .int .i64 z.Shape.Cap, .int .i64 z.Shape.Batch, .int .i64 z.Shape.Queue, .int .i64 z.Shape.Stage, .slice zA9 z.Groups.length zC9, .slice zA10 z.On.length zC10, .slice zA11 z.Tapes.length zC11, .int .i64 z.Writes, .int .i64 z.Stop, .bool z.Down].toArray 38), seen false [.slice zA9 z.Groups.length zC9] z.Groups zF9, seen false [.slice zA10 z.On.length zC10] z.On zF10, seen false [.slice zA11 z.Tapes.length zC11] z.Tapes zF11] W2 ∧ shP g row (vs.getD i default).r = true)
    (by
     refine WF_seq (WF_regW rfl (sA rfl rfl (s_nil (WF_regW rfl (s_var (wn rfl) rfl Tryz.zeroValue68 HJ (fun b21 w21 e1 g1 H21 => ?_))))))
     refine s_stoS (wn rfl) ts68 rfl rfl rfl rfl H21 10 rfl rfl (fun w22 e2 H22 => ?_)
     dsimp only [lNA, lCA, lSZ, lSS, layL] at H22
     refine s_nil ?_
     exact ⟨rfl, H22.box 9 rfl, _, ⟨rfl, rfl, rfl, rfl, rfl, rfl, rfl, rfl, trivial⟩, H22⟩)
    (by
     rintro L' W' ⟨b10, hs, HQ⟩
     have HB := HQ.put 9 (.loop (R .busy none)) rfl
     try dsimp only [lNA, lCA, lSZ, lSS] at HB
     refine WF_weak hs (WF_block (WF_seq (WF_regW rfl (sV rfl (py_field tu68 rfl ts2 rfl rfl) (sV rfl (py_load tu2 rfl rfl (cell_atL (HB.box 10 rfl) rfl)) (sV rfl (py_eql rfl rfl) (sM rfl rfl (s_grp 4 (j := 3) (want := true) (t := 24) rfl rfl rfl rfl (fun hg1 kk1 => s_val (wgE rfl rfl rfl hg1) rfl rfl (py_field tu68 rfl ts2 rfl rfl) (s_val (wgE rfl rfl rfl hg1) rfl rfl (py_load tu2 rfl rfl (cell_atL (HB.box 10 rfl) rfl)) (s_val (wgE rfl rfl rfl hg1) rfl rfl (py_load tu2 rfl rfl (cell_atL (HB.box 1 rfl) rfl)) (s_val (wgE rfl rfl rfl hg1) rfl rfl (py_eql rfl rfl) (kk1 _ _ (kx rfl (kx rfl (kx rfl (kx rfl k0)))) rfl Ext.refl))))) (fun w41 e1 => ?_)))))))))
     have H41 := HB.to e1
     refine sV rfl (py_band rfl rfl) (sM rfl rfl (s_grp 4 (j := 9) (want := true) (t := 30) rfl rfl rfl rfl (fun hg2 kk2 => s_val (wgE rfl rfl rfl hg2) rfl rfl (py_field tu68 rfl ts2 rfl rfl) (s_val (wgE rfl rfl rfl hg2) rfl rfl (py_load tu2 rfl rfl (cell_atL (H41.box 10 rfl) rfl)) (s_val (wgE rfl rfl rfl hg2) rfl rfl (py_load tu2 rfl rfl (cell_atL (H41.box 2 rfl) rfl)) (s_val (wgE rfl rfl rfl hg2) rfl rfl (py_eql rfl rfl) (kk2 _ _ (kx rfl (kx rfl (kx rfl (kx rfl k0)))) rfl Ext.refl))))) (fun w42 e2 => ?_)))
     have H42 := H41.to e2
     refine sV rfl (py_band rfl rfl) (s_nil (WF_if rfl (fun c1 => ?_) (fun c1 => ?_)))
     ·have hsp : shP g row (vs.getD i default).r = true := by simpa [shP, Bool.and_assoc] using c1
      have hk4 := (shP_kind hsp).1
      refine WF_seq (WF_drwW (S := Ext (· ∈ [b4]) _) [(0, true), (1, true), (2, true), (3, true), (4, false), (5, true), (6, false), (7, false)] rfl (by kernel_rfl) (by kernel_rfl) (by kernel_rfl) (fun _ => Ext.refl.drawn _) (fun q1 => ?_))
      have H43 := H42.drawn q1
      refine dV rfl rfl (fun zw hx => py_loadS tu68 rfl ts68 rfl rfl (At.whole (hx.heapM (H43.boff 10 rfl 3 rfl rfl) (H43.box 10 rfl)))) (dV rfl rfl (fun zw hx => py_load tu82 rfl rfl (cell_atL (hx.heapM (H43.boff 0 rfl 3 rfl rfl) (H43.box 0 rfl)) rfl)) (dV rfl rfl (fun zw hx => py_load tu30 rfl rfl (cell_atL (hx.heapM (H43.boff 6 rfl 3 rfl rfl) (H43.box 6 rfl)) rfl)) (dM rfl rfl rfl ?_)))
      have lc := Tryz_impl_World_spent (zp := some ⟨zb, 0, none⟩) (xs := vs.map RecV.r) (a := i) (by rw [List.length_map]; exact (hR.to H43.ext).list (H43.mine 5 rfl)) (by rw [List.length_map]; exact hi) (by rw [← map_getD rfl hi]; exact hk4)
      rw [List.length_map, hM] at lc
      refine d_call rfl (wn rfl) rfl rfl (pc_call Tryz.func149 rfl Tryz_nm149 rfl) lc (fun hS _ _ r _ => hS.trans r.1.no) (fun v1 w43 r1 => ?_)
      obtain ⟨e3, rfl⟩ := r1
      have H44 := H43.to e3
      refine dV rfl rfl (fun zw hx => py_not rfl) (d_stoS rfl (wn rfl) ts68 rfl rfl rfl rfl H44 3 rfl rfl (fun _ h e _ => h.trans (e.mono fun _ _ q => by simp [q])) (fun w44 e4 H45 => ?_))
      dsimp only [lNA, lCA, lSZ, lSS, layL] at H45
      refine d_sto rfl (wn rfl) ts4 rfl rfl rfl H45 4 rfl rfl (fun _ _ _ hr => absurd rfl hr) (fun w45 e5 H46 => ?_)
      dsimp only [lNA, lCA, lSZ, lSS, layL] at H46
      refine d_nil (WF_ret ?_)
      exact ⟨H46.box 9 rfl, .inr ⟨rfl, H46.dtake 10, hsp⟩⟩
     ·have hsp : shP g row (vs.getD i default).r = false := by simpa [shP, Bool.and_assoc] using c1
      refine WF_skip ?_
      exact ⟨H42.box 9 rfl, .inl ⟨rfl, H42.dtake 10, hsp⟩⟩)
   obtain ⟨f1, t1, s1, o1, r1, k1⟩ := hy
   refine ⟨f1, t1, s1, o1, r1, k1.mono fun e W' he => ?_⟩
   obtain ⟨W2, _, ⟨he, ⟨H4, h4⟩, rfl⟩ | ⟨he, ⟨H4, h4⟩, rfl⟩⟩ := he
   ·refine .inl ⟨he, H4.put 9 (.loop (R .ready none)) rfl, fun j h1 h2 => ?_⟩
    by_cases e : j = i
    ·subst e; exact h4
    ·exact hJ j (by omega) h2
   ·exact .inr ⟨he, i, H4.put 9 (.loop (R .done (some .ret))) rfl, hi, h4, fun j h1 h2 => hJ j (by omega) h2⟩
  ·rintro _ W2 (⟨H, h⟩ | ⟨i, H, h1, h2, h3⟩)
   ·exact .inl ⟨H.box 9 rfl, _, H.put 9 (.loop (R .exhausted none)) rfl, fun j hj => h j (Nat.zero_le _) hj⟩
   ·exact .inr ⟨H.box 9 rfl, _, i, H.put 9 (.loop (R .exhausted (some .ret))) rfl, h1, h2, h3⟩
 ·obtain ⟨o, HK, hn⟩ := hK
  show Code.wpIn _ _ _ _ _ _ _
  have ha5 : GoodD [{ target := .collected w3.heap.size, args := #[] }] 39 { a3 with defers := [{ target := .collected w3.heap.size, args := #[] }] } [(3, .pointer (some ⟨b1, 0, none⟩)), (4, .pointer (some ⟨b2, 0, none⟩)), (5, .pointer (some ⟨b3, 0, none⟩)), (6, .pointer (some ⟨b4, 0, none⟩)), (7, .pointer (some ⟨b5, 0, none⟩))] :=
   ⟨by have := ha3.1; exact this.weak ⟨rfl, rfl, rfl, rfl, rfl, trivial⟩, rfl⟩
  refine seqF (B := fun L' w' => sub L' [(3, .pointer (some ⟨b1, 0, none⟩)), (4, .pointer (some ⟨b2, 0, none⟩)), (5, .pointer (some ⟨b3, 0, none⟩)), (6, .pointer (some ⟨b4, 0, none⟩)), (7, .pointer (some ⟨b5, 0, none⟩))] ∧ Sep No w [box b1 (.cells [.pointer (some ⟨zb, 0, none⟩)].toArray 82), box b2 (.cells [.int .i64 g].toArray 2), box b3 (.cells [.int .i64 row].toArray 2), box b4 (.cells [.int .i64 0, .int .i64 0, .string ⟨#[]⟩, .int .i64 0, .int .i64 0, .int .i64 0, .slice none 0 0, .slice none 0 0, .slice none 0 0].toArray 68), box b5 (.cells [.bool false].toArray 4), mine [.slice sa vs.length sk] vs fp, box b6 (.cells [.slice sa vs.length sk].toArray 30), box b7 (.cells [.slice sa vs.length sk].toArray 30), box w3.heap.size (.deferred (some [])), box (w3.heap.size + 1) o] [box zb (.cells [.int .i64 z.Shape.Groups, .int .i64 z.Shape.Column, .int .i64 z.Shape.Data, .int .i64 z.Shape.Spare, .int .i64 z.Shape.Rows, .int .i64 z.Shape.Cap, .int .i64 z.Shape.Batch, .int .i64 z.Shape.Queue, .int .i64 z.Shape.Stage, .slice zA9 z.Groups.length zC9, .slice zA10 z.On.length zC10, .slice zA11 z.Tapes.length zC11, .int .i64 z.Writes, .int .i64 z.Stop, .bool z.Down].toArray 38), seen false [.slice zA9 z.Groups.length zC9] z.Groups zF9, seen false [.slice zA10 z.On.length zC10] z.On zF10, seen false [.slice zA11 z.Tapes.length zC11] z.Tapes zF11] w') ha5 ?_ (fun a6 L6 w6 ha6 hB => ?_)
  ·refine WF_reg (f_val (wn rfl) rfl rfl (py_buildS Tryz_pl68 rfl rfl) (f_stoS (wn rfl) ts68 rfl rfl rfl rfl HK 3 rfl rfl (fun w7 _ H7 => ?_)))
   dsimp only [lNA, lCA, lSZ, lSS, layL] at H7
   refine f_sto (wn rfl) ts4 rfl rfl rfl H7 4 rfl rfl (fun w8 _ H8 => ?_)
   try dsimp only [lNA, lCA, lSZ, lSS] at H8
   exact f_nil ⟨rfl, ⟨rfl, rfl, rfl, rfl, rfl, trivial⟩, H8⟩
  obtain ⟨hs6, H6⟩ := hB
  refine wpIn_ret ?_
  have HF := H6.put 8 (.deferred none) rfl
  try dsimp only [lNA, lCA, lSZ, lSS] at HF
  refine ⟨.inr rfl, w3.heap.size, [(3, .pointer (some ⟨b1, 0, none⟩)), (4, .pointer (some ⟨b2, 0, none⟩)), (5, .pointer (some ⟨b3, 0, none⟩)), (6, .pointer (some ⟨b4, 0, none⟩)), (7, .pointer (some ⟨b5, 0, none⟩))], ha6.weak hs6, H6.box 8 rfl, finCC Tryz.results73 rfl (run_loadVarS tu68 rfl ts68 rfl (At.whole (HF.box 3 rfl))) rfl (run_loadVar1 tu4 rfl (cell_atL (HF.box 4 rfl) rfl)) ?_⟩
  have hq : shLast z g row = -1 := lastI_none fun j hj => by rw [← map_getD hM (by omega)]; exact hn j (by omega)
  refine ⟨HF.ext, none, 0, none, 0, none, 0, ?_, ?_⟩
  ·rw [opR_no hq, opOK_no hq]; rfl
  ·rw [opR_no hq]; exact inF_zero
 ·obtain ⟨o, i, HK, hi, h4, h5⟩ := hK
  have HF := HK.put 8 (.deferred none) rfl
  try dsimp only [lNA, lCA, lSZ, lSS] at HF
  refine ⟨.inr rfl, w3.heap.size, [(3, .pointer (some ⟨b1, 0, none⟩)), (4, .pointer (some ⟨b2, 0, none⟩)), (5, .pointer (some ⟨b3, 0, none⟩)), (6, .pointer (some ⟨b4, 0, none⟩)), (7, .pointer (some ⟨b5, 0, none⟩))], ⟨by have := ha3.1; exact this.weak ⟨rfl, rfl, rfl, rfl, rfl, trivial⟩, rfl⟩, HK.box 8 rfl, finCC Tryz.results73 rfl (run_loadVarS tu68 rfl ts68 rfl (At.whole (HF.box 3 rfl))) rfl (run_loadVar1 tu4 rfl (cell_atL (HF.box 4 rfl) rfl)) ?_⟩
  have hq : shLast z g row = (i : Nat) := lastI_at (by omega) (by rw [← map_getD hM hi]; exact h4) fun j h1 h2 => by rw [← map_getD hM (by omega)]; exact h5 j h1 (by omega)
  have hr : (vs.getD i default).r = opR z g row := by rw [opR_at hq]; exact map_getD hM hi
  refine ⟨HF.ext, (vs.getD i default).A6, (vs.getD i default).C6, (vs.getD i default).A7, (vs.getD i default).C7, (vs.getD i default).A8, (vs.getD i default).C8, ?_, ?_⟩
  ·rw [opOK_at (by omega), ← hr, map_getD hM hi]; rfl
  ·exact ((hR.inAt hi).val hr).to HF.ext
end Go.Wk
namespace Go.Wk
open Go.Proofs Rp
set_option maxRecDepth 10000
set_option maxHeartbeats 1000000 in
theorem Tryz_spec_RecFault {w : World} {s : Shape} {r : Rec} {rA6 rA7 rA8 : Option Addr} {rC6 rC7 rC8 : Nat} (rK : r.Ok) (rS6 : Sees w [.slice rA6 r.Rows.length rC6] r.Rows) (rS7 : Sees w [.slice rA7 r.Data.length rC7] r.Data) (rS8 : Sees w [.slice rA8 r.Delta.length rC8] r.Delta) : Ret Tryz.prog 112 #[s.v, r.val rA6 rC6 rA7 rC7 rA8 rC8] w fun v w' => Ext No w w' ∧ (v = .int .i64 (if s.fault ≠ 0 then s.fault else recF s r)) := by
 have rK2 := rK
 unfold Rec.Ok at rK2
 try unfold I64ok at rK2
 try unfold maxLen at rK2
 have rN2 : r.Name.size ≤ maxLen := by unfold maxLen; omega
 have rL6 := sL rS6
 obtain ⟨rF6, rO6⟩ := rS6
 have rL7 := sL rS7
 obtain ⟨rF7, rO7⟩ := rS7
 have rL8 := sL rS8
 obtain ⟨rF8, rO8⟩ := rS8
 refine ret_Q (vs := [s.v, r.val rA6 rC6 rA7 rC7 rA8 rC8]) Tryz.func112 rfl Tryz.ntmps112 rfl (fun Q hQ hN => ?_)
 have H0 := Sep.start (w := w) (F := [seen false [.slice rA6 r.Rows.length rC6] r.Rows rF6, seen false [.slice rA7 r.Data.length rC7] r.Data rF7, seen false [.slice rA8 r.Delta.length rC8] r.Delta rF8]) (all_cons rO6 (all_cons rO7 (all_cons rO8 (by simp))))
 refine W_sr (s_box (wn rfl) rfl rfl H0 (fun b1 w1 e1 g1 H1 => ?_))
 refine s_box (wn rfl) rfl rfl H1 (fun b2 w2 e2 g2 H2 => ?_)
 refine sA rfl rfl (s_nil (W_seq (W_sr (sV rfl (py_loadS tu34 rfl ts34 rfl rfl (At.whole (H2.box 0 rfl))) (s_call (wn rfl) rfl rfl (pc_call Tryz.func159 rfl Tryz_nm159 rfl) Tryz_spec_ShapeFault (fun v1 w3 r1 => ?_))))))
 obtain ⟨e3, rfl⟩ := r1
 have H3 := H2.to e3
 refine sA rfl rfl (s_nil (W_sr (sM rfl rfl (sV rfl (py_neq rfl rfl) (s_nil (W_ifd rfl (fun c1 => ?_) (fun c1 => ?_)))))))
 ·refine W_sr (sM rfl rfl (sA rfl rfl (s_nil (rT hQ Tryz.results112 rfl ?_))))
  exact ⟨H3.ext, congrArg (Value.int .i64) (if_pos (by omega)).symm⟩
 ·refine W_skip (W_seq (W_seq ?_))
  have hs := shapeFault_ok (s := s) (by omega)
  have sbd := shape_bd hs
  refine W_reg (sV rfl (py_field tu68 rfl ts2 rfl rfl) (sV rfl (py_load tu2 rfl rfl (cell_atL (H3.box 1 rfl) rfl)) (s_call (wn rfl) rfl rfl (pc_call Tryz.func97 rfl Tryz_nm97 rfl) Tryz_spec_l1In (fun v2 w4 r2 => ?_))))
  obtain ⟨e4, rfl⟩ := r2
  have H4 := H3.to e4
  refine sV rfl (py_not rfl) (s_nil (W_if rfl (fun c2 => ?_) (fun c2 => ?_)))
  ·refine W_sr (sA rfl rfl (s_nil (rT hQ Tryz.results112 rfl ?_)))
   exact ⟨H4.ext, congrArg (Value.int .i64) ((if_neg (by omega)).trans (recF_kind (not_true c2))).symm⟩
  ·refine W_skip (W_seq (W_sr (sV rfl (py_field tu68 rfl ts2 rfl rfl) (sV rfl (py_load tu2 rfl rfl (cell_atL (H4.box 1 rfl) rfl)) (s_call (wn rfl) rfl rfl (pc_call Tryz.func97 rfl Tryz_nm97 rfl) Tryz_spec_l1In (fun v3 w5 r3 => ?_))))))
   obtain ⟨e5, rfl⟩ := r3
   have H5 := H4.to e5
   refine sV rfl (py_not rfl) (s_nil (W_if rfl (fun c3 => ?_) (fun c3 => ?_)))
   ·refine W_sr (sA rfl rfl (s_nil (rT hQ Tryz.results112 rfl ?_)))
    exact ⟨H5.ext, congrArg (Value.int .i64) ((if_neg (by omega)).trans (recF_seq (not_false c2) (not_true c3))).symm⟩
   ·refine W_skip (W_sr (sV rfl (py_loadS tu68 rfl ts68 rfl rfl (At.whole (H5.box 1 rfl))) (s_var (wn rfl) rfl Tryz.zeroValue68 H5 (fun b3 w6 e6 g3 H6 => ?_))))
    refine s_stoS (wn rfl) ts68 rfl rfl rfl rfl H6 2 rfl rfl (fun w7 e7 H7 => ?_)
    dsimp only [lNA, lCA, lSZ, lSS, layL] at H7
    refine s_nil (W_seq (W_sr (sV rfl (py_field tu68 rfl ts2 rfl rfl) (sV rfl (py_load tu2 rfl rfl (cell_atL (H7.box 1 rfl) rfl)) (s_nil (W_block (W_seq ?_)))))))
    have hk1 := ins_iff.1 (not_false c2)
    refine W_reg (sV rfl (py_eql rfl rfl) (sA rfl rfl (s_nil (W_ifd rfl (fun c4 => ?_) (fun c4 => ?_)))))
    ·refine W_seq (W_sr (sV rfl (py_field tu68 rfl ts9 rfl rfl) (sV rfl (py_load tu9 rfl rfl (cell_atL (H7.box 1 rfl) rfl)) (s_call (wn rfl) rfl rfl (pc_call Tryz.func187 rfl Tryz_nm187 rfl) (Tryz_spec_NameFault (by assumption)) (fun v4 w8 r4 => ?_)))))
     obtain ⟨e8, rfl⟩ := r4
     have H8 := H7.to e8
     refine sA rfl rfl (s_nil (W_sr (sM rfl rfl (sV rfl (py_neq rfl rfl) (s_nil (W_ifd rfl (fun c5 => ?_) (fun c5 => ?_)))))))
     ·refine W_sr (sM rfl rfl (sA rfl rfl (s_nil (rT hQ Tryz.results112 rfl ?_))))
      have kq := (kindF_item (s := s) (by omega)).trans (itemF_name (by omega))
      have kF := recF_bad (s := s) (not_false c2) (not_false c3) (by omega)
      exact ⟨H8.ext, congrArg (Value.int .i64) ((if_neg (by omega)).trans (kF.trans kq)).symm⟩
     ·refine W_skip (W_seq (W_sr (sV rfl (py_loadS tu34 rfl ts34 rfl rfl (At.whole (H8.box 0 rfl))) (sV rfl (py_loadS tu68 rfl ts68 rfl rfl (At.whole (H8.box 1 rfl))) (s_call (wn rfl) rfl rfl (pc_call Tryz.func188 rfl Tryz_nm188 rfl) (Tryz_spec_l5Item (by assumption) (H8.sees 0 rfl) (H8.sees 1 rfl) (H8.sees 2 rfl) (by assumption)) (fun v5 w9 r5 => ?_))))))
      obtain ⟨e9, rfl⟩ := r5
      have H9 := H8.to e9
      refine sV rfl (py_not rfl) (s_nil (W_if rfl (fun c6 => ?_) (fun c6 => ?_)))
      ·refine W_sr (sA rfl rfl (s_nil (rT hQ Tryz.results112 rfl ?_)))
       have kq := (kindF_item (s := s) (by omega)).trans (itemF_bad (by omega) (not_true c6))
       have kF := recF_bad (s := s) (not_false c2) (not_false c3) (by omega)
       exact ⟨H9.ext, congrArg (Value.int .i64) ((if_neg (by omega)).trans (kF.trans kq)).symm⟩
      ·refine W_skip (W_sr (sV rfl (py_field tu68 rfl ts9 rfl rfl) (s_sto (wn rfl) ts9 rfl rfl rfl H9 2 rfl rfl (fun w10 e10 H10 => ?_))))
       dsimp only [lNA, lCA, lSZ, lSS, layL] at H10
       refine s_nil (W_sr (sV rfl (py_field tu68 rfl ts2 rfl rfl) (s_sto (wn rfl) ts2 rfl rfl rfl H10 2 rfl rfl (fun w11 e11 H11 => ?_))))
       dsimp only [lNA, lCA, lSZ, lSS, layL] at H11
       refine s_nil (W_sr (sV rfl (py_field tu68 rfl ts25 rfl rfl) (s_sto (wn rfl) ts25 rfl rfl rfl H11 2 rfl rfl (fun w12 e12 H12 => ?_))))
       dsimp only [lNA, lCA, lSZ, lSS, layL] at H12
       refine s_nil (W_reg (sV rfl (py_field tu68 rfl ts45 rfl rfl) (s_sto (wn rfl) ts45 rfl rfl rfl H12 2 rfl rfl (fun w13 e13 H13 => ?_))))
       dsimp only [lNA, lCA, lSZ, lSS, layL] at H13
       refine s_nil (W_seq (W_sr (sV rfl (py_loadS tu68 rfl ts68 rfl rfl (At.whole (H13.box 2 rfl))) (s_call (wn rfl) rfl rfl (pc_call Tryz.func192 rfl Tryz_nm192 rfl) (Tryz_spec_l5Empty (r := ⟨r.Kind, r.Seq, ⟨#[]⟩, 0, r.Group, r.Row, [], [], r.Delta⟩) (rest_ok1 rK) ⟨[], .inr (.inl ⟨rfl, rfl, rfl⟩)⟩ ⟨[], .inr (.inl ⟨rfl, rfl, rfl⟩)⟩ (H13.sees 2 rfl)) (fun v6 w14 r6 => ?_)))))
       obtain ⟨e14, rfl⟩ := r6
       have H14 := H13.to e14
       refine sV rfl (py_not rfl) (s_nil (W_if rfl (fun c7 => ?_) (fun c7 => ?_)))
       ·refine W_sr (sA rfl rfl (s_nil (rT hQ Tryz.results112 rfl ?_)))
        have kq := (kindF_item (s := s) (by omega)).trans (itemF_ok (by omega) (not_false c6))
        exact ⟨H14.ext, congrArg (Value.int .i64) ((if_neg (by omega)).trans (recF_form (not_false c2) (not_false c3) kq (by rw [← rest_bare1 (by omega)]; exact not_true c7))).symm⟩
       ·refine W_skip (W_sr (sA rfl rfl (s_nil (rT hQ Tryz.results112 rfl ?_))))
        have kq := (kindF_item (s := s) (by omega)).trans (itemF_ok (by omega) (not_false c6))
        exact ⟨H14.ext, congrArg (Value.int .i64) ((if_neg (by omega)).trans (recF_ok (not_false c2) (not_false c3) kq (by rw [← rest_bare1 (by omega)]; exact not_false c7))).symm⟩
    ·refine W_sr (sV rfl (py_eql rfl rfl) (sA rfl rfl (s_nil (W_ifd rfl (fun c8 => ?_) (fun c8 => ?_)))))
     ·refine W_seq (W_seq (W_drw (S := Ext No _) [(0, true), (1, true), (2, true), (3, true), (4, true), (5, false), (6, true), (7, true), (8, true), (9, true), (10, true), (11, true), (12, true), (13, false), (14, true), (15, true), (16, true), (17, true), (18, true), (19, true), (20, true), (21, false), (22, true), (23, true), (24, true), (25, true), (26, true), (27, true), (28, true), (29, false), (30, true), (31, false)] (by kernel_rfl) (by kernel_rfl) (by kernel_rfl) rfl (fun _ => Ext.refl.drawn _) (fun q1 => ?_)))
      have H15 := H7.drawn q1
      refine dV rfl rfl (fun zw hx => py_field tu68 rfl ts2 rfl rfl) (dV rfl rfl (fun zw hx => py_load tu2 rfl rfl (cell_atL (hx.heap (H15.box 1 rfl)) rfl)) (dV rfl rfl (fun zw hx => py_field tu34 rfl ts2 rfl rfl) (dV rfl rfl (fun zw hx => py_load tu2 rfl rfl (cell_atL (hx.heap (H15.box 0 rfl)) rfl)) (dV rfl rfl (fun zw hx => py_sub rfl rfl (in64 ⟨by omega, by omega⟩)) (d_call rfl (wn rfl) rfl rfl (pc_call Tryz.func97 rfl Tryz_nm97 rfl) Tryz_spec_l1In (fun hS _ _ r _ => hS.trans r.1.no) (fun v7 w15 r7 => ?_))))))
      obtain ⟨e15, rfl⟩ := r7
      have H16 := H15.to e15
      refine dV rfl rfl (fun zw hx => py_not rfl) (dM rfl rfl rfl (d_case (t := 49) rfl (fun hg1 => ?_) (fun hg1 => ?_)))
      ·try simp only [decide_eq_true_eq, decide_eq_false_iff_not] at hg1
       refine dKt rfl rfl rfl rfl (dKt rfl rfl rfl rfl (dKt rfl rfl rfl rfl (dKt rfl rfl rfl rfl (dKt rfl rfl rfl rfl (d_skipA rfl (wog (b := true) rfl rfl rfl) rfl rfl (dKt rfl rfl rfl rfl (dV rfl rfl (fun zw hx => py_pickT rfl rfl) (dM rfl rfl rfl (dKt rfl rfl rfl rfl (dKt rfl rfl rfl rfl (dKt rfl rfl rfl rfl (dKt rfl rfl rfl rfl (d_skipA rfl (wog (b := true) rfl rfl rfl) rfl rfl (dKt rfl rfl rfl rfl (dV rfl rfl (fun zw hx => py_pickT rfl rfl) (dM rfl rfl rfl (dKt rfl rfl rfl rfl (dKt rfl rfl rfl rfl (dKt rfl rfl rfl rfl (dKt rfl rfl rfl rfl (d_skipA rfl (wog (b := true) rfl rfl rfl) rfl rfl (dKt rfl rfl rfl rfl (d_end rfl (wn rfl) rfl rfl (py_pickT rfl rfl) (d_nil (W_ift rfl (W_sr (sA rfl rfl (s_nil (rT hQ Tryz.results112 rfl ?_)))))))))))))))))))))))))))))
       have kq := kindF_move_no (s := s) (by omega) (by simp_all [moveOK])
       have kF := recF_bad (s := s) (not_false c2) (not_false c3) (by omega)
       exact ⟨H16.ext, congrArg (Value.int .i64) ((if_neg (by omega)).trans (kF.trans kq)).symm⟩
      ·try simp only [decide_eq_true_eq, decide_eq_false_iff_not] at hg1
       refine d_val rfl (wg rfl rfl rfl) rfl rfl (fun zw hx => py_field tu68 rfl ts2 rfl rfl) (d_val rfl (wg rfl rfl rfl) rfl rfl (fun zw hx => py_load tu2 rfl rfl (cell_atL (hx.heap (H15.box 1 rfl)) rfl)) (d_val rfl (wg rfl rfl rfl) rfl rfl (fun zw hx => py_field tu34 rfl ts2 rfl rfl) (d_val rfl (wg rfl rfl rfl) rfl rfl (fun zw hx => py_load tu2 rfl rfl (cell_atL (hx.heap (H15.box 0 rfl)) rfl)) (d_val rfl (wg rfl rfl rfl) rfl rfl (fun zw hx => py_sub rfl rfl (in64 ⟨by omega, by omega⟩)) (d_call rfl (wg rfl rfl rfl) rfl rfl (pc_call Tryz.func97 rfl Tryz_nm97 rfl) Tryz_spec_l1In (fun hS _ _ r _ => hS.trans r.1.no) (fun v8 w16 r8 => ?_))))))
       obtain ⟨e16, rfl⟩ := r8
       have H17 := H16.to e16
       refine d_val rfl (wg rfl rfl rfl) rfl rfl (fun zw hx => py_not rfl) (dV rfl rfl (fun zw hx => py_pickF rfl rfl) (dM rfl rfl rfl (d_case (t := 58) rfl (fun hg2 => ?_) (fun hg2 => ?_))))
       ·try simp only [decide_eq_true_eq, decide_eq_false_iff_not] at hg2
        refine dKt rfl rfl rfl rfl (dKt rfl rfl rfl rfl (dKt rfl rfl rfl rfl (dKt rfl rfl rfl rfl (d_skipA rfl (wog (b := true) rfl rfl rfl) rfl rfl (dKt rfl rfl rfl rfl (dV rfl rfl (fun zw hx => py_pickT rfl rfl) (dM rfl rfl rfl (dKt rfl rfl rfl rfl (dKt rfl rfl rfl rfl (dKt rfl rfl rfl rfl (dKt rfl rfl rfl rfl (d_skipA rfl (wog (b := true) rfl rfl rfl) rfl rfl (dKt rfl rfl rfl rfl (d_end rfl (wn rfl) rfl rfl (py_pickT rfl rfl) (d_nil (W_ift rfl (W_sr (sA rfl rfl (s_nil (rT hQ Tryz.results112 rfl ?_))))))))))))))))))))
        have kq := kindF_move_no (s := s) (by omega) (by simp_all [moveOK])
        have kF := recF_bad (s := s) (not_false c2) (not_false c3) (by omega)
        exact ⟨H17.ext, congrArg (Value.int .i64) ((if_neg (by omega)).trans (kF.trans kq)).symm⟩
       ·try simp only [decide_eq_true_eq, decide_eq_false_iff_not] at hg2
        refine d_val rfl (wg rfl rfl rfl) rfl rfl (fun zw hx => py_field tu68 rfl ts45 rfl rfl) (d_val rfl (wg rfl rfl rfl) rfl rfl (fun zw hx => py_load tu45 rfl rfl (cell_atL (hx.heap (H15.box 1 rfl)) rfl)) (d_val rfl (wg rfl rfl rfl) rfl rfl (fun zw hx => py_len tu45 rfl) (d_val rfl (wg rfl rfl rfl) rfl rfl (fun zw hx => py_loadS tu34 rfl ts34 rfl rfl (At.whole (hx.heap (H15.box 0 rfl)))) (d_call rfl (wg rfl rfl rfl) rfl rfl (pc_call Tryz.func189 rfl Tryz_nm189 rfl) (Tryz_spec_l4Wide (by assumption)) (fun hS _ _ r _ => hS.trans r.1.no) (fun v9 w17 r9 => ?_)))))
        obtain ⟨e17, rfl⟩ := r9
        have H18 := H17.to e17
        refine d_val rfl (wg rfl rfl rfl) rfl rfl (fun zw hx => py_neq rfl rfl) (dV rfl rfl (fun zw hx => py_pickF rfl rfl) (dM rfl rfl rfl (d_case (t := 66) rfl (fun hg3 => ?_) (fun hg3 => ?_))))
        ·try simp only [decide_eq_true_eq, decide_eq_false_iff_not] at hg3
         refine dKt rfl rfl rfl rfl (dKt rfl rfl rfl rfl (dKt rfl rfl rfl rfl (dKt rfl rfl rfl rfl (d_skipA rfl (wog (b := true) rfl rfl rfl) rfl rfl (dKt rfl rfl rfl rfl (d_end rfl (wn rfl) rfl rfl (py_pickT rfl rfl) (d_nil (W_ift rfl (W_sr (sA rfl rfl (s_nil (rT hQ Tryz.results112 rfl ?_))))))))))))
         have kq := kindF_move_no (s := s) (by omega) (by simp_all [moveOK])
         have kF := recF_bad (s := s) (not_false c2) (not_false c3) (by omega)
         exact ⟨H18.ext, congrArg (Value.int .i64) ((if_neg (by omega)).trans (kF.trans kq)).symm⟩
        ·try simp only [decide_eq_true_eq, decide_eq_false_iff_not] at hg3
         refine d_val rfl (wg rfl rfl rfl) rfl rfl (fun zw hx => py_field tu68 rfl ts45 rfl rfl) (d_val rfl (wg rfl rfl rfl) rfl rfl (fun zw hx => py_load tu45 rfl rfl (cell_atL (hx.heap (H15.box 1 rfl)) rfl)) (d_val rfl (wg rfl rfl rfl) rfl rfl (fun zw hx => py_len tu45 rfl) (d_val rfl (wg rfl rfl rfl) rfl rfl (fun zw hx => py_loadS tu34 rfl ts34 rfl rfl (At.whole (hx.heap (H15.box 0 rfl)))) (d_call rfl (wg rfl rfl rfl) rfl rfl (pc_call Tryz.func189 rfl Tryz_nm189 rfl) (Tryz_spec_l4Wide (by assumption)) (fun hS _ _ r _ => hS.trans r.1.no) (fun v10 w18 r10 => ?_)))))
         obtain ⟨e18, rfl⟩ := r10
         have H19 := H18.to e18
         refine d_val rfl (wg rfl rfl rfl) rfl rfl (fun zw hx => py_neq rfl rfl) (d_end rfl (wn rfl) rfl rfl (py_pickF rfl rfl) (d_nil (W_ifd rfl (fun c9 => ?_) (fun c9 => ?_))))
         ·refine W_sr (sA rfl rfl (s_nil (rT hQ Tryz.results112 rfl ?_)))
          have kq := kindF_move_no (s := s) (by omega) (by simp_all [moveOK])
          have kF := recF_bad (s := s) (not_false c2) (not_false c3) (by omega)
          exact ⟨H19.ext, congrArg (Value.int .i64) ((if_neg (by omega)).trans (kF.trans kq)).symm⟩
         ·refine W_skip (W_sr (sV rfl (py_field tu68 rfl ts2 rfl rfl) (s_sto (wn rfl) ts2 rfl rfl rfl H19 2 rfl rfl (fun w19 e19 H20 => ?_))))
          dsimp only [lNA, lCA, lSZ, lSS, layL] at H20
          refine s_nil (W_sr (sV rfl (py_field tu68 rfl ts2 rfl rfl) (s_sto (wn rfl) ts2 rfl rfl rfl H20 2 rfl rfl (fun w20 e20 H21 => ?_))))
          dsimp only [lNA, lCA, lSZ, lSS, layL] at H21
          refine s_nil (W_sr (sV rfl (py_field tu68 rfl ts45 rfl rfl) (s_sto (wn rfl) ts45 rfl rfl rfl H21 2 rfl rfl (fun w21 e21 H22 => ?_))))
          dsimp only [lNA, lCA, lSZ, lSS, layL] at H22
          refine s_nil (W_reg (sV rfl (py_field tu68 rfl ts45 rfl rfl) (s_sto (wn rfl) ts45 rfl rfl rfl H22 2 rfl rfl (fun w22 e22 H23 => ?_))))
          dsimp only [lNA, lCA, lSZ, lSS, layL] at H23
          refine s_nil (W_seq (W_sr (sV rfl (py_loadS tu68 rfl ts68 rfl rfl (At.whole (H23.box 2 rfl))) (s_call (wn rfl) rfl rfl (pc_call Tryz.func192 rfl Tryz_nm192 rfl) (Tryz_spec_l5Empty (r := ⟨r.Kind, r.Seq, r.Name, r.Length, 0, 0, r.Rows, [], []⟩) (rest_ok2 rK) (H23.sees 0 rfl) ⟨[], .inr (.inl ⟨rfl, rfl, rfl⟩)⟩ ⟨[], .inr (.inl ⟨rfl, rfl, rfl⟩)⟩) (fun v11 w23 r11 => ?_)))))
          obtain ⟨e23, rfl⟩ := r11
          have H24 := H23.to e23
          refine sV rfl (py_not rfl) (s_nil (W_if rfl (fun c10 => ?_) (fun c10 => ?_)))
          ·refine W_sr (sA rfl rfl (s_nil (rT hQ Tryz.results112 rfl ?_)))
           have kq := kindF_move_ok (s := s) (by omega) (by simp_all [moveOK])
           exact ⟨H24.ext, congrArg (Value.int .i64) ((if_neg (by omega)).trans (recF_form (not_false c2) (not_false c3) kq (by rw [← rest_bare2 (by omega)]; exact not_true c10))).symm⟩
          ·refine W_skip (W_sr (sA rfl rfl (s_nil (rT hQ Tryz.results112 rfl ?_))))
           have kq := kindF_move_ok (s := s) (by omega) (by simp_all [moveOK])
           exact ⟨H24.ext, congrArg (Value.int .i64) ((if_neg (by omega)).trans (recF_ok (not_false c2) (not_false c3) kq (by rw [← rest_bare2 (by omega)]; exact not_false c10))).symm⟩
     ·refine W_sr (sV rfl (py_eql rfl rfl) (sA rfl rfl (s_nil (W_ifd rfl (fun c11 => ?_) (fun c11 => ?_)))))
      ·refine W_seq (W_seq (W_drw (S := Ext No _) [(0, true), (1, true), (2, true), (3, false), (4, true), (5, false), (6, false)] (by kernel_rfl) (by kernel_rfl) (by kernel_rfl) rfl (fun _ => Ext.refl.drawn _) (fun q2 => ?_)))
       have H25 := H7.drawn q2
       refine dV rfl rfl (fun zw hx => py_field tu68 rfl ts2 rfl rfl) (dV rfl rfl (fun zw hx => py_load tu2 rfl rfl (cell_atL (hx.heap (H25.box 1 rfl)) rfl)) (dV rfl rfl (fun zw hx => py_loadS tu34 rfl ts34 rfl rfl (At.whole (hx.heap (H25.box 0 rfl)))) (d_call rfl (wn rfl) rfl rfl (pc_call Tryz.func162 rfl Tryz_nm162 rfl) (Tryz_spec_l5All (by assumption)) (fun hS _ _ r _ => hS.trans r.1.no) (fun v12 w24 r12 => ?_))))
       obtain ⟨e24, rfl⟩ := r12
       have H26 := H25.to e24
       refine dV rfl rfl (fun zw hx => py_sub rfl rfl (in64 ⟨by omega, by omega⟩)) (d_call rfl (wn rfl) rfl rfl (pc_call Tryz.func97 rfl Tryz_nm97 rfl) Tryz_spec_l1In (fun hS _ _ r _ => hS.trans r.1.no) (fun v13 w25 r13 => ?_))
       obtain ⟨e25, rfl⟩ := r13
       have H27 := H26.to e25
       refine d_end rfl (wn rfl) rfl rfl (py_not rfl) (d_nil (W_if rfl (fun c12 => ?_) (fun c12 => ?_)))
       ·refine W_sr (sA rfl rfl (s_nil (rT hQ Tryz.results112 rfl ?_)))
        have kq := kindF_done_no (s := s) (by omega) (not_true c12)
        have kF := recF_bad (s := s) (not_false c2) (not_false c3) (by omega)
        exact ⟨H27.ext, congrArg (Value.int .i64) ((if_neg (by omega)).trans (kF.trans kq)).symm⟩
       ·refine W_skip (W_reg (sV rfl (py_field tu68 rfl ts2 rfl rfl) (s_sto (wn rfl) ts2 rfl rfl rfl H27 2 rfl rfl (fun w26 e26 H28 => ?_))))
        dsimp only [lNA, lCA, lSZ, lSS, layL] at H28
        refine s_nil (W_seq (W_sr (sV rfl (py_loadS tu68 rfl ts68 rfl rfl (At.whole (H28.box 2 rfl))) (s_call (wn rfl) rfl rfl (pc_call Tryz.func192 rfl Tryz_nm192 rfl) (Tryz_spec_l5Empty (r := ⟨r.Kind, r.Seq, r.Name, r.Length, 0, r.Row, r.Rows, r.Data, r.Delta⟩) (rest_ok3 rK) (H28.sees 0 rfl) (H28.sees 1 rfl) (H28.sees 2 rfl)) (fun v14 w27 r14 => ?_)))))
        obtain ⟨e27, rfl⟩ := r14
        have H29 := H28.to e27
        refine sV rfl (py_not rfl) (s_nil (W_if rfl (fun c13 => ?_) (fun c13 => ?_)))
        ·refine W_sr (sA rfl rfl (s_nil (rT hQ Tryz.results112 rfl ?_)))
         have kq := kindF_done_ok (s := s) (by omega) (not_false c12)
         exact ⟨H29.ext, congrArg (Value.int .i64) ((if_neg (by omega)).trans (recF_form (not_false c2) (not_false c3) kq (by rw [← rest_bare3 (by omega)]; exact not_true c13))).symm⟩
        ·refine W_skip (W_sr (sA rfl rfl (s_nil (rT hQ Tryz.results112 rfl ?_))))
         have kq := kindF_done_ok (s := s) (by omega) (not_false c12)
         exact ⟨H29.ext, congrArg (Value.int .i64) ((if_neg (by omega)).trans (recF_ok (not_false c2) (not_false c3) kq (by rw [← rest_bare3 (by omega)]; exact not_false c13))).symm⟩
      ·refine W_sr (sV rfl (py_eql rfl rfl) (sA rfl rfl (s_nil (W_ifd rfl (fun c14 => ?_) (fun c14 => ?_)))))
       ·refine W_seq (W_seq (W_drw (S := Ext No _) [(0, true), (1, true), (2, true), (3, false), (4, true), (5, false), (6, true), (7, true), (8, true), (9, true), (10, true), (11, true), (12, true), (13, false), (14, true), (15, true), (16, true), (17, true), (18, true), (19, true), (20, false), (21, true), (22, false), (23, true), (24, true), (25, true), (26, true), (27, true), (28, true), (29, true), (30, false), (31, true), (32, true), (33, true), (34, true), (35, true), (36, false), (37, true), (38, false)] (by kernel_rfl) (by kernel_rfl) (by kernel_rfl) rfl (fun _ => Ext.refl.drawn _) (fun q3 => ?_)))
        have H30 := H7.drawn q3
        refine dV rfl rfl (fun zw hx => py_field tu68 rfl ts2 rfl rfl) (dV rfl rfl (fun zw hx => py_load tu2 rfl rfl (cell_atL (hx.heap (H30.box 1 rfl)) rfl)) (dV rfl rfl (fun zw hx => py_loadS tu34 rfl ts34 rfl rfl (At.whole (hx.heap (H30.box 0 rfl)))) (d_call rfl (wn rfl) rfl rfl (pc_call Tryz.func162 rfl Tryz_nm162 rfl) (Tryz_spec_l5All (by assumption)) (fun hS _ _ r _ => hS.trans r.1.no) (fun v15 w28 r15 => ?_))))
        obtain ⟨e28, rfl⟩ := r15
        have H31 := H30.to e28
        refine dV rfl rfl (fun zw hx => py_sub rfl rfl (in64 ⟨by omega, by omega⟩)) (d_call rfl (wn rfl) rfl rfl (pc_call Tryz.func97 rfl Tryz_nm97 rfl) Tryz_spec_l1In (fun hS _ _ r _ => hS.trans r.1.no) (fun v16 w29 r16 => ?_))
        obtain ⟨e29, rfl⟩ := r16
        have H32 := H31.to e29
        refine dV rfl rfl (fun zw hx => py_not rfl) (dM rfl rfl rfl (d_case (t := 97) rfl (fun hg4 => ?_) (fun hg4 => ?_)))
        ·try simp only [decide_eq_true_eq, decide_eq_false_iff_not] at hg4
         refine dKt rfl rfl rfl rfl (dKt rfl rfl rfl rfl (dKt rfl rfl rfl rfl (dKt rfl rfl rfl rfl (dKt rfl rfl rfl rfl (d_skipA rfl (wog (b := true) rfl rfl rfl) rfl rfl (dKt rfl rfl rfl rfl (dV rfl rfl (fun zw hx => py_pickT rfl rfl) (dM rfl rfl rfl (dKt rfl rfl rfl rfl (dKt rfl rfl rfl rfl (dKt rfl rfl rfl rfl (d_skipA rfl (wog (b := true) rfl rfl rfl) rfl rfl (dKt rfl rfl rfl rfl (d_skipA rfl (wog (b := true) rfl rfl rfl) rfl rfl (dKt rfl rfl rfl rfl (dV rfl rfl (fun zw hx => py_pickT rfl rfl) (dM rfl rfl rfl (dKt rfl rfl rfl rfl (dKt rfl rfl rfl rfl (dKt rfl rfl rfl rfl (dKt rfl rfl rfl rfl (d_skipA rfl (wog (b := true) rfl rfl rfl) rfl rfl (dKt rfl rfl rfl rfl (dV rfl rfl (fun zw hx => py_pickT rfl rfl) (dM rfl rfl rfl (dKt rfl rfl rfl rfl (dKt rfl rfl rfl rfl (d_skipA rfl (wog (b := true) rfl rfl rfl) rfl rfl (dKt rfl rfl rfl rfl (d_end rfl (wn rfl) rfl rfl (py_pickT rfl rfl) (d_nil (W_ift rfl (W_sr (sA rfl rfl (s_nil (rT hQ Tryz.results112 rfl ?_))))))))))))))))))))))))))))))))))))
         have kq := (kindF_share (s := s) (by omega)).trans (if_neg (by simp_all [shareOK]))
         have kF := recF_bad (s := s) (not_false c2) (not_false c3) (by omega)
         exact ⟨H32.ext, congrArg (Value.int .i64) ((if_neg (by omega)).trans (kF.trans kq)).symm⟩
        ·try simp only [decide_eq_true_eq, decide_eq_false_iff_not] at hg4
         refine d_val rfl (wg rfl rfl rfl) rfl rfl (fun zw hx => py_field tu68 rfl ts2 rfl rfl) (d_val rfl (wg rfl rfl rfl) rfl rfl (fun zw hx => py_load tu2 rfl rfl (cell_atL (hx.heap (H30.box 1 rfl)) rfl)) (d_val rfl (wg rfl rfl rfl) rfl rfl (fun zw hx => py_field tu34 rfl ts2 rfl rfl) (d_val rfl (wg rfl rfl rfl) rfl rfl (fun zw hx => py_load tu2 rfl rfl (cell_atL (hx.heap (H30.box 0 rfl)) rfl)) (d_val rfl (wg rfl rfl rfl) rfl rfl (fun zw hx => py_sub rfl rfl (in64 ⟨by omega, by omega⟩)) (d_call rfl (wg rfl rfl rfl) rfl rfl (pc_call Tryz.func97 rfl Tryz_nm97 rfl) Tryz_spec_l1In (fun hS _ _ r _ => hS.trans r.1.no) (fun v17 w30 r17 => ?_))))))
         obtain ⟨e30, rfl⟩ := r17
         have H33 := H32.to e30
         refine d_val rfl (wg rfl rfl rfl) rfl rfl (fun zw hx => py_not rfl) (dV rfl rfl (fun zw hx => py_pickF rfl rfl) (dM rfl rfl rfl (d_case (t := 106) rfl (fun hg5 => ?_) (fun hg5 => ?_))))
         ·try simp only [decide_eq_true_eq, decide_eq_false_iff_not] at hg5
          refine dKt rfl rfl rfl rfl (dKt rfl rfl rfl rfl (dKt rfl rfl rfl rfl (d_skipA rfl (wog (b := true) rfl rfl rfl) rfl rfl (dKt rfl rfl rfl rfl (d_skipA rfl (wog (b := true) rfl rfl rfl) rfl rfl (dKt rfl rfl rfl rfl (dV rfl rfl (fun zw hx => py_pickT rfl rfl) (dM rfl rfl rfl (dKt rfl rfl rfl rfl (dKt rfl rfl rfl rfl (dKt rfl rfl rfl rfl (dKt rfl rfl rfl rfl (d_skipA rfl (wog (b := true) rfl rfl rfl) rfl rfl (dKt rfl rfl rfl rfl (dV rfl rfl (fun zw hx => py_pickT rfl rfl) (dM rfl rfl rfl (dKt rfl rfl rfl rfl (dKt rfl rfl rfl rfl (d_skipA rfl (wog (b := true) rfl rfl rfl) rfl rfl (dKt rfl rfl rfl rfl (d_end rfl (wn rfl) rfl rfl (py_pickT rfl rfl) (d_nil (W_ift rfl (W_sr (sA rfl rfl (s_nil (rT hQ Tryz.results112 rfl ?_)))))))))))))))))))))))))))
          have kq := (kindF_share (s := s) (by omega)).trans (if_neg (by simp_all [shareOK]))
          have kF := recF_bad (s := s) (not_false c2) (not_false c3) (by omega)
          exact ⟨H33.ext, congrArg (Value.int .i64) ((if_neg (by omega)).trans (kF.trans kq)).symm⟩
         ·try simp only [decide_eq_true_eq, decide_eq_false_iff_not] at hg5
          refine d_val rfl (wg rfl rfl rfl) rfl rfl (fun zw hx => py_field tu68 rfl ts25 rfl rfl) (d_val rfl (wg rfl rfl rfl) rfl rfl (fun zw hx => py_load tu25 rfl rfl (cell_atL (hx.heap (H30.box 1 rfl)) rfl)) (d_val rfl (wg rfl rfl rfl) rfl rfl (fun zw hx => py_loadS tu34 rfl ts34 rfl rfl (At.whole (hx.heap (H30.box 0 rfl)))) (d_call rfl (wg rfl rfl rfl) rfl rfl (pc_call Tryz.func162 rfl Tryz_nm162 rfl) (Tryz_spec_l5All (by assumption)) (fun hS _ _ r _ => hS.trans r.1.no) (fun v18 w31 r18 => ?_))))
          obtain ⟨e31, rfl⟩ := r18
          have H34 := H33.to e31
          refine d_val rfl (wg rfl rfl rfl) rfl rfl (fun zw hx => py_sub rfl rfl (in64 ⟨by omega, by omega⟩)) (d_call rfl (wg rfl rfl rfl) rfl rfl (pc_call Tryz.func190 rfl Tryz_nm190 rfl) (Tryz_spec_l2Rise (H34.sees 0 rfl) (by omega)) (fun hS _ _ r _ => hS.trans r.1.no) (fun v19 w32 r19 => ?_))
          obtain ⟨e32, rfl⟩ := r19
          have H35 := H34.to e32
          refine d_val rfl (wg rfl rfl rfl) rfl rfl (fun zw hx => py_not rfl) (dV rfl rfl (fun zw hx => py_pickF rfl rfl) (dM rfl rfl rfl (d_case (t := 115) rfl (fun hg6 => ?_) (fun hg6 => ?_))))
          ·try simp only [decide_eq_true_eq, decide_eq_false_iff_not] at hg6
           refine dKt rfl rfl rfl rfl (dKt rfl rfl rfl rfl (dKt rfl rfl rfl rfl (dKt rfl rfl rfl rfl (d_skipA rfl (wog (b := true) rfl rfl rfl) rfl rfl (dKt rfl rfl rfl rfl (dV rfl rfl (fun zw hx => py_pickT rfl rfl) (dM rfl rfl rfl (dKt rfl rfl rfl rfl (dKt rfl rfl rfl rfl (d_skipA rfl (wog (b := true) rfl rfl rfl) rfl rfl (dKt rfl rfl rfl rfl (d_end rfl (wn rfl) rfl rfl (py_pickT rfl rfl) (d_nil (W_ift rfl (W_sr (sA rfl rfl (s_nil (rT hQ Tryz.results112 rfl ?_))))))))))))))))))
           have kq := (kindF_share (s := s) (by omega)).trans (if_neg (by simp_all [shareOK]))
           have kF := recF_bad (s := s) (not_false c2) (not_false c3) (by omega)
           exact ⟨H35.ext, congrArg (Value.int .i64) ((if_neg (by omega)).trans (kF.trans kq)).symm⟩
          ·try simp only [decide_eq_true_eq, decide_eq_false_iff_not] at hg6
           refine d_val rfl (wg rfl rfl rfl) rfl rfl (fun zw hx => py_field tu68 rfl ts45 rfl rfl) (d_val rfl (wg rfl rfl rfl) rfl rfl (fun zw hx => py_load tu45 rfl rfl (cell_atL (hx.heap (H30.box 1 rfl)) rfl)) (d_val rfl (wg rfl rfl rfl) rfl rfl (fun zw hx => py_len tu45 rfl) (d_val rfl (wg rfl rfl rfl) rfl rfl (fun zw hx => py_loadS tu34 rfl ts34 rfl rfl (At.whole (hx.heap (H30.box 0 rfl)))) (d_call rfl (wg rfl rfl rfl) rfl rfl (pc_call Tryz.func189 rfl Tryz_nm189 rfl) (Tryz_spec_l4Wide (by assumption)) (fun hS _ _ r _ => hS.trans r.1.no) (fun v20 w33 r20 => ?_)))))
           obtain ⟨e33, rfl⟩ := r20
           have H36 := H35.to e33
           refine d_val rfl (wg rfl rfl rfl) rfl rfl (fun zw hx => py_neq rfl rfl) (dV rfl rfl (fun zw hx => py_pickF rfl rfl) (dM rfl rfl rfl (d_case (t := 123) rfl (fun hg7 => ?_) (fun hg7 => ?_))))
           ·try simp only [decide_eq_true_eq, decide_eq_false_iff_not] at hg7
            refine dKt rfl rfl rfl rfl (dKt rfl rfl rfl rfl (d_skipA rfl (wog (b := true) rfl rfl rfl) rfl rfl (dKt rfl rfl rfl rfl (d_end rfl (wn rfl) rfl rfl (py_pickT rfl rfl) (d_nil (W_ift rfl (W_sr (sA rfl rfl (s_nil (rT hQ Tryz.results112 rfl ?_))))))))))
            have kq := (kindF_share (s := s) (by omega)).trans (if_neg (by simp_all [shareOK]))
            have kF := recF_bad (s := s) (not_false c2) (not_false c3) (by omega)
            exact ⟨H36.ext, congrArg (Value.int .i64) ((if_neg (by omega)).trans (kF.trans kq)).symm⟩
           ·have hgr := ins_iff.1 (not_false hg4)
            have hrr : ∀ i, i < r.Rows.length → 0 ≤ r.Rows.getD i 0 ∧ r.Rows.getD i 0 < s.Groups + s.Column := fun i hi => by have := rises_get (not_false hg6) i hi; omega
            refine d_val rfl (wg rfl rfl rfl) rfl rfl (fun zw hx => py_loadS tu34 rfl ts34 rfl rfl (At.whole (hx.heap (H30.box 0 rfl)))) (d_val rfl (wg rfl rfl rfl) rfl rfl (fun zw hx => py_loadS tu68 rfl ts68 rfl rfl (At.whole (hx.heap (H30.box 1 rfl)))) (d_call rfl (wg rfl rfl rfl) rfl rfl (pc_call Tryz.func191 rfl Tryz_nm191 rfl) (Tryz_spec_l5Weights (by assumption) (H36.sees 0 rfl) (H36.sees 1 rfl) (H36.sees 2 rfl) (by assumption) (by omega) hrr) (fun hS _ _ r _ => hS.trans r.1.no) (fun v21 w34 r21 => ?_)))
            obtain ⟨e34, rfl⟩ := r21
            have H37 := H36.to e34
            refine d_val rfl (wg rfl rfl rfl) rfl rfl (fun zw hx => py_not rfl) (d_end rfl (wn rfl) rfl rfl (py_pickF rfl rfl) (d_nil (W_if rfl (fun c15 => ?_) (fun c15 => ?_))))
            ·refine W_sr (sA rfl rfl (s_nil (rT hQ Tryz.results112 rfl ?_)))
             have kq := (kindF_share (s := s) (by omega)).trans (if_neg (by simp_all [shareOK]))
             have kF := recF_bad (s := s) (not_false c2) (not_false c3) (by omega)
             exact ⟨H37.ext, congrArg (Value.int .i64) ((if_neg (by omega)).trans (kF.trans kq)).symm⟩
            ·refine W_skip (W_sr (sV rfl (py_field tu68 rfl ts45 rfl rfl) (s_sto (wn rfl) ts45 rfl rfl rfl H37 2 rfl rfl (fun w35 e35 H38 => ?_))))
             dsimp only [lNA, lCA, lSZ, lSS, layL] at H38
             refine s_nil (W_sr (sV rfl (py_field tu68 rfl ts2 rfl rfl) (s_sto (wn rfl) ts2 rfl rfl rfl H38 2 rfl rfl (fun w36 e36 H39 => ?_))))
             dsimp only [lNA, lCA, lSZ, lSS, layL] at H39
             refine s_nil (W_sr (sV rfl (py_field tu68 rfl ts2 rfl rfl) (s_sto (wn rfl) ts2 rfl rfl rfl H39 2 rfl rfl (fun w37 e37 H40 => ?_))))
             dsimp only [lNA, lCA, lSZ, lSS, layL] at H40
             refine s_nil (W_sr (sV rfl (py_field tu68 rfl ts25 rfl rfl) (s_sto (wn rfl) ts25 rfl rfl rfl H40 2 rfl rfl (fun w38 e38 H41 => ?_))))
             dsimp only [lNA, lCA, lSZ, lSS, layL] at H41
             refine s_nil (W_reg (sV rfl (py_field tu68 rfl ts45 rfl rfl) (s_sto (wn rfl) ts45 rfl rfl rfl H41 2 rfl rfl (fun w39 e39 H42 => ?_))))
             dsimp only [lNA, lCA, lSZ, lSS, layL] at H42
             refine s_nil (W_seq (W_sr (sV rfl (py_loadS tu68 rfl ts68 rfl rfl (At.whole (H42.box 2 rfl))) (s_call (wn rfl) rfl rfl (pc_call Tryz.func192 rfl Tryz_nm192 rfl) (Tryz_spec_l5Empty (r := ⟨r.Kind, r.Seq, r.Name, r.Length, 0, 0, [], [], []⟩) (rest_ok4 rK) ⟨[], .inr (.inl ⟨rfl, rfl, rfl⟩)⟩ ⟨[], .inr (.inl ⟨rfl, rfl, rfl⟩)⟩ ⟨[], .inr (.inl ⟨rfl, rfl, rfl⟩)⟩) (fun v22 w40 r22 => ?_)))))
             obtain ⟨e40, rfl⟩ := r22
             have H43 := H42.to e40
             refine sV rfl (py_not rfl) (s_nil (W_if rfl (fun c16 => ?_) (fun c16 => ?_)))
             ·refine W_sr (sA rfl rfl (s_nil (rT hQ Tryz.results112 rfl ?_)))
              have kq := (kindF_share (s := s) (by omega)).trans (if_pos (by simp_all [shareOK]))
              exact ⟨H43.ext, congrArg (Value.int .i64) ((if_neg (by omega)).trans (recF_form (not_false c2) (not_false c3) kq (by rw [← rest_bare4 (by omega)]; exact not_true c16))).symm⟩
             ·refine W_skip (W_sr (sA rfl rfl (s_nil (rT hQ Tryz.results112 rfl ?_))))
              have kq := (kindF_share (s := s) (by omega)).trans (if_pos (by simp_all [shareOK]))
              exact ⟨H43.ext, congrArg (Value.int .i64) ((if_neg (by omega)).trans (recF_ok (not_false c2) (not_false c3) kq (by rw [← rest_bare4 (by omega)]; exact not_false c16))).symm⟩
       ·exfalso; omega
theorem Tryz_impl_blockOK {w : World} {b : Block} {bA1 : Option Addr} {bC1 : Nat} (bK : b.Ok) (bS1 : Sees w [.slice bA1 b.Bytes.length bC1] b.Bytes) : Ret Tryz.prog 242 #[b.val bA1 bC1] w fun v w' => Ext No w w' ∧ (v = .bool (blockOK b)) := by
 have bK2 := bK
 unfold Block.Ok at bK2
 try unfold I64ok at bK2
 try unfold maxLen at bK2
 have bL1 := sL bS1
 obtain ⟨bF1, bO1⟩ := bS1
 refine ret_Q (vs := [b.val bA1 bC1]) Tryz.func242 rfl Tryz.ntmps242 rfl (fun Q hQ hN => ?_)
 have H0 := Sep.start (w := w) (F := [seen false [.slice bA1 b.Bytes.length bC1] b.Bytes bF1]) (all_cons bO1 (by simp))
 refine W_sr (s_box (wn rfl) rfl rfl H0 (fun b1 w1 e1 g1 H1 => ?_))
 refine sA rfl rfl (s_nil (W_sr (sV rfl (py_field tu182 rfl ts2 rfl rfl) (sV rfl (py_load tu2 rfl rfl (cell_atL (H1.box 0 rfl) rfl)) (s_call (wn rfl) rfl rfl (pc_call Tryz.func147 rfl Tryz_nm147 rfl) Tryz_impl_inside (fun v1 w2 r1 => ?_))))))
 obtain ⟨e2, rfl⟩ := r1
 have H2 := H1.to e2
 refine sM rfl rfl (s_grp 4 (j := 3) (want := true) (t := 10) rfl rfl rfl rfl (fun hg1 kk1 => s_val (wgE rfl rfl rfl hg1) rfl rfl (py_field tu182 rfl ts45 rfl rfl) (s_val (wgE rfl rfl rfl hg1) rfl rfl (py_load tu45 rfl rfl (cell_atL (H2.box 0 rfl) rfl)) (s_val (wgE rfl rfl rfl hg1) rfl rfl (py_len tu45 rfl) (s_val (wgE rfl rfl rfl hg1) rfl rfl (py_eql rfl rfl) (kk1 _ _ (kx rfl (kx rfl (kx rfl (kx rfl k0)))) rfl Ext.refl))))) (fun w3 e3 => ?_))
 have H3 := H2.to e3
 refine sV rfl (py_band rfl rfl) (sA rfl rfl (s_nil (rT hQ Tryz.results242 rfl ?_)))
 exact ⟨H3.ext, congrArg Value.bool (by simp only [blockOK]; congr 1; exact decide_eq_decide.2 (by omega))⟩
theorem Tryz_impl_groupsOK_1 {w : World} {b : Block} {bA1 : Option Addr} {bC1 : Nat} (bK : b.Ok) (bS1 : Sees w [.slice bA1 b.Bytes.length bC1] b.Bytes) : Ret Tryz.prog 241 #[b.val bA1 bC1] w fun v w' => Ext No w w' ∧ (v = .bool (!blockOK b)) := by
 have bK2 := bK
 unfold Block.Ok at bK2
 try unfold I64ok at bK2
 try unfold maxLen at bK2
 have bL1 := sL bS1
 obtain ⟨bF1, bO1⟩ := bS1
 refine ret_Q (vs := [b.val bA1 bC1]) Tryz.func241 rfl Tryz.ntmps241 rfl (fun Q hQ hN => ?_)
 have H0 := Sep.start (w := w) (F := [seen false [.slice bA1 b.Bytes.length bC1] b.Bytes bF1]) (all_cons bO1 (by simp))
 refine W_sr (s_box (wn rfl) rfl rfl H0 (fun b1 w1 e1 g1 H1 => ?_))
 refine sA rfl rfl (s_nil (W_sr (sV rfl (py_loadS tu182 rfl ts182 rfl rfl (At.whole (H1.box 0 rfl))) (s_call (wn rfl) rfl rfl (pc_call Tryz.func242 rfl Tryz_nm242 rfl) (Tryz_impl_blockOK (by assumption) (H1.sees 0 rfl)) (fun v1 w2 r1 => ?_)))))
 obtain ⟨e2, rfl⟩ := r1
 have H2 := H1.to e2
 refine sV rfl (py_not rfl) (sA rfl rfl (s_nil (rT hQ Tryz.results241 rfl ?_)))
 exact ⟨H2.ext, rfl⟩
set_option maxHeartbeats 1000000 in
theorem Tryz_impl_groupsOK {w : World} {z : Wld} {zA9 zA10 zA11 : Option Addr} {zC9 zC10 zC11 : Nat} (zK : z.Ok) (zS9 : Sees w [.slice zA9 z.Groups.length zC9] z.Groups) (zS10 : Sees w [.slice zA10 z.On.length zC10] z.On) (zS11 : Sees w [.slice zA11 z.Tapes.length zC11] z.Tapes) (hs : z.Shape.ok = true) : Ret Tryz.prog 144 #[z.val zA9 zC9 zA10 zC10 zA11 zC11] w fun v w' => Ext No w w' ∧ (v = .bool (groupsOK z)) := by
 have zK2 := zK
 unfold Wld.Ok Shape.Ok at zK2
 try unfold I64ok at zK2
 try unfold maxLen at zK2
 have zL9 := sL zS9
 obtain ⟨zF9, zO9⟩ := zS9
 have zL10 := sL zS10
 obtain ⟨zF10, zO10⟩ := zS10
 have zL11 := sL zS11
 obtain ⟨zF11, zO11⟩ := zS11
 have sbd := shape_bd hs
 refine ret_Q (vs := [z.val zA9 zC9 zA10 zC10 zA11 zC11]) Tryz.func144 rfl Tryz.ntmps144 rfl (fun Q hQ hN => ?_)
 have H0 := Sep.start (w := w) (F := [seen false [.slice zA9 z.Groups.length zC9] z.Groups zF9, seen false [.slice zA10 z.On.length zC10] z.On zF10, seen false [.slice zA11 z.Tapes.length zC11] z.Tapes zF11]) (all_cons zO9 (all_cons zO10 (all_cons zO11 (by simp))))
 refine W_sr (s_box (wn rfl) rfl rfl H0 (fun b1 w1 e1 g1 H1 => ?_))
 refine sA rfl rfl (s_nil (W_sr (sV rfl (py_field tu38 rfl ts34 rfl rfl) (sV rfl (py_loadS tu34 rfl ts34 rfl rfl (At.sub (H1.box 0 rfl) 9)) (s_var (wn rfl) rfl Tryz.zeroValue34 H1 (fun b2 w2 e2 g2 H2 => ?_))))))
 refine s_stoS (wn rfl) ts34 rfl rfl rfl rfl H2 1 rfl rfl (fun w3 e3 H3 => ?_)
 dsimp only [lNA, lCA, lSZ, lSS, layL] at H3
 refine s_nil (W_seq (W_seq (W_drw (S := Ext No _) [(0, true), (1, true), (3, true), (2, false), (4, false), (5, false)] (by kernel_rfl) (by kernel_rfl) (by kernel_rfl) rfl (fun _ => Ext.refl.drawn _) (fun q1 => ?_))))
 have H4 := H3.drawn q1
 refine dV rfl rfl (fun zw hx => py_field tu38 rfl ts35 rfl rfl) (dV rfl rfl (fun zw hx => py_load tu35 rfl rfl (cell_atL (hx.heap (H4.box 0 rfl)) rfl)) (dV rfl rfl (fun zw hx => py_loadS tu34 rfl ts34 rfl rfl (At.whole (hx.heap (H4.box 1 rfl)))) (d_call rfl (wn rfl) rfl rfl (pc_call Tryz.func237 rfl Tryz_nm237 rfl) (Tryz_size_ListDrive (H4.sees 0 rfl)) (fun hS _ _ r _ => hS.trans r.1.no) (fun v1 w4 r1 => ?_))))
 obtain ⟨e4, rfl⟩ := r1
 have H5 := H4.to e4
 refine d_call rfl (wn rfl) rfl rfl (pc_call Tryz.func100 rfl Tryz_nm100 rfl) (Tryz_impl_Shape_all (by assumption)) (fun hS _ _ r _ => hS.trans r.1.no) (fun v2 w5 r2 => ?_)
 obtain ⟨e5, rfl⟩ := r2
 have H6 := H5.to e5
 refine d_end rfl (wn rfl) rfl rfl (py_neq rfl rfl) (d_nil (W_ifd rfl (fun c1 => ?_) (fun c1 => ?_)))
 ·refine W_sr (sA rfl rfl (s_nil (rT hQ Tryz.results144 rfl ?_)))
  exact ⟨H6.ext, congrArg Value.bool (groupsOK_len (by omega)).symm⟩
 ·refine W_skip (W_seq (W_sr (sV rfl (py_field tu38 rfl ts35 rfl rfl) (sV rfl (py_load tu35 rfl rfl (cell_atL (H6.box 0 rfl) rfl)) (sV rfl (py_len tu35 rfl) (sM rfl rfl (s_nil (W_block (W_loopS (γ := Nat) H6 [(3, _), (17, _), (18, _)] ⟨rfl, rfl, rfl, trivial⟩ (fun k => [(19, .int .i64 k)]) (fun k => k ≤ z.Groups.length ∧ (∀ i, i < k → groupOK z.Shape (z.Groups.getD i []) = true)) (fun k => z.Groups.length - k) 0 ⟨rfl, trivial⟩ ⟨by omega, fun i hi => by omega⟩ (fun k w6 H7 ⟨hk, he⟩ => ?_))))))))))
  dsimp only [lCA, lNA]
  refine W_sr (sV rfl (py_lss rfl rfl) (s_nil (W_seq (W_ifd rfl (fun c2 => ?_) (fun c2 => ?_)))))
  ·refine W_skip (W_seq (W_block (W_seq ?_)))
   obtain ⟨eb1, eo1, ea1, ek1, ef1, ee1, ec1, eO1, eH1⟩ := elem_sl (H7.seen 0 rfl) k (by omega)
   have eP1 := H7.look1 0 rfl eO1 eH1
   refine W_reg (sV rfl (py_elz tu35 ts142 rfl rfl ee1 k (by omega) (by omega)) (sV rfl (py_load tu142 rfl rfl ec1) (sA rfl rfl (s_nil (W_seq (W_seq (W_drw (S := Ext No _) [(0, true), (2, true), (1, false), (3, false), (4, false)] (by kernel_rfl) (by kernel_rfl) (by kernel_rfl) rfl (fun _ => Ext.refl.drawn _) (fun q2 => ?_))))))))
   have H8 := eP1.drawn q2
   refine dM rfl rfl rfl (dV rfl rfl (fun zw hx => py_loadS tu34 rfl ts34 rfl rfl (At.whole (hx.heap (H8.box 1 rfl)))) (d_call rfl (wn rfl) rfl rfl (pc_call Tryz.func238 rfl Tryz_nm238 rfl) (Tryz_size_Drive (H8.sees 3 rfl)) (fun hS _ _ r _ => hS.trans r.1.no) (fun v3 w7 r3 => ?_)))
   obtain ⟨e6, rfl⟩ := r3
   have H9 := H8.to e6
   refine d_call rfl (wn rfl) rfl rfl (pc_call Tryz.func209 rfl Tryz_nm209 rfl) (Tryz_impl_Shape_drives (by assumption)) (fun hS _ _ r _ => hS.trans r.1.no) (fun v4 w8 r4 => ?_)
   obtain ⟨e7, rfl⟩ := r4
   have H10 := H9.to e7
   refine d_end rfl (wn rfl) rfl rfl (py_neq rfl rfl) (d_nil (W_ifd rfl (fun c3 => ?_) (fun c3 => ?_)))
   ·refine W_sr (sA rfl rfl (s_nil (rT hQ Tryz.results144 rfl ?_)))
    exact ⟨H10.ext, congrArg Value.bool (groupsOK_at k (by omega) (groupOK_len (by omega))).symm⟩
   ·refine W_skip (W_sr (sM rfl rfl (sV rfl (py_len tu142 rfl) (sM rfl rfl (s_nil (W_block (W_loopS (γ := Nat) H10 [(3, _), (17, _), (18, _), (19, _), (28, _), (29, _)] ⟨rfl, rfl, rfl, rfl, rfl, rfl, trivial⟩ (fun k2 => [(30, .int .i64 k2)]) (fun k2 => k2 ≤ (z.Groups.getD k []).length ∧ (∀ i, i < k2 → driveOK z.Shape ((z.Groups.getD k []).getD i default) = true)) (fun k2 => (z.Groups.getD k []).length - k2) 0 ⟨rfl, trivial⟩ ⟨by omega, fun i hi => by omega⟩ (fun k2 w9 H11 ⟨hk2, hek2⟩ => ?_))))))))
    dsimp only [lCA, lNA]
    refine W_sr (sV rfl (py_lss rfl rfl) (s_nil (W_seq (W_ifd rfl (fun c4 => ?_) (fun c4 => ?_)))))
    ·refine W_skip (W_seq (W_block (W_seq ?_)))
     obtain ⟨eb2, eo2, es1, ef2, ee2, ec2, eO2, eH2, em1⟩ := elem_st (H11.seen 3 rfl) k2 (by omega)
     obtain ⟨ea2, ek2, eg1, rfl, eq1, eK1, eo3⟩ := own_Drive eO2
     have eP2 := H11.look1 3 rfl eo3 (fun b hb => eH2 b (by rw [eq1]; simp [hb]))
     have eL1 := oL eo3
     refine W_reg (sV rfl (py_elz tu142 ts180 rfl rfl ee2 k2 (by omega) (by omega)) (sV rfl (py_loadS tu180 rfl ts180 rfl rfl ec2) (s_var (wn rfl) rfl Tryz.zeroValue180 eP2 (fun b3 w10 e8 g3 H12 => ?_))))
     refine s_stoS (wn rfl) ts180 rfl rfl rfl rfl H12 2 rfl rfl (fun w11 e9 H13 => ?_)
     dsimp only [lNA, lCA, lSZ, lSS, layL] at H13
     refine s_nil (W_seq (W_drw (S := Ext No _) [(0, true), (1, true), (3, true), (4, true), (2, false), (5, true), (6, true), (7, true), (8, true), (9, false), (10, false)] (by kernel_rfl) (by kernel_rfl) (by kernel_rfl) rfl (fun _ => Ext.refl.drawn _) (fun q3 => ?_)))
     have H14 := H13.drawn q3
     refine dV rfl rfl (fun zw hx => py_field tu180 rfl ts178 rfl rfl) (dV rfl rfl (fun zw hx => py_load tu178 rfl rfl (cell_atL (hx.heap (H14.box 2 rfl)) rfl)) (dV rfl rfl (fun zw hx => py_field tu34 rfl ts2 rfl rfl) (dV rfl rfl (fun zw hx => py_load tu2 rfl rfl (cell_atL (hx.heap (H14.box 1 rfl)) rfl)) (d_call rfl (wn rfl) rfl rfl (pc_call Tryz.func239 rfl Tryz_nm239 rfl) (Tryz_size_Block (H14.sees 4 rfl)) (fun hS _ _ r _ => hS.trans r.1.no) (fun v5 w12 r5 => ?_)))))
     obtain ⟨e10, rfl⟩ := r5
     have H15 := H14.to e10
     refine dV rfl rfl (fun zw hx => py_neq rfl rfl) (dM rfl rfl rfl (d_case (t := 40) rfl (fun hg1 => ?_) (fun hg1 => ?_)))
     ·try simp only [decide_eq_true_eq, decide_eq_false_iff_not] at hg1
      refine dKt rfl rfl rfl rfl (dKt rfl rfl rfl rfl (d_skipA rfl (wog (b := true) rfl rfl rfl) rfl rfl (d_end rfl (wn rfl) rfl rfl (py_pickT rfl rfl) (d_nil (W_ift rfl (W_sr (sA rfl rfl (s_nil (rT hQ Tryz.results144 rfl ?_)))))))))
      exact ⟨H15.ext, congrArg Value.bool (groupsOK_at k (by omega) (groupOK_at k2 (by omega) (driveOK_len (by omega)))).symm⟩
     ·try simp only [decide_eq_true_eq, decide_eq_false_iff_not] at hg1
      refine d_val rfl (wg rfl rfl rfl) rfl rfl (fun zw hx => py_field tu180 rfl ts178 rfl rfl) (d_val rfl (wg rfl rfl rfl) rfl rfl (fun zw hx => py_load tu178 rfl rfl (cell_atL (hx.heap (H14.box 2 rfl)) rfl)) (d_call rfl (wg rfl rfl rfl) rfl rfl (pc_call Tryz.func240 rfl Tryz_nm240 rfl) (Tryz_ContainsFunc_Block (H15.sees 4 rfl) (p := (fun b => !blockOK b)) Tryz.func241 rfl Tryz_nm241 (fun w1 e1 i0 hi0 _ _ K0 o0_1 => Tryz_impl_groupsOK_1 K0 o0_1)) (fun hS _ _ r _ => hS.trans r.1.no) (fun v6 w13 r6 => ?_)))
      obtain ⟨e11, rfl⟩ := r6
      have H16 := H15.to e11
      refine d_end rfl (wn rfl) rfl rfl (py_pickF rfl rfl) (d_nil (W_if rfl (fun c5 => ?_) (fun c5 => ?_)))
      ·refine W_sr (sA rfl rfl (s_nil (rT hQ Tryz.results144 rfl ?_)))
       exact ⟨H16.ext, congrArg Value.bool (groupsOK_at k (by omega) (groupOK_at k2 (by omega) (driveOK_bad c5))).symm⟩
      ·refine W_skip (W_reg (sV rfl (py_add rfl rfl (in64 ⟨by omega, by omega⟩)) (sM rfl rfl (s_nil (⟨k2 + 1, ⟨rfl, rfl, rfl, rfl, rfl, rfl, rfl, trivial⟩, ⟨((H16.ftake 4).dtake 2), by omega, fun i hi => ?_⟩, by dsimp only; omega⟩)))))
       by_cases e : i = k2
       ·subst e
        exact driveOK_yes (by omega) c5
       ·exact hek2 i (by omega)
    ·refine W_exit (W_reg (sV rfl (py_add rfl rfl (in64 ⟨by omega, by omega⟩)) (sM rfl rfl (s_nil (⟨k + 1, ⟨rfl, rfl, rfl, rfl, trivial⟩, ⟨(H11.ftake 3), by omega, fun i hi => ?_⟩, by dsimp only; omega⟩)))))
     by_cases e : i = k
     ·subst e
      exact groupOK_yes (by omega) (fun i hi => hek2 i (by omega))
     ·exact he i (by omega)
  ·refine W_exit (W_sr (sA rfl rfl (s_nil (rT hQ Tryz.results144 rfl ?_))))
   exact ⟨H7.ext, congrArg Value.bool (groupsOK_yes (by omega) (fun i hi => he i (by omega))).symm⟩
theorem Tryz_impl_onOK {w : World} {z : Wld} {zA9 zA10 zA11 : Option Addr} {zC9 zC10 zC11 : Nat} (zK : z.Ok) (zS9 : Sees w [.slice zA9 z.Groups.length zC9] z.Groups) (zS10 : Sees w [.slice zA10 z.On.length zC10] z.On) (zS11 : Sees w [.slice zA11 z.Tapes.length zC11] z.Tapes) (hs : z.Shape.ok = true) : Ret Tryz.prog 145 #[z.val zA9 zC9 zA10 zC10 zA11 zC11] w fun v w' => Ext No w w' ∧ (v = .bool (onOK z)) := by
 have zK2 := zK
 unfold Wld.Ok Shape.Ok at zK2
 try unfold I64ok at zK2
 try unfold maxLen at zK2
 have zL9 := sL zS9
 obtain ⟨zF9, zO9⟩ := zS9
 have zL10 := sL zS10
 obtain ⟨zF10, zO10⟩ := zS10
 have zL11 := sL zS11
 obtain ⟨zF11, zO11⟩ := zS11
 have sbd := shape_bd hs
 refine ret_Q (vs := [z.val zA9 zC9 zA10 zC10 zA11 zC11]) Tryz.func145 rfl Tryz.ntmps145 rfl (fun Q hQ hN => ?_)
 have H0 := Sep.start (w := w) (F := [seen false [.slice zA9 z.Groups.length zC9] z.Groups zF9, seen false [.slice zA10 z.On.length zC10] z.On zF10, seen false [.slice zA11 z.Tapes.length zC11] z.Tapes zF11]) (all_cons zO9 (all_cons zO10 (all_cons zO11 (by simp))))
 refine W_sr (s_box (wn rfl) rfl rfl H0 (fun b1 w1 e1 g1 H1 => ?_))
 refine sA rfl rfl (s_nil (W_seq (W_sr (sV rfl (py_field tu38 rfl ts25 rfl rfl) (sV rfl (py_load tu25 rfl rfl (cell_atL (H1.box 0 rfl) rfl)) (sV rfl (py_len tu25 rfl) (sM rfl rfl (s_nil (W_block (W_loopS (γ := Nat) H1 [(1, _), (6, _), (7, _)] ⟨rfl, rfl, rfl, trivial⟩ (fun k => [(8, .int .i64 k)]) (fun k => k ≤ z.On.length ∧ (∀ i, i < k → apartAt z.On (z.Shape.Groups + z.Shape.Column - 1) i = true)) (fun k => z.On.length - k) 0 ⟨rfl, trivial⟩ ⟨by omega, fun i hi => by omega⟩ (fun k w2 H2 ⟨hk, he⟩ => ?_)))))))))))
 dsimp only [lCA, lNA]
 refine W_sr (sV rfl (py_lss rfl rfl) (s_nil (W_seq (W_ifd rfl (fun c1 => ?_) (fun c1 => ?_)))))
 ·refine W_skip (W_seq (W_block (W_seq ?_)))
  obtain ⟨eb1, eo1, ee1, ec1⟩ := elem_int (H2.seen 1 rfl) k (by omega)
  have eI1 := elem_i64 (H2.seen 1 rfl) k (by omega)
  refine W_reg (sM rfl rfl (sV rfl (py_elz tu25 ts2 rfl rfl ee1 k (by omega) (by omega)) (sV rfl (py_load tu2 rfl rfl ec1) (sA rfl rfl (sA rfl rfl (s_nil (W_sr (sV rfl (py_field tu38 rfl ts34 rfl rfl) (sV rfl (py_loadS tu34 rfl ts34 rfl rfl (At.sub (H2.box 0 rfl) 9)) (sM rfl rfl (s_call (wn rfl) rfl rfl (pc_call Tryz.func71 rfl Tryz_nm71 rfl) (Tryz_impl_Shape_isGroup (by assumption)) (fun v1 w3 r1 => ?_))))))))))))
  obtain ⟨e2, rfl⟩ := r1
  have H3 := H2.to e2
  refine sV rfl (py_not rfl) (sM rfl rfl (s_case (t := 18) rfl (fun hg1 => ?_) (fun hg1 => ?_)))
  ·try simp only [decide_eq_true_eq, decide_eq_false_iff_not] at hg1
   refine sKt rfl rfl rfl (sKt rfl rfl rfl (sKt rfl rfl rfl (sKt rfl rfl rfl (sKt rfl rfl rfl (sKt rfl rfl rfl (sV rfl (py_pickT rfl rfl) (s_nil (W_ift rfl (W_sr (sA rfl rfl (s_nil (rT hQ Tryz.results145 rfl ?_))))))))))))
   exact ⟨H3.ext, congrArg Value.bool (onOK_apart (all_no k (by omega) (by simp only [apartAt, cut_take] at *; simp_all))).symm⟩
  ·try simp only [decide_eq_true_eq, decide_eq_false_iff_not] at hg1
   refine s_val (wg rfl rfl rfl) rfl rfl (py_field tu38 rfl ts25 rfl rfl) (s_val (wg rfl rfl rfl) rfl rfl (py_load tu25 rfl rfl (cell_atL (H3.box 0 rfl) rfl)) (s_val (wg rfl rfl rfl) rfl rfl (py_move rfl) ?_))
   have sc1 := own_le_cap (H3.seen 1 rfl)
   obtain ⟨sf1, so1, ss1⟩ := own_cutL (H3.seen 1 rfl) (0) (k) _ (by omega) (by omega) (by omega) (Nat.le_refl _)
   have H4 := H3.look1 1 rfl so1 ss1
   have sl1 := cut_len (xs := z.On) (l := 0) (h := k) (by omega)
   refine s_val (wg rfl rfl rfl) rfl rfl (py_slcHN tu25 ts2 rfl rfl (k) (by omega) (by omega) sl1) ((s_val (wg rfl rfl rfl) rfl rfl (py_move rfl) (s_call (wg rfl rfl rfl) rfl rfl (pc_call Tryz.func243 rfl Tryz_nm243 rfl) (Tryz_slices_Contains_int64_int64 (H4.sees 3 rfl)) (fun v2 w4 r2 => ?_))))
   obtain ⟨e3, rfl⟩ := r2
   have H5 := H4.to e3
   refine sV rfl (py_pickF rfl rfl) (s_nil (W_if rfl (fun c2 => ?_) (fun c2 => ?_)))
   ·refine W_sr (sA rfl rfl (s_nil (rT hQ Tryz.results145 rfl ?_)))
    exact ⟨H5.ext, congrArg Value.bool (onOK_apart (all_no k (by omega) (by simp only [apartAt, cut_take] at *; simp_all))).symm⟩
   ·refine W_skip (W_reg (sV rfl (py_add rfl rfl (in64 ⟨by omega, by omega⟩)) (sM rfl rfl (s_nil (⟨k + 1, ⟨rfl, rfl, rfl, rfl, trivial⟩, ⟨(H5.ftake 3), by omega, fun i hi => ?_⟩, by dsimp only; omega⟩)))))
    by_cases e : i = k
    ·subst e
     simp only [apartAt, cut_take] at *; simp_all
    ·exact he i (by omega)
 ·refine W_exit (W_seq (W_drw (S := Ext No _) [(0, true), (1, true), (3, true), (4, true), (5, true), (2, false), (6, true), (7, true), (8, true), (9, true), (10, true), (11, true), (12, true), (13, true), (14, true), (15, true), (16, true), (17, true), (18, false)] (by kernel_rfl) (by kernel_rfl) (by kernel_rfl) rfl (fun _ => Ext.refl.drawn _) (fun q1 => ?_)))
  have H6 := H2.drawn q1
  refine dV rfl rfl (fun zw hx => py_field tu38 rfl ts25 rfl rfl) (dV rfl rfl (fun zw hx => py_load tu25 rfl rfl (cell_atL (hx.heap (H6.box 0 rfl)) rfl)) (dV rfl rfl (fun zw hx => py_field tu38 rfl ts34 rfl rfl) (dV rfl rfl (fun zw hx => py_field tu34 rfl ts2 rfl rfl) (dV rfl rfl (fun zw hx => py_load tu2 rfl rfl (cell_atL (hx.heap (H6.box 0 rfl)) rfl)) (d_call rfl (wn rfl) rfl rfl (pc_call Tryz.func173 rfl Tryz_nm173 rfl) (Tryz_size_int64 (H6.sees 1 rfl)) (fun hS _ _ r _ => hS.trans r.1.no) (fun v3 w5 r3 => ?_))))))
  obtain ⟨e4, rfl⟩ := r3
  have H7 := H6.to e4
  refine dV rfl rfl (fun zw hx => py_leq rfl rfl) (dM rfl rfl rfl (d_case (t := 34) rfl (fun hg2 => ?_) (fun hg2 => ?_)))
  ·try simp only [decide_eq_true_eq, decide_eq_false_iff_not] at hg2
   refine d_val rfl (wg rfl rfl rfl) rfl rfl (fun zw hx => py_field tu38 rfl ts25 rfl rfl) (d_val rfl (wg rfl rfl rfl) rfl rfl (fun zw hx => py_load tu25 rfl rfl (cell_atL (hx.heap (H6.box 0 rfl)) rfl)) (d_val rfl (wg rfl rfl rfl) rfl rfl (fun zw hx => py_len tu25 rfl) (d_val rfl (wg rfl rfl rfl) rfl rfl (fun zw hx => py_eql rfl rfl) (d_val rfl (wg rfl rfl rfl) rfl rfl (fun zw hx => py_move rfl) (d_case (t := 39) rfl (fun hg3 => ?_) (fun hg3 => ?_))))))
   ·try simp only [decide_eq_true_eq, decide_eq_false_iff_not] at hg3
    refine dKt rfl rfl rfl rfl (dKt rfl rfl rfl rfl (dKt rfl rfl rfl rfl (d_val rfl (wg rfl rfl rfl) rfl rfl (fun zw hx => py_pickT rfl rfl) (dV rfl rfl (fun zw hx => py_pickT rfl rfl) (d_end rfl (wn rfl) rfl rfl (py_assign rfl) (d_nil (rT hQ Tryz.results145 rfl ?_)))))))
    exact ⟨H7.ext, congrArg Value.bool (onOK_rest (all_yes fun i hi => he i (by omega)) (by simp_all)).symm⟩
   ·try simp only [decide_eq_true_eq, decide_eq_false_iff_not] at hg3
    refine d_val rfl (wg rfl rfl rfl) rfl rfl (fun zw hx => py_field tu38 rfl ts4 rfl rfl) (d_val rfl (wg rfl rfl rfl) rfl rfl (fun zw hx => py_load tu4 rfl rfl (cell_atL (hx.heap (H6.box 0 rfl)) rfl)) (d_val rfl (wg rfl rfl rfl) rfl rfl (fun zw hx => py_not rfl) (d_val rfl (wg rfl rfl rfl) rfl rfl (fun zw hx => py_pickF rfl rfl) (dV rfl rfl (fun zw hx => py_pickT rfl rfl) (d_end rfl (wn rfl) rfl rfl (py_assign rfl) (d_nil (rT hQ Tryz.results145 rfl ?_)))))))
    exact ⟨H7.ext, congrArg Value.bool (onOK_rest (all_yes fun i hi => he i (by omega)) (by simp_all)).symm⟩
  ·try simp only [decide_eq_true_eq, decide_eq_false_iff_not] at hg2
   refine dKf rfl rfl rfl rfl (dKf rfl rfl rfl rfl (dKf rfl rfl rfl rfl (dKf rfl rfl rfl rfl (dKf rfl rfl rfl rfl (d_skip rfl (wou rfl rfl rfl) rfl rfl (d_skip rfl (wou rfl rfl rfl) rfl rfl (d_skip rfl (wou rfl rfl rfl) rfl rfl (dKf rfl rfl rfl rfl (dV rfl rfl (fun zw hx => py_pickF rfl rfl) (d_end rfl (wn rfl) rfl rfl (py_assign rfl) (d_nil (rT hQ Tryz.results145 rfl ?_))))))))))))
   exact ⟨H7.ext, congrArg Value.bool (onOK_rest (all_yes fun i hi => he i (by omega)) (by rw [decide_eq_false (by omega)]; rfl)).symm⟩
theorem Tryz_impl_tapesFault_1 {w : World} {t : Tape} {tA1 : Option Addr} {tC1 : Nat} (tK : t.Ok) (tS1 : Sees w [.slice tA1 t.Recs.length tC1] t.Recs) : Ret Tryz.prog 245 #[t.val tA1 tC1] w fun v w' => Ext No w w' ∧ (v = .bool (manyRecs t)) := by
 have tK2 := tK
 unfold Tape.Ok at tK2
 try unfold I64ok at tK2
 try unfold maxLen at tK2
 have tL1 := sL tS1
 obtain ⟨tF1, tO1⟩ := tS1
 refine ret_Q (vs := [t.val tA1 tC1]) Tryz.func245 rfl Tryz.ntmps245 rfl (fun Q hQ hN => ?_)
 have H0 := Sep.start (w := w) (F := [seen false [.slice tA1 t.Recs.length tC1] t.Recs tF1]) (all_cons tO1 (by simp))
 refine W_sr (s_box (wn rfl) rfl rfl H0 (fun b1 w1 e1 g1 H1 => ?_))
 refine sA rfl rfl (s_nil (W_sr (sV rfl (py_field tu139 rfl ts30 rfl rfl) (sV rfl (py_load tu30 rfl rfl (cell_atL (H1.box 0 rfl) rfl)) (sV rfl (py_len tu30 rfl) (sV rfl (py_gtr rfl rfl) (sA rfl rfl (s_nil (rT hQ Tryz.results245 rfl ?_)))))))))
 exact ⟨H1.ext, rfl⟩
theorem Tryz_impl_tapesFault_2 {w : World} {t : Tape} {tA1 : Option Addr} {tC1 : Nat} (tK : t.Ok) (tS1 : Sees w [.slice tA1 t.Recs.length tC1] t.Recs) : Ret Tryz.prog 246 #[t.val tA1 tC1] w fun v w' => Ext No w w' ∧ (v = .bool (wipedFull t)) := by
 have tK2 := tK
 unfold Tape.Ok at tK2
 try unfold I64ok at tK2
 try unfold maxLen at tK2
 have tL1 := sL tS1
 obtain ⟨tF1, tO1⟩ := tS1
 refine ret_Q (vs := [t.val tA1 tC1]) Tryz.func246 rfl Tryz.ntmps246 rfl (fun Q hQ hN => ?_)
 have H0 := Sep.start (w := w) (F := [seen false [.slice tA1 t.Recs.length tC1] t.Recs tF1]) (all_cons tO1 (by simp))
 refine W_sr (s_box (wn rfl) rfl rfl H0 (fun b1 w1 e1 g1 H1 => ?_))
 refine sA rfl rfl (s_nil (W_sr (sV rfl (py_field tu139 rfl ts4 rfl rfl) (sV rfl (py_load tu4 rfl rfl (cell_atL (H1.box 0 rfl) rfl)) (sM rfl rfl (s_grp 4 (j := 2) (want := true) (t := 9) rfl rfl rfl rfl (fun hg1 kk1 => s_val (wgE rfl rfl rfl hg1) rfl rfl (py_field tu139 rfl ts30 rfl rfl) (s_val (wgE rfl rfl rfl hg1) rfl rfl (py_load tu30 rfl rfl (cell_atL (H1.box 0 rfl) rfl)) (s_val (wgE rfl rfl rfl hg1) rfl rfl (py_len tu30 rfl) (s_val (wgE rfl rfl rfl hg1) rfl rfl (py_gtr rfl rfl) (kk1 _ _ (kx rfl (kx rfl (kx rfl (kx rfl k0)))) rfl Ext.refl))))) (fun w2 e2 => ?_)))))))
 have H2 := H1.to e2
 refine sV rfl (py_band rfl rfl) (sA rfl rfl (s_nil (rT hQ Tryz.results246 rfl ?_)))
 exact ⟨H2.ext, congrArg Value.bool (by simp [wipedFull])⟩
set_option maxHeartbeats 1000000 in
theorem Tryz_impl_tapesFault {w : World} {z : Wld} {zA9 zA10 zA11 : Option Addr} {zC9 zC10 zC11 : Nat} (zK : z.Ok) (zS9 : Sees w [.slice zA9 z.Groups.length zC9] z.Groups) (zS10 : Sees w [.slice zA10 z.On.length zC10] z.On) (zS11 : Sees w [.slice zA11 z.Tapes.length zC11] z.Tapes) (hs : z.Shape.ok = true) : Ret Tryz.prog 146 #[z.val zA9 zC9 zA10 zC10 zA11 zC11] w fun v w' => Ext No w w' ∧ (v = .int .i64 (tapesF z)) := by
 have zK2 := zK
 unfold Wld.Ok Shape.Ok at zK2
 try unfold I64ok at zK2
 try unfold maxLen at zK2
 have zL9 := sL zS9
 obtain ⟨zF9, zO9⟩ := zS9
 have zL10 := sL zS10
 obtain ⟨zF10, zO10⟩ := zS10
 have zL11 := sL zS11
 obtain ⟨zF11, zO11⟩ := zS11
 have sbd := shape_bd hs
 refine ret_Q (vs := [z.val zA9 zC9 zA10 zC10 zA11 zC11]) Tryz.func146 rfl Tryz.ntmps146 rfl (fun Q hQ hN => ?_)
 have H0 := Sep.start (w := w) (F := [seen false [.slice zA9 z.Groups.length zC9] z.Groups zF9, seen false [.slice zA10 z.On.length zC10] z.On zF10, seen false [.slice zA11 z.Tapes.length zC11] z.Tapes zF11]) (all_cons zO9 (all_cons zO10 (all_cons zO11 (by simp))))
 refine W_sr (s_box (wn rfl) rfl rfl H0 (fun b1 w1 e1 g1 H1 => ?_))
 refine sA rfl rfl (s_nil (W_seq (W_sr (sV rfl (py_field tu38 rfl ts36 rfl rfl) (sV rfl (py_load tu36 rfl rfl (cell_atL (H1.box 0 rfl) rfl)) (s_call (wn rfl) rfl rfl (pc_call Tryz.func244 rfl Tryz_nm244 rfl) (Tryz_ContainsFunc_Tape (H1.sees 2 rfl) (p := manyRecs) Tryz.func245 rfl Tryz_nm245 (fun w1 e1 i0 hi0 _ _ K0 o0_1 => Tryz_impl_tapesFault_1 K0 o0_1)) (fun v1 w2 r1 => ?_)))))))
 obtain ⟨e2, rfl⟩ := r1
 have H2 := H1.to e2
 refine s_nil (W_if rfl (fun c1 => ?_) (fun c1 => ?_))
 ·refine W_sr (sA rfl rfl (s_nil (rT hQ Tryz.results146 rfl ?_)))
  exact ⟨H2.ext, congrArg (Value.int .i64) (tapesF_many c1).symm⟩
 ·refine W_skip (W_seq (W_seq ?_))
  have cM := c1
  refine W_reg (sV rfl (py_field tu38 rfl ts36 rfl rfl) (sV rfl (py_load tu36 rfl rfl (cell_atL (H2.box 0 rfl) rfl)) (sV rfl (py_len tu36 rfl) (sM rfl rfl (s_nil (W_block (W_loopS (γ := Nat) H2 [(1, _), (12, _), (13, _)] ⟨rfl, rfl, rfl, trivial⟩ (fun k => [(14, .int .i64 k)]) (fun k => k ≤ z.Tapes.length ∧ tapeF z.Shape z.Tapes k = 0) (fun k => z.Tapes.length - k) 0 ⟨rfl, trivial⟩ ⟨by omega, rfl⟩ (fun k w3 H3 ⟨hk, hkz⟩ => ?_))))))))
  dsimp only [lCA, lNA]
  refine W_sr (sV rfl (py_lss rfl rfl) (s_nil (W_seq (W_ifd rfl (fun c2 => ?_) (fun c2 => ?_)))))
  ·refine W_skip (W_seq (W_block (W_seq ?_)))
   obtain ⟨eb1, eo1, es1, ef1, ee1, ec1, eO1, eH1, em1⟩ := elem_st (H3.seen 2 rfl) k (by omega)
   obtain ⟨ea1, ek1, eg1, rfl, eq1, eK1, eo2⟩ := own_Tape eO1
   have eP1 := H3.look1 2 rfl eo2 (fun b hb => eH1 b (by rw [eq1]; simp [hb]))
   have eL1 := oL eo2
   refine W_reg (sV rfl (py_elz tu36 ts139 rfl rfl ee1 k (by omega) (by omega)) (sV rfl (py_loadS tu139 rfl ts139 rfl rfl ec1) (s_var (wn rfl) rfl Tryz.zeroValue139 eP1 (fun b2 w4 e3 g2 H4 => ?_))))
   refine s_stoS (wn rfl) ts139 rfl rfl rfl rfl H4 1 rfl rfl (fun w5 e4 H5 => ?_)
   dsimp only [lNA, lCA, lSZ, lSS, layL] at H5
   refine s_nil (W_sr (sV rfl (py_field tu139 rfl ts30 rfl rfl) (sV rfl (py_load tu30 rfl rfl (cell_atL (H5.box 1 rfl) rfl)) (sV rfl (py_len tu30 rfl) (sM rfl rfl (s_nil (W_block (W_loopS (γ := Nat) H5 [(1, _), (12, _), (13, _), (14, _), (19, _), (20, _)] ⟨rfl, rfl, rfl, rfl, rfl, rfl, trivial⟩ (fun k2 => [(21, .int .i64 k2)]) (fun k2 => k2 ≤ (z.Tapes.getD k default).Recs.length ∧ recsF z.Shape (z.Tapes.getD k default).Recs k2 = 0) (fun k2 => (z.Tapes.getD k default).Recs.length - k2) 0 ⟨rfl, trivial⟩ ⟨by omega, rfl⟩ (fun k2 w6 H6 ⟨hk2, hk2z⟩ => ?_)))))))))
   dsimp only [lCA, lNA]
   refine W_sr (sV rfl (py_lss rfl rfl) (s_nil (W_seq (W_ifd rfl (fun c3 => ?_) (fun c3 => ?_)))))
   ·refine W_skip (W_seq (W_block (W_seq ?_)))
    obtain ⟨eb2, eo3, es2, ef2, ee2, ec2, eO2, eH2, em2⟩ := elem_st (H6.seen 3 rfl) k2 (by omega)
    obtain ⟨ea2, ek2, ea3, ek3, ea4, ek4, eg2, eg3, eg4, rfl, eq2, eK2, eo4, eo5, eo6⟩ := own_Rec eO2
    have eK2U := eK2
    unfold Rec.Ok at eK2U
    try unfold I64ok at eK2U
    try unfold maxLen at eK2U
    have eP2 := H6.look1 3 rfl eo4 (fun b hb => eH2 b (by rw [eq2]; simp [hb]))
    have eL2 := oL eo4
    have eP3 := eP2.look1 3 rfl eo5 (fun b hb => eH2 b (by rw [eq2]; simp [hb]))
    have eL3 := oL eo5
    have eP4 := eP3.look1 3 rfl eo6 (fun b hb => eH2 b (by rw [eq2]; simp [hb]))
    have eL4 := oL eo6
    refine W_reg (sV rfl (py_elz tu30 ts68 rfl rfl ee2 k2 (by omega) (by omega)) (sV rfl (py_loadS tu68 rfl ts68 rfl rfl ec2) (s_var (wn rfl) rfl Tryz.zeroValue68 eP4 (fun b3 w7 e5 g3 H7 => ?_))))
    refine s_stoS (wn rfl) ts68 rfl rfl rfl rfl H7 2 rfl rfl (fun w8 e6 H8 => ?_)
    dsimp only [lNA, lCA, lSZ, lSS, layL] at H8
    refine s_nil (W_sr (sV rfl (py_field tu38 rfl ts34 rfl rfl) (sV rfl (py_loadS tu34 rfl ts34 rfl rfl (At.sub (H8.box 0 rfl) 9)) (sV rfl (py_loadS tu68 rfl ts68 rfl rfl (At.whole (H8.box 2 rfl))) (s_call (wn rfl) rfl rfl (pc_call Tryz.func119 rfl Tryz_nm119 rfl) (Tryz_impl_recFault (by assumption) (H8.sees 4 rfl) (H8.sees 5 rfl) (H8.sees 6 rfl) (by assumption)) (fun v2 w9 r2 => ?_))))))
    obtain ⟨e7, rfl⟩ := r2
    have H9 := H8.to e7
    refine sA rfl rfl (s_nil (W_sr (sM rfl rfl (sV rfl (py_neq rfl rfl) (s_nil (W_ifd rfl (fun c4 => ?_) (fun c4 => ?_)))))))
    ·refine W_sr (sM rfl rfl (sA rfl rfl (s_nil (rT hQ Tryz.results146 rfl ?_))))
     exact ⟨H9.ext, congrArg (Value.int .i64) ((tapesF_rec cM (k := k) (k2 := k2) (by omega) hkz (by omega) hk2z (by omega))).symm⟩
    ·refine W_skip (W_reg (sV rfl (py_add rfl rfl (in64 ⟨by omega, by omega⟩)) (sM rfl rfl (s_nil (⟨k2 + 1, ⟨rfl, rfl, rfl, rfl, rfl, rfl, rfl, trivial⟩, ⟨((H9.ftake 4).dtake 2), by omega, (recsF_next hk2z).trans (by omega)⟩, by dsimp only; omega⟩)))))
   ·refine W_exit (W_reg (sV rfl (py_add rfl rfl (in64 ⟨by omega, by omega⟩)) (sM rfl rfl (s_nil ?_))))
    obtain rfl : k2 = (z.Tapes.getD k default).Recs.length := by omega
    refine ⟨k + 1, ⟨rfl, rfl, rfl, rfl, trivial⟩, ⟨((H6.ftake 3).dtake 1), by omega, (tapeF_next hkz).trans hk2z⟩, by dsimp only; omega⟩
  ·refine W_exit (W_seq (W_seq ?_))
   obtain rfl : k = z.Tapes.length := by omega
   have hAll := hkz
   refine W_reg (sV rfl (py_field tu38 rfl ts36 rfl rfl) (sV rfl (py_load tu36 rfl rfl (cell_atL (H3.box 0 rfl) rfl)) (s_call (wn rfl) rfl rfl (pc_call Tryz.func244 rfl Tryz_nm244 rfl) (Tryz_ContainsFunc_Tape (H3.sees 2 rfl) (p := wipedFull) Tryz.func246 rfl Tryz_nm246 (fun w1 e1 i0 hi0 _ _ K0 o0_1 => Tryz_impl_tapesFault_2 K0 o0_1)) (fun v3 w10 r3 => ?_))))
   obtain ⟨e8, rfl⟩ := r3
   have H10 := H3.to e8
   refine s_nil (W_if rfl (fun c5 => ?_) (fun c5 => ?_))
   ·refine W_sr (sA rfl rfl (s_nil (rT hQ Tryz.results146 rfl ?_)))
    exact ⟨H10.ext, congrArg (Value.int .i64) (tapesF_full cM hAll c5).symm⟩
   ·refine W_skip (W_sr (sA rfl rfl (s_nil (rT hQ Tryz.results146 rfl ?_))))
    exact ⟨H10.ext, congrArg (Value.int .i64) (tapesF_ok cM hAll c5).symm⟩
end Go.Wk
