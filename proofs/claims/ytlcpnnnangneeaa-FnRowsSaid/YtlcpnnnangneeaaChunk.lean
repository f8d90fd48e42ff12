/-
  The functions walked, each once. (Printed by a program of mine.)
-/
import Derived.Test.YtlcpnnnangneeaaFacts
namespace Go.Wk
open Go.Proofs Rp
set_option maxRecDepth 10000

theorem Try_chunkgo {w : World} {l b1 b2 n q m xsC : Nat} {xsA : Option Addr} {J : Nat → World → Prop} (hm : 1 ≤ m ∧ m ≤ 1000000) (hn : n = q * m ∧ n ≤ xsC ∧ n ≤ 4611686018427387904) (hJd : ∀ i W k, J i W → J i { W with drawn := k })
    (hb : ∀ i W, J i W → W.heap[b1]? = some (.cells [.slice xsA n xsC].toArray 34) ∧ W.heap[b2]? = some (.cells [.int .i64 m].toArray 3))
    (hY : ∀ i W, J i W → i < q → YieldAt (inF none) 2 Try.prog l #[.slice (slA xsA (i * m) (i * m + m) 1) (i * m + m - i * m) (i * m + m - i * m)] W fun e W' => e = .returned (.bool true) ∧ J (i + 1) W') (h0 : J 0 w) :
    Ret Try.prog 176 #[.func (.yield l) #[] #[], .pointer (some ⟨b1, 0, none⟩), .pointer (some ⟨b2, 0, none⟩)] w fun _ w' => J q w' := by
  refine ret_Q (vs := [.func (.yield l) #[] #[], .pointer (some ⟨b1, 0, none⟩), .pointer (some ⟨b2, 0, none⟩)]) Try.func176 rfl Try.ntmps176 rfl (fun Q hQ hN => ?_)
  refine W_seq ?_
  refine W_reg ?_
  refine s_val (wn rfl) rfl rfl (py_assign rfl) ?_
  refine s_nil ?_
  refine W_block ?_
  refine W_loop (γ := Nat) (fun i => [(0, .func (.yield l) #[] #[]), (1, .pointer (some ⟨b1, 0, none⟩)), (2, .pointer (some ⟨b2, 0, none⟩)), (4, .int .i64 ((i * m : Nat) : Int))]) (fun i w' => i ≤ q ∧ J i w') (fun i => q - i) 0 ⟨rfl, rfl, rfl, eqI (by simp), trivial⟩ ⟨Nat.zero_le _, h0⟩ (fun i w1 hI => ?_)
  obtain ⟨hi, hJ⟩ := hI
  obtain ⟨h1, h2⟩ := hb i w1 hJ
  have p1 : i * m ≤ n := by rw [hn.1]; exact Nat.mul_le_mul_right _ hi
  have p3 : ¬ i < q → i * m = n := fun h => by rw [hn.1]; congr 1; omega
  refine W_seq ?_
  refine W_seq ?_
  refine W_reg ?_
  refine s_val (wn rfl) rfl rfl (py_move rfl) (s_val (wn rfl) rfl rfl (py_load Try.underlying34 rfl rfl (cell_atL h1 rfl)) (s_val (wn rfl) rfl rfl (py_len Try.underlying34 rfl) (s_val (wn rfl) rfl rfl (py_lss rfl rfl) ?_)))
  refine s_nil ?_
  refine W_ifd rfl (fun c1 => ?_) (fun c1 => ?_)
  · have iq : i < q := Decidable.byContradiction fun h => by have := p3 h; omega
    have p2 := mul_step hn.1 iq
    refine W_skip ?_
    refine W_seq ?_
    refine W_block ?_
    refine W_seq ?_
    refine W_drw (S := fun x => x.heap = w1.heap) [(0, true), (1, true), (2, true), (3, true), (4, true), (5, true), (6, false)] (by kernel_rfl) (by kernel_rfl) (by kernel_rfl) rfl (fun _ => rfl) (fun kk => ?_)
    refine d_val rfl (wn rfl) rfl rfl (fun x hx => py_load Try.underlying3 rfl rfl (cell_atL (by rw [hx]; exact h2) rfl)) (d_val rfl (wn rfl) rfl rfl (fun x hx => py_load Try.underlying34 rfl rfl (cell_atL (by rw [hx]; exact h1) rfl)) (d_val rfl (wn rfl) rfl rfl (fun x hx => py_move rfl) (d_val rfl (wn rfl) rfl rfl (fun x hx => py_slcL Try.underlying34 Try.sizeOf5 rfl rfl (i * m) rfl p1) (d_val rfl (wn rfl) rfl rfl (fun x hx => py_len Try.underlying34 rfl) (d_val rfl (wn rfl) rfl rfl (fun x hx => py_min rfl rfl) (d_end rfl (wn rfl) rfl rfl (py_assign rfl) (?_)))))))
    refine d_nil ?_
    refine W_weak (M := [(0, .func (.yield l) #[] #[]), (1, .pointer (some ⟨b1, 0, none⟩)), (2, .pointer (some ⟨b2, 0, none⟩)), (4, .int .i64 ((i * m : Nat) : Int)), (5, .int .i64 m)]) ⟨rfl, rfl, rfl, rfl, eqI (if_neg (by omega)), trivial⟩ ?_
    refine W_seq ?_
    refine W_of (WF_reg ?_)
    refine f_val (wn rfl) rfl rfl (py_move rfl) (f_val (wn rfl) rfl rfl (py_load Try.underlying34 rfl rfl (cell_atL h1 rfl)) (f_val (wn rfl) rfl rfl (py_move rfl) (f_val (wn rfl) rfl rfl (py_move rfl) (f_val (wn rfl) rfl rfl (py_move rfl) (f_val (wn rfl) rfl rfl (py_add rfl rfl (in64 ⟨by omega, by omega⟩)) (f_val (wn rfl) rfl rfl (py_move rfl) (f_val (wn rfl) rfl rfl (py_move rfl) (f_val (wn rfl) rfl rfl (py_add rfl rfl (in64 ⟨by omega, by omega⟩)) (f_val (wn rfl) rfl rfl (py_slcM Try.underlying34 Try.sizeOf5 rfl rfl rfl rfl (i * m) (i * m + m) (i * m + m) rfl (by omega) (by omega) (by omega) (Nat.le_refl _) (by omega)) ?_)))))))))
    refine f_yield rfl rfl rfl (hY i _ (hJd _ _ _ hJ) iq) (fun e w2 he => ?_)
    obtain ⟨rfl, hJ2⟩ := he
    refine ⟨_, rfl, ?_⟩
    refine f_val (wn rfl) rfl rfl (py_not rfl) ?_
    refine f_nil ?_
    refine W_iff rfl ?_
    refine W_skip ?_
    refine W_reg ?_
    refine s_val (wn rfl) rfl rfl (py_move rfl) (s_val (wn rfl) rfl rfl (py_load Try.underlying3 rfl rfl (cell_atL (hb _ _ hJ2).2 rfl)) (s_val (wn rfl) rfl rfl (py_add rfl rfl (in64 ⟨by omega, by omega⟩)) (s_val (wn rfl) rfl rfl (py_assign rfl) ?_)))
    refine s_nil ?_
    refine ⟨i + 1, ⟨rfl, rfl, rfl, eqI (by rw [Nat.succ_mul]; omega), trivial⟩, ⟨iq, hJ2⟩, by dsimp only; omega⟩
  · have iq : ¬ i < q := fun h => by have := mul_step hn.1 h; omega
    obtain rfl : i = q := by omega
    refine W_exit ?_
    refine hN _ _ (fin0 Try.results176 ?_)
    exact hJ
theorem Try_appendseq {w : World} {b1 b2 n q m xsC : Nat} {xsA : Option Addr} (hm : 1 ≤ m ∧ m ≤ 1000000) (hn : n = q * m ∧ n ≤ xsC ∧ n ≤ 1000000000)
    (h1 : w.heap[b1]? = some (.cells [.slice xsA n xsC].toArray 34)) (h2 : w.heap[b2]? = some (.cells [.int .i64 m].toArray 3)) :
    Ret Try.prog 175 #[.slice none 0 0, .func (.func 176) #[] #[.pointer (some ⟨b1, 0, none⟩), .pointer (some ⟨b2, 0, none⟩)]] w fun v w' => Ext No w w' ∧ Res w w' [v] (chunkV xsA m q) := by
  refine ret_marks (vs := [.slice none 0 0, .func (.func 176) #[] #[.pointer (some ⟨b1, 0, none⟩), .pointer (some ⟨b2, 0, none⟩)]]) Try.func175 rfl Try.ntmps175 rfl (fun a ha => ?_)
  have qn : q ≤ n := by rw [hn.1]; exact Nat.le_mul_of_pos_right _ (by omega)
  have H0 : Sep No w [] [box b1 (.cells [.slice xsA n xsC].toArray 34), box b2 (.cells [.int .i64 m].toArray 3)] w := Sep.start (by intro r hr; simp at hr; rcases hr with rfl | rfl; exact h1; exact h2)
  refine seqF (L := argsL 0 _) (B := fun L' w' => ∃ b, sub L' [(1, .func (.func 176) #[] #[.pointer (some ⟨b1, 0, none⟩), .pointer (some ⟨b2, 0, none⟩)]), (2, .pointer (some ⟨b, 0, none⟩))] ∧ Sep No w [box b (.cells [.slice none 0 0].toArray 43)] [box b1 (.cells [.slice xsA n xsC].toArray 34), box b2 (.cells [.int .i64 m].toArray 3)] w') ha ?_ (fun a1 L1 w1 ha1 hB => ?_)
  · refine WF_reg ?_
    refine f_box (wn rfl) rfl rfl H0 (fun b w1 _ _ H1 => ?_)
    refine f_val (wn rfl) rfl rfl (py_assign rfl) ?_
    exact f_nil ⟨rfl, b, ⟨rfl, rfl, trivial⟩, H1⟩
  obtain ⟨Bs, hs, H1⟩ := hB
  have ha2 := ha1.weak hs
  refine wpIn_seq ?_
  refine seqF (B := fun L' w' => sub L' [(6, .func (.func 176) #[] #[.pointer (some ⟨b1, 0, none⟩), .pointer (some ⟨b2, 0, none⟩)]), (2, .pointer (some ⟨Bs, 0, none⟩))] ∧ w' = w1) ha2 ?_ (fun a3 L3 w3 ha3 hB => ?_)
  · refine WF_reg ?_
    refine f_val (wn rfl) rfl rfl (py_move rfl) ?_
    exact f_nil ⟨rfl, ⟨rfl, rfl, trivial⟩, rfl⟩
  obtain ⟨hs3, rfl⟩ := hB
  have ha4 := ha3.weak hs3
  refine wpIn_block ?_
  let F0 : List Rsc := [box b1 (.cells [.slice xsA n xsC].toArray 34), box b2 (.cells [.int .i64 m].toArray 3)]
  refine WF_range ha4 (lb := #[.pointer (some ⟨b1, 0, none⟩), .pointer (some ⟨b2, 0, none⟩)]) rfl Try.func176 rfl Try_nm176
    (K := fun W => ∃ v fp o, Sep No w [box Bs (.cells [v].toArray 43), mine [v] (chunkV xsA m q) fp, box w3.heap.size (.deferred (some [])), box (w3.heap.size + 1) o] F0 W) (fun R fn hR => ?_) (fun W hK => ?_)
  · have e1 : (w3.alloc (.deferred (some []))).heap.size = w3.heap.size + 1 := by simp
    have HA := (H1.alloc (.deferred (some []))).alloc (.loop (R .ready none))
    rw [e1] at HA
    have HB := HA.perm (Γ := [box Bs (.cells [.slice none 0 0].toArray 43), box w3.heap.size (.deferred (some [])), box (w3.heap.size + 1) (.loop (R .ready none))]) (by simp)
    have HC : Sep No w [box Bs (.cells [.slice none 0 0].toArray 43), mine [.slice none 0 0] ((chunkV xsA m q).take 0) [], box w3.heap.size (.deferred (some [])), box (w3.heap.size + 1) (.loop (R .ready none))] F0 ((w3.alloc (.deferred (some []))).alloc (.loop (R .ready none))) :=
      ⟨HB.ext, by
        intro r hr
        simp only [List.mem_cons, List.not_mem_nil, or_false] at hr
        rcases hr with rfl | rfl | rfl | rfl
        · exact HB.rs _ (by simp)
        · exact .inr (.inl ⟨rfl, by simp, rfl⟩)
        · exact HB.rs _ (by simp)
        · exact HB.rs _ (by simp), by simpa [blocks, mine, Wk.box] using HB.nd, by simpa [blocks, mine, Wk.box] using HB.new, HB.fs, by simpa [blocks, mine, Wk.box, F0] using HB.ap⟩
    refine Ret.mono (Try_chunkgo (xsA := xsA) (J := fun i W => ∃ v fp, Sep No w [box Bs (.cells [v].toArray 43), mine [v] ((chunkV xsA m q).take i) fp, box w3.heap.size (.deferred (some [])), box (w3.heap.size + 1) (.loop (R .ready none))] F0 W) hm ⟨hn.1, hn.2.1, by omega⟩ ?_ ?_ ?_ ⟨_, _, HC⟩) ?_
    · rintro i W k ⟨v, fp, H⟩
      exact ⟨v, fp, H.drawn k⟩
    · rintro i W ⟨v, fp, H⟩
      exact ⟨H.fs (box b1 _) (by simp [F0]), H.fs (box b2 _) (by simp [F0])⟩
    · rintro i W ⟨v, fp, H⟩ iq
      have cl : ((chunkV xsA m q).take i).length = i := by rw [List.length_take, chunkV_len]; omega
      have hy := yield_at (P := Try.prog) (u := .slice (slA xsA (i * m) (i * m + m) 1) (i * m + m - i * m) (i * m + m - i * m)) hR ha4.1 rfl (H.box 3 rfl)
        (L2 := [(5, .slice (slA xsA (i * m) (i * m + m) 1) (i * m + m - i * m) (i * m + m - i * m)), (2, .pointer (some ⟨Bs, 0, none⟩))])
        (B := fun W2 => ∃ v fp, Sep No w [box Bs (.cells [v].toArray 43), mine [v] ((chunkV xsA m q).take (i + 1)) fp, box w3.heap.size (.deferred (some [])), box (w3.heap.size + 1) (.loop (R .busy none))] F0 W2)
        (by
          refine WF_reg ?_
          refine f_val (wn rfl) rfl rfl (py_assign rfl) ?_
          exact f_nil ⟨rfl, rfl, ⟨rfl, rfl, trivial⟩⟩)
        (by
          have H2 := H.put 3 (.loop (R .busy none)) rfl
          dsimp only [List.set_cons_zero, List.set_cons_succ] at H2
          refine WF_block ?_
          refine WF_reg ?_
          refine f_val (wn rfl) rfl rfl (py_load Try.underlying43 rfl rfl (cell_atL (H2.box 0 rfl) rfl)) (f_val (wn rfl) rfl rfl (py_move rfl) ?_)
          refine f_lit1 (wn rfl) rfl Try.underlying43 Try_ty34 rfl rfl rfl rfl H2 (fun b w5 _ _ H3 => ?_)
          refine f_app1 (α := View) (u := ⟨slA xsA (i * m) (i * m + m) 1, i * m + m - i * m, i * m + m - i * m⟩) (wn rfl) rfl Try.underlying43 Try_ty34 rfl rfl rfl H3 1 4 rfl rfl ⟨rfl, rfl⟩ (by unfold maxLen; omega) (by omega) (fun v' w6 fp' H4 => ?_)
          dsimp only [List.nil_append, List.cons_append, List.set_cons_zero, List.set_cons_succ] at H4
          obtain ⟨a', c', he⟩ := own_slice (H4.mine 1 rfl)
          cases he
          refine f_sto (wn rfl) Try.sizeOf43 rfl rfl rfl H4 0 rfl rfl (fun w7 _ H5 => ?_)
          dsimp only [List.nil_append, List.cons_append, List.set_cons_zero, List.set_cons_succ] at H5
          have H6 := H5.dtake 4
          have e2 : i * m + m - i * m = m := by omega
          have e3 := chunkV_step (A := xsA) (m := m) iq
          rw [e2, e3] at H6
          exact f_nil ⟨rfl, H5.box 3 rfl, _, _, H6⟩)
      obtain ⟨f1, t1, s1, o1, r1, k1⟩ := hy
      refine ⟨f1, t1, s1, o1, r1, k1.mono fun e W' he => ?_⟩
      obtain ⟨he, W2, ⟨v2, fp2, H2⟩, hl2, rfl⟩ := he
      have H3 := H2.put 3 (.loop (R .ready none)) rfl
      exact ⟨he, v2, fp2, H3⟩
    · rintro _ W2 ⟨v, fp, H⟩
      have H3 := H.put 3 (.loop (R .exhausted none)) rfl
      rw [List.take_of_length_le (by rw [chunkV_len]; exact Nat.le_refl _)] at H3
      exact ⟨H.box 3 rfl, v, fp, _, H3⟩
  · obtain ⟨v, fp, o, H⟩ := hK
    show Code.wpIn _ _ _ _ _ _ _
    have ha5 : GoodD [{ target := .collected w3.heap.size, args := #[] }] 13 { a3 with defers := [{ target := .collected w3.heap.size, args := #[] }] } [(2, .pointer (some ⟨Bs, 0, none⟩))] :=
      ⟨by have := ha4.1; exact this.weak ⟨rfl, trivial⟩, rfl⟩
    refine seqF (B := fun L' w' => sub L' [(4, v)] ∧ w' = W) ha5 ?_ (fun a6 L6 w6 ha6 hB => ?_)
    · refine WF_reg ?_
      refine f_val (wn rfl) rfl rfl (py_load Try.underlying43 rfl rfl (cell_atL (H.box 0 rfl) rfl)) ?_
      refine f_val (wn rfl) rfl rfl (py_assign rfl) ?_
      exact f_nil ⟨rfl, ⟨rfl, trivial⟩, rfl⟩
    obtain ⟨hs6, rfl⟩ := hB
    refine wpIn_ret ?_
    have H7 := H.put 2 (.deferred none) rfl
    refine ⟨.inr rfl, w3.heap.size, [(4, v)], ha6.weak hs6, H.box 2 rfl, fin1 Try.results175 rfl ?_⟩
    exact ⟨H7.ext, H7.out 1 rfl⟩
theorem Try_collect {w : World} {b1 b2 n q m xsC : Nat} {xsA : Option Addr} (hm : 1 ≤ m ∧ m ≤ 1000000) (hn : n = q * m ∧ n ≤ xsC ∧ n ≤ 1000000000)
    (h1 : w.heap[b1]? = some (.cells [.slice xsA n xsC].toArray 34)) (h2 : w.heap[b2]? = some (.cells [.int .i64 m].toArray 3)) :
    Ret Try.prog 135 #[.func (.func 176) #[] #[.pointer (some ⟨b1, 0, none⟩), .pointer (some ⟨b2, 0, none⟩)]] w fun v w' => Ext No w w' ∧ Res w w' [v] (chunkV xsA m q) := by
  refine ret_Q (vs := [.func (.func 176) #[] #[.pointer (some ⟨b1, 0, none⟩), .pointer (some ⟨b2, 0, none⟩)]]) Try.func135 rfl Try.ntmps135 rfl (fun Q hQ hN => ?_)
  refine W_seq ?_
  refine W_reg ?_
  refine s_val (wn rfl) rfl rfl (py_assign rfl) ?_
  refine s_nil ?_
  refine W_seq ?_
  refine W_reg ?_
  refine s_val (wn rfl) rfl rfl (py_move rfl) ?_
  refine s_call (wn rfl) rfl rfl (pc_call Try.func175 rfl Try_nm175 rfl) (Try_appendseq hm hn h1 h2) (fun v w1 r => ?_)
  refine s_val (wn rfl) rfl rfl (py_assign rfl) ?_
  refine s_nil ?_
  refine W_ret (hQ _ _ (fin1 Try.results135 rfl ?_))
  exact r
theorem Try_chunk {w : World} {n m xsC : Nat} {xsA : Option Addr} (hm : 1 ≤ m) :
    Ret Try.prog 136 #[.slice xsA n xsC, .int .i64 m] w fun v w' => Ext No w w' ∧ ∃ b1 b2, v = .func (.func 176) #[] #[.pointer (some ⟨b1, 0, none⟩), .pointer (some ⟨b2, 0, none⟩)] ∧ w'.heap[b1]? = some (.cells [.slice xsA n xsC].toArray 34) ∧ w'.heap[b2]? = some (.cells [.int .i64 m].toArray 3) := by
  refine ret_Q (vs := [.slice xsA n xsC, .int .i64 m]) Try.func136 rfl Try.ntmps136 rfl (fun Q hQ hN => ?_)
  have H0 := Sep.start (w := w) (F := []) (by simp)
  refine W_seq ?_
  refine W_reg ?_
  refine s_box (wn rfl) rfl rfl H0 (fun b1 w1 e1 g1 H1 => ?_)
  refine s_box (wn rfl) rfl rfl H1 (fun b2 w2 e2 g2 H2 => ?_)
  dsimp only [List.nil_append, List.cons_append] at H2
  refine s_val (wn rfl) rfl rfl (py_assign rfl) ?_
  refine s_nil ?_
  refine W_seq ?_
  refine W_seq ?_
  refine W_reg ?_
  refine s_val (wn rfl) rfl rfl (py_load Try.underlying3 rfl rfl (cell_atL (H2.box 1 rfl) rfl)) (s_val (wn rfl) rfl rfl (py_lss rfl rfl) ?_)
  refine s_nil ?_
  refine W_ifd rfl (fun c1 => ?_) (fun c1 => ?_)
  · exact absurd c1 (by omega)
  refine W_skip ?_
  refine W_seq ?_
  refine W_reg ?_
  refine s_val (wn rfl) rfl rfl (py_func rfl) (s_val (wn rfl) rfl rfl (py_assign rfl) ?_)
  refine s_nil ?_
  refine W_ret (hQ _ _ (fin1 Try.results136 rfl ?_))
  exact ⟨H2.ext, b1, b2, rfl, H2.box 0 rfl, H2.box 1 rfl⟩

end Go.Wk
