/-
  The functions walked, each once. (Printed by a program of mine.)
-/
import Derived.Test.YtlcpnnnangneeaaTicket
import Derived.Test.YtlcpnnnangneeaaWkT
namespace Go.Wk
open Go.Proofs Rp
set_option maxRecDepth 10000
theorem Try_laws_markTicketS {w : World} {xs : List Ticket} {xsA : Option Addr} {xsC : Nat} {k : Int} (xsS : Sees w [.slice xsA xs.length xsC] xs) (h0 : xs.length = 0) : Ret Try.prog 140 #[.slice xsA xs.length xsC, .int .i64 k] w fun v w' => Ext No w w' ∧ (v = .int .i64 k) := by
  have xsL := sees_len xsS
  unfold maxLen at xsL
  obtain ⟨xsF, xsO⟩ := xsS
  refine ret_Q (vs := [.slice xsA xs.length xsC, .int .i64 k]) Try.func140 rfl Try.ntmps140 rfl (fun Q hQ hN => ?_)
  have H0 := Sep.start (w := w) (F := [seen false [.slice xsA xs.length xsC] xs xsF]) (all_cons xsO (by simp))
  refine W_seq ?_
  refine W_reg ?_
  refine s_val (wn rfl) rfl rfl (py_assign rfl) ?_
  refine s_nil ?_
  refine W_seq ?_
  refine W_seq ?_
  refine W_reg ?_
  refine s_val (wn rfl) rfl rfl (py_assign rfl) ?_
  refine s_nil ?_
  refine W_block ?_
  refine W_loop (γ := Unit) (fun _ => [(0, .slice xsA xs.length xsC), (1, .int .i64 k), (5, .int .i64 0)]) (fun _ w' => Sep No w [] [seen false [.slice xsA xs.length xsC] xs xsF] w') (fun _ => 0) () ⟨rfl, rfl, rfl, trivial⟩ H0 (fun _ w1 H1 => ?_)
  refine W_seq ?_
  refine W_seq ?_
  refine W_reg ?_
  refine s_val (wn rfl) rfl rfl (py_move rfl) (s_val (wn rfl) rfl rfl (py_move rfl) (s_val (wn rfl) rfl rfl (py_len Try.underlying54 rfl) (s_val (wn rfl) rfl rfl (py_lss rfl rfl) ?_)))
  refine s_nil ?_
  refine W_ifd rfl (fun c1 => ?_) (fun c1 => ?_)
  · exact absurd c1 (by omega)
  · refine W_exit ?_
    refine W_seq ?_
    refine W_reg ?_
    refine s_val (wn rfl) rfl rfl (py_move rfl) (s_val (wn rfl) rfl rfl (py_assign rfl) ?_)
    refine s_nil ?_
    refine W_ret (hQ _ _ (fin1 Try.results140 rfl ?_))
    exact ⟨H1.ext, rfl⟩
theorem Try_laws_markAnswerS {w : World} {xs : List Answer} {xsA : Option Addr} {xsC : Nat} {k : Int} (xsS : Sees w [.slice xsA xs.length xsC] xs) (h0 : xs.length = 0) : Ret Try.prog 141 #[.slice xsA xs.length xsC, .int .i64 k] w fun v w' => Ext No w w' ∧ (v = .int .i64 k) := by
  have xsL := sees_len xsS
  unfold maxLen at xsL
  obtain ⟨xsF, xsO⟩ := xsS
  refine ret_Q (vs := [.slice xsA xs.length xsC, .int .i64 k]) Try.func141 rfl Try.ntmps141 rfl (fun Q hQ hN => ?_)
  have H0 := Sep.start (w := w) (F := [seen false [.slice xsA xs.length xsC] xs xsF]) (all_cons xsO (by simp))
  refine W_seq ?_
  refine W_reg ?_
  refine s_val (wn rfl) rfl rfl (py_assign rfl) ?_
  refine s_nil ?_
  refine W_seq ?_
  refine W_seq ?_
  refine W_reg ?_
  refine s_val (wn rfl) rfl rfl (py_assign rfl) ?_
  refine s_nil ?_
  refine W_block ?_
  refine W_loop (γ := Unit) (fun _ => [(0, .slice xsA xs.length xsC), (1, .int .i64 k), (5, .int .i64 0)]) (fun _ w' => Sep No w [] [seen false [.slice xsA xs.length xsC] xs xsF] w') (fun _ => 0) () ⟨rfl, rfl, rfl, trivial⟩ H0 (fun _ w1 H1 => ?_)
  refine W_seq ?_
  refine W_seq ?_
  refine W_reg ?_
  refine s_val (wn rfl) rfl rfl (py_move rfl) (s_val (wn rfl) rfl rfl (py_move rfl) (s_val (wn rfl) rfl rfl (py_len Try.underlying55 rfl) (s_val (wn rfl) rfl rfl (py_lss rfl rfl) ?_)))
  refine s_nil ?_
  refine W_ifd rfl (fun c1 => ?_) (fun c1 => ?_)
  · exact absurd c1 (by omega)
  · refine W_exit ?_
    refine W_seq ?_
    refine W_reg ?_
    refine s_val (wn rfl) rfl rfl (py_move rfl) (s_val (wn rfl) rfl rfl (py_assign rfl) ?_)
    refine s_nil ?_
    refine W_ret (hQ _ _ (fin1 Try.results141 rfl ?_))
    exact ⟨H1.ext, rfl⟩
theorem Try_laws_heldTicketS {w : World} {xs : List Ticket} {xsA : Option Addr} {xsC : Nat} {k : Int} (xsS : Sees w [.slice xsA xs.length xsC] xs) (h0 : xs.length = 0) : Ret Try.prog 143 #[.slice xsA xs.length xsC, .int .i64 k] w fun v w' => Ext No w w' ∧ (v = .int .i64 k) := by
  have xsL := sees_len xsS
  unfold maxLen at xsL
  obtain ⟨xsF, xsO⟩ := xsS
  refine ret_Q (vs := [.slice xsA xs.length xsC, .int .i64 k]) Try.func143 rfl Try.ntmps143 rfl (fun Q hQ hN => ?_)
  have H0 := Sep.start (w := w) (F := [seen false [.slice xsA xs.length xsC] xs xsF]) (all_cons xsO (by simp))
  refine W_seq ?_
  refine W_reg ?_
  refine s_val (wn rfl) rfl rfl (py_assign rfl) ?_
  refine s_nil ?_
  refine W_seq ?_
  refine W_seq ?_
  refine W_reg ?_
  refine s_val (wn rfl) rfl rfl (py_assign rfl) ?_
  refine s_nil ?_
  refine W_block ?_
  refine W_loop (γ := Unit) (fun _ => [(0, .slice xsA xs.length xsC), (1, .int .i64 k), (5, .int .i64 0)]) (fun _ w' => Sep No w [] [seen false [.slice xsA xs.length xsC] xs xsF] w') (fun _ => 0) () ⟨rfl, rfl, rfl, trivial⟩ H0 (fun _ w1 H1 => ?_)
  refine W_seq ?_
  refine W_seq ?_
  refine W_reg ?_
  refine s_val (wn rfl) rfl rfl (py_move rfl) (s_val (wn rfl) rfl rfl (py_move rfl) (s_val (wn rfl) rfl rfl (py_len Try.underlying54 rfl) (s_val (wn rfl) rfl rfl (py_lss rfl rfl) ?_)))
  refine s_nil ?_
  refine W_ifd rfl (fun c1 => ?_) (fun c1 => ?_)
  · exact absurd c1 (by omega)
  · refine W_exit ?_
    refine W_seq ?_
    refine W_reg ?_
    refine s_val (wn rfl) rfl rfl (py_move rfl) (s_val (wn rfl) rfl rfl (py_assign rfl) ?_)
    refine s_nil ?_
    refine W_ret (hQ _ _ (fin1 Try.results143 rfl ?_))
    exact ⟨H1.ext, rfl⟩
theorem Try_laws_heldAnswerS {w : World} {xs : List Answer} {xsA : Option Addr} {xsC : Nat} {k : Int} (xsS : Sees w [.slice xsA xs.length xsC] xs) (h0 : xs.length = 0) : Ret Try.prog 144 #[.slice xsA xs.length xsC, .int .i64 k] w fun v w' => Ext No w w' ∧ (v = .int .i64 k) := by
  have xsL := sees_len xsS
  unfold maxLen at xsL
  obtain ⟨xsF, xsO⟩ := xsS
  refine ret_Q (vs := [.slice xsA xs.length xsC, .int .i64 k]) Try.func144 rfl Try.ntmps144 rfl (fun Q hQ hN => ?_)
  have H0 := Sep.start (w := w) (F := [seen false [.slice xsA xs.length xsC] xs xsF]) (all_cons xsO (by simp))
  refine W_seq ?_
  refine W_reg ?_
  refine s_val (wn rfl) rfl rfl (py_assign rfl) ?_
  refine s_nil ?_
  refine W_seq ?_
  refine W_seq ?_
  refine W_reg ?_
  refine s_val (wn rfl) rfl rfl (py_assign rfl) ?_
  refine s_nil ?_
  refine W_block ?_
  refine W_loop (γ := Unit) (fun _ => [(0, .slice xsA xs.length xsC), (1, .int .i64 k), (5, .int .i64 0)]) (fun _ w' => Sep No w [] [seen false [.slice xsA xs.length xsC] xs xsF] w') (fun _ => 0) () ⟨rfl, rfl, rfl, trivial⟩ H0 (fun _ w1 H1 => ?_)
  refine W_seq ?_
  refine W_seq ?_
  refine W_reg ?_
  refine s_val (wn rfl) rfl rfl (py_move rfl) (s_val (wn rfl) rfl rfl (py_move rfl) (s_val (wn rfl) rfl rfl (py_len Try.underlying55 rfl) (s_val (wn rfl) rfl rfl (py_lss rfl rfl) ?_)))
  refine s_nil ?_
  refine W_ifd rfl (fun c1 => ?_) (fun c1 => ?_)
  · exact absurd c1 (by omega)
  · refine W_exit ?_
    refine W_seq ?_
    refine W_reg ?_
    refine s_val (wn rfl) rfl rfl (py_move rfl) (s_val (wn rfl) rfl rfl (py_assign rfl) ?_)
    refine s_nil ?_
    refine W_ret (hQ _ _ (fin1 Try.results144 rfl ?_))
    exact ⟨H1.ext, rfl⟩
theorem Try_laws_eqTicketS {w : World} {xs : List Ticket} {xsA : Option Addr} {xsC : Nat} {ys : List Ticket} {ysA : Option Addr} {ysC : Nat} (xsS : Sees w [.slice xsA xs.length xsC] xs) (ysS : Sees w [.slice ysA ys.length ysC] ys) (h0 : xs.length = 0) (h1 : ys.length = 0) : Ret Try.prog 126 #[.slice xsA xs.length xsC, .slice ysA ys.length ysC] w fun v w' => Ext No w w' ∧ (v = .bool true) := by
  have xsL := sees_len xsS
  unfold maxLen at xsL
  obtain ⟨xsF, xsO⟩ := xsS
  have ysL := sees_len ysS
  unfold maxLen at ysL
  obtain ⟨ysF, ysO⟩ := ysS
  refine ret_Q (vs := [.slice xsA xs.length xsC, .slice ysA ys.length ysC]) Try.func126 rfl Try.ntmps126 rfl (fun Q hQ hN => ?_)
  have H0 := Sep.start (w := w) (F := [seen false [.slice xsA xs.length xsC] xs xsF, seen false [.slice ysA ys.length ysC] ys ysF]) (all_cons xsO (all_cons ysO (by simp)))
  refine W_seq ?_
  refine W_reg ?_
  refine s_val (wn rfl) rfl rfl (py_assign rfl) ?_
  refine s_nil ?_
  refine W_seq ?_
  refine W_seq ?_
  refine W_reg ?_
  refine s_val (wn rfl) rfl rfl (py_move rfl) (s_val (wn rfl) rfl rfl (py_len Try.underlying54 rfl) (s_val (wn rfl) rfl rfl (py_move rfl) (s_val (wn rfl) rfl rfl (py_len Try.underlying54 rfl) (s_val (wn rfl) rfl rfl (py_neq rfl rfl) ?_))))
  refine s_nil ?_
  refine W_ifd rfl (fun c1 => ?_) (fun c1 => ?_)
  · exact absurd c1 (by omega)
  · refine W_skip ?_
    refine W_seq ?_
    refine W_seq ?_
    refine W_reg ?_
    refine s_val (wn rfl) rfl rfl (py_assign rfl) ?_
    refine s_nil ?_
    refine W_block ?_
    refine W_loop (γ := Unit) (fun _ => [(0, .slice xsA xs.length xsC), (1, .slice ysA ys.length ysC), (5, .int .i64 0)]) (fun _ w' => Sep No w [] [seen false [.slice xsA xs.length xsC] xs xsF, seen false [.slice ysA ys.length ysC] ys ysF] w') (fun _ => 0) () ⟨rfl, rfl, rfl, trivial⟩ H0 (fun _ w1 H1 => ?_)
    refine W_seq ?_
    refine W_seq ?_
    refine W_reg ?_
    refine s_val (wn rfl) rfl rfl (py_move rfl) (s_val (wn rfl) rfl rfl (py_move rfl) (s_val (wn rfl) rfl rfl (py_len Try.underlying54 rfl) (s_val (wn rfl) rfl rfl (py_lss rfl rfl) ?_)))
    refine s_nil ?_
    refine W_ifd rfl (fun c2 => ?_) (fun c2 => ?_)
    · exact absurd c2 (by omega)
    · refine W_exit ?_
      refine W_seq ?_
      refine W_reg ?_
      refine s_val (wn rfl) rfl rfl (py_assign rfl) ?_
      refine s_nil ?_
      refine W_ret (hQ _ _ (fin1 Try.results126 rfl ?_))
      exact ⟨H1.ext, rfl⟩
theorem Try_laws_eqAnswerS {w : World} {xs : List Answer} {xsA : Option Addr} {xsC : Nat} {ys : List Answer} {ysA : Option Addr} {ysC : Nat} (xsS : Sees w [.slice xsA xs.length xsC] xs) (ysS : Sees w [.slice ysA ys.length ysC] ys) (h0 : xs.length = 0) (h1 : ys.length = 0) : Ret Try.prog 127 #[.slice xsA xs.length xsC, .slice ysA ys.length ysC] w fun v w' => Ext No w w' ∧ (v = .bool true) := by
  have xsL := sees_len xsS
  unfold maxLen at xsL
  obtain ⟨xsF, xsO⟩ := xsS
  have ysL := sees_len ysS
  unfold maxLen at ysL
  obtain ⟨ysF, ysO⟩ := ysS
  refine ret_Q (vs := [.slice xsA xs.length xsC, .slice ysA ys.length ysC]) Try.func127 rfl Try.ntmps127 rfl (fun Q hQ hN => ?_)
  have H0 := Sep.start (w := w) (F := [seen false [.slice xsA xs.length xsC] xs xsF, seen false [.slice ysA ys.length ysC] ys ysF]) (all_cons xsO (all_cons ysO (by simp)))
  refine W_seq ?_
  refine W_reg ?_
  refine s_val (wn rfl) rfl rfl (py_assign rfl) ?_
  refine s_nil ?_
  refine W_seq ?_
  refine W_seq ?_
  refine W_reg ?_
  refine s_val (wn rfl) rfl rfl (py_move rfl) (s_val (wn rfl) rfl rfl (py_len Try.underlying55 rfl) (s_val (wn rfl) rfl rfl (py_move rfl) (s_val (wn rfl) rfl rfl (py_len Try.underlying55 rfl) (s_val (wn rfl) rfl rfl (py_neq rfl rfl) ?_))))
  refine s_nil ?_
  refine W_ifd rfl (fun c1 => ?_) (fun c1 => ?_)
  · exact absurd c1 (by omega)
  · refine W_skip ?_
    refine W_seq ?_
    refine W_seq ?_
    refine W_reg ?_
    refine s_val (wn rfl) rfl rfl (py_assign rfl) ?_
    refine s_nil ?_
    refine W_block ?_
    refine W_loop (γ := Unit) (fun _ => [(0, .slice xsA xs.length xsC), (1, .slice ysA ys.length ysC), (5, .int .i64 0)]) (fun _ w' => Sep No w [] [seen false [.slice xsA xs.length xsC] xs xsF, seen false [.slice ysA ys.length ysC] ys ysF] w') (fun _ => 0) () ⟨rfl, rfl, rfl, trivial⟩ H0 (fun _ w1 H1 => ?_)
    refine W_seq ?_
    refine W_seq ?_
    refine W_reg ?_
    refine s_val (wn rfl) rfl rfl (py_move rfl) (s_val (wn rfl) rfl rfl (py_move rfl) (s_val (wn rfl) rfl rfl (py_len Try.underlying55 rfl) (s_val (wn rfl) rfl rfl (py_lss rfl rfl) ?_)))
    refine s_nil ?_
    refine W_ifd rfl (fun c2 => ?_) (fun c2 => ?_)
    · exact absurd c2 (by omega)
    · refine W_exit ?_
      refine W_seq ?_
      refine W_reg ?_
      refine s_val (wn rfl) rfl rfl (py_assign rfl) ?_
      refine s_nil ?_
      refine W_ret (hQ _ _ (fin1 Try.results127 rfl ?_))
      exact ⟨H1.ext, rfl⟩
theorem Try_laws_markTicketSS {w : World} {xs : List (List Ticket)} {xsA : Option Addr} {xsC : Nat} {k : Int} (xsS : Sees w [.slice xsA xs.length xsC] xs) (hk : 0 ≤ k) (h0 : ∀ i, (xs.getD i []).length = 0) : Ret Try.prog 139 #[.slice xsA xs.length xsC, .int .i64 k] w fun v w' => Ext No w w' ∧ (v = .int .i64 k) := by
  have xsL := sees_len xsS
  unfold maxLen at xsL
  obtain ⟨xsF, xsO⟩ := xsS
  refine ret_Q (vs := [.slice xsA xs.length xsC, .int .i64 k]) Try.func139 rfl Try.ntmps139 rfl (fun Q hQ hN => ?_)
  have H0 := Sep.start (w := w) (F := [seen false [.slice xsA xs.length xsC] xs xsF]) (all_cons xsO (by simp))
  refine W_seq ?_
  refine W_reg ?_
  refine s_val (wn rfl) rfl rfl (py_assign rfl) ?_
  refine s_nil ?_
  refine W_seq ?_
  refine W_seq ?_
  refine W_reg ?_
  refine s_val (wn rfl) rfl rfl (py_assign rfl) ?_
  refine s_nil ?_
  refine W_block ?_
  refine W_loop (γ := Nat) (fun i => [(0, .slice xsA xs.length xsC), (1, .int .i64 k), (5, .int .i64 i)]) (fun i w' => Sep No w [] [seen false [.slice xsA xs.length xsC] xs xsF] w' ∧ i ≤ xs.length) (fun i => xs.length - i) 0 ⟨rfl, rfl, rfl, trivial⟩ ⟨H0, by omega⟩ (fun i w1 H1 => ?_)
  obtain ⟨H1, hi⟩ := H1
  refine W_seq ?_
  refine W_seq ?_
  refine W_reg ?_
  refine s_val (wn rfl) rfl rfl (py_move rfl) (s_val (wn rfl) rfl rfl (py_move rfl) (s_val (wn rfl) rfl rfl (py_len Try.underlying53 rfl) (s_val (wn rfl) rfl rfl (py_lss rfl rfl) ?_)))
  refine s_nil ?_
  refine W_ifd rfl (fun c1 => ?_) (fun c1 => ?_)
  · refine W_skip ?_
    refine W_seq ?_
    refine W_block ?_
    obtain ⟨eb1, eo1, ea1, ek1, ef1, ee1, ec1, eO1, eH1⟩ := elem_sl (H1.seen 0 rfl) i (by omega)
    have eP1 := H1.look1 0 rfl eO1 eH1
    refine W_reg ?_
    refine s_val (wn rfl) rfl rfl (py_move rfl) (s_val (wn rfl) rfl rfl (py_move rfl) (s_val (wn rfl) rfl rfl (py_elz Try.underlying53 Try.sizeOf54 rfl rfl ee1 i (by omega) (by omega)) (s_val (wn rfl) rfl rfl (py_load Try.underlying54 rfl rfl ec1) (s_val (wn rfl) rfl rfl (py_move rfl) ?_))))
    refine s_call (wn rfl) rfl rfl (pc_call Try.func140 rfl Try_nm140 rfl) (Try_laws_markTicketS (eP1.sees 1 rfl) (by first | assumption | exact h0 _ | exact h1 _)) (fun v1 w2 r1 => ?_)
    obtain ⟨e1, rfl⟩ := r1
    have H2 := eP1.to e1
    refine s_val (wn rfl) rfl rfl (py_assign rfl) ?_
    refine s_nil ?_
    refine W_reg ?_
    refine s_val (wn rfl) rfl rfl (py_move rfl) (s_val (wn rfl) rfl rfl (py_add rfl rfl (in64 ⟨by omega, by omega⟩)) (s_val (wn rfl) rfl rfl (py_assign rfl) ?_))
    refine s_nil ?_
    refine ⟨i + 1, ⟨rfl, rfl, rfl, trivial⟩, ⟨(H2.ftake 1), by omega⟩, by dsimp only; omega⟩
  · refine W_exit ?_
    refine W_seq ?_
    refine W_reg ?_
    refine s_val (wn rfl) rfl rfl (py_move rfl) (s_val (wn rfl) rfl rfl (py_assign rfl) ?_)
    refine s_nil ?_
    refine W_ret (hQ _ _ (fin1 Try.results139 rfl ?_))
    exact ⟨H1.ext, rfl⟩
theorem Try_laws_heldTicketSS {w : World} {xs : List (List Ticket)} {xsA : Option Addr} {xsC : Nat} {k : Int} (xsS : Sees w [.slice xsA xs.length xsC] xs) (hk : 0 ≤ k) (h0 : ∀ i, (xs.getD i []).length = 0) : Ret Try.prog 142 #[.slice xsA xs.length xsC, .int .i64 k] w fun v w' => Ext No w w' ∧ (v = .int .i64 k) := by
  have xsL := sees_len xsS
  unfold maxLen at xsL
  obtain ⟨xsF, xsO⟩ := xsS
  refine ret_Q (vs := [.slice xsA xs.length xsC, .int .i64 k]) Try.func142 rfl Try.ntmps142 rfl (fun Q hQ hN => ?_)
  have H0 := Sep.start (w := w) (F := [seen false [.slice xsA xs.length xsC] xs xsF]) (all_cons xsO (by simp))
  refine W_seq ?_
  refine W_reg ?_
  refine s_val (wn rfl) rfl rfl (py_assign rfl) ?_
  refine s_nil ?_
  refine W_seq ?_
  refine W_seq ?_
  refine W_reg ?_
  refine s_val (wn rfl) rfl rfl (py_assign rfl) ?_
  refine s_nil ?_
  refine W_block ?_
  refine W_loop (γ := Nat) (fun i => [(0, .slice xsA xs.length xsC), (1, .int .i64 k), (5, .int .i64 i)]) (fun i w' => Sep No w [] [seen false [.slice xsA xs.length xsC] xs xsF] w' ∧ i ≤ xs.length) (fun i => xs.length - i) 0 ⟨rfl, rfl, rfl, trivial⟩ ⟨H0, by omega⟩ (fun i w1 H1 => ?_)
  obtain ⟨H1, hi⟩ := H1
  refine W_seq ?_
  refine W_seq ?_
  refine W_reg ?_
  refine s_val (wn rfl) rfl rfl (py_move rfl) (s_val (wn rfl) rfl rfl (py_move rfl) (s_val (wn rfl) rfl rfl (py_len Try.underlying53 rfl) (s_val (wn rfl) rfl rfl (py_lss rfl rfl) ?_)))
  refine s_nil ?_
  refine W_ifd rfl (fun c1 => ?_) (fun c1 => ?_)
  · refine W_skip ?_
    refine W_seq ?_
    refine W_block ?_
    refine W_seq ?_
    obtain ⟨eb1, eo1, ea1, ek1, ef1, ee1, ec1, eO1, eH1⟩ := elem_sl (H1.seen 0 rfl) i (by omega)
    have eP1 := H1.look1 0 rfl eO1 eH1
    refine W_reg ?_
    refine s_val (wn rfl) rfl rfl (py_move rfl) (s_val (wn rfl) rfl rfl (py_move rfl) (s_val (wn rfl) rfl rfl (py_elz Try.underlying53 Try.sizeOf54 rfl rfl ee1 i (by omega) (by omega)) (s_val (wn rfl) rfl rfl (py_load Try.underlying54 rfl rfl ec1) (s_val (wn rfl) rfl rfl (py_move rfl) ?_))))
    refine s_call (wn rfl) rfl rfl (pc_call Try.func143 rfl Try_nm143 rfl) (Try_laws_heldTicketS (eP1.sees 1 rfl) (by first | assumption | exact h0 _ | exact h1 _)) (fun v1 w2 r1 => ?_)
    obtain ⟨e1, rfl⟩ := r1
    have H2 := eP1.to e1
    refine s_val (wn rfl) rfl rfl (py_assign rfl) ?_
    refine s_nil ?_
    refine W_seq ?_
    refine W_reg ?_
    refine s_val (wn rfl) rfl rfl (py_move rfl) (s_val (wn rfl) rfl rfl (py_lss rfl rfl) ?_)
    refine s_nil ?_
    refine W_ifd rfl (fun c2 => ?_) (fun c2 => ?_)
    · exact absurd c2 (by omega)
    · refine W_skip ?_
      refine W_reg ?_
      refine s_val (wn rfl) rfl rfl (py_move rfl) (s_val (wn rfl) rfl rfl (py_add rfl rfl (in64 ⟨by omega, by omega⟩)) (s_val (wn rfl) rfl rfl (py_assign rfl) ?_))
      refine s_nil ?_
      refine ⟨i + 1, ⟨rfl, rfl, rfl, trivial⟩, ⟨(H2.ftake 1), by omega⟩, by dsimp only; omega⟩
  · refine W_exit ?_
    refine W_seq ?_
    refine W_reg ?_
    refine s_val (wn rfl) rfl rfl (py_move rfl) (s_val (wn rfl) rfl rfl (py_assign rfl) ?_)
    refine s_nil ?_
    refine W_ret (hQ _ _ (fin1 Try.results142 rfl ?_))
    exact ⟨H1.ext, rfl⟩
theorem Try_laws_eqTicketSS {w : World} {xs : List (List Ticket)} {xsA : Option Addr} {xsC : Nat} {ys : List (List Ticket)} {ysA : Option Addr} {ysC : Nat} (xsS : Sees w [.slice xsA xs.length xsC] xs) (ysS : Sees w [.slice ysA ys.length ysC] ys) (hl : xs.length = ys.length) (h0 : ∀ i, (xs.getD i []).length = 0) (h1 : ∀ i, (ys.getD i []).length = 0) : Ret Try.prog 125 #[.slice xsA xs.length xsC, .slice ysA ys.length ysC] w fun v w' => Ext No w w' ∧ (v = .bool true) := by
  have xsL := sees_len xsS
  unfold maxLen at xsL
  obtain ⟨xsF, xsO⟩ := xsS
  have ysL := sees_len ysS
  unfold maxLen at ysL
  obtain ⟨ysF, ysO⟩ := ysS
  refine ret_Q (vs := [.slice xsA xs.length xsC, .slice ysA ys.length ysC]) Try.func125 rfl Try.ntmps125 rfl (fun Q hQ hN => ?_)
  have H0 := Sep.start (w := w) (F := [seen false [.slice xsA xs.length xsC] xs xsF, seen false [.slice ysA ys.length ysC] ys ysF]) (all_cons xsO (all_cons ysO (by simp)))
  refine W_seq ?_
  refine W_reg ?_
  refine s_val (wn rfl) rfl rfl (py_assign rfl) ?_
  refine s_nil ?_
  refine W_seq ?_
  refine W_seq ?_
  refine W_reg ?_
  refine s_val (wn rfl) rfl rfl (py_move rfl) (s_val (wn rfl) rfl rfl (py_len Try.underlying53 rfl) (s_val (wn rfl) rfl rfl (py_move rfl) (s_val (wn rfl) rfl rfl (py_len Try.underlying53 rfl) (s_val (wn rfl) rfl rfl (py_neq rfl rfl) ?_))))
  refine s_nil ?_
  refine W_ifd rfl (fun c1 => ?_) (fun c1 => ?_)
  · exact absurd c1 (by omega)
  · refine W_skip ?_
    refine W_seq ?_
    refine W_seq ?_
    refine W_reg ?_
    refine s_val (wn rfl) rfl rfl (py_assign rfl) ?_
    refine s_nil ?_
    refine W_block ?_
    refine W_loop (γ := Nat) (fun i => [(0, .slice xsA xs.length xsC), (1, .slice ysA ys.length ysC), (5, .int .i64 i)]) (fun i w' => Sep No w [] [seen false [.slice xsA xs.length xsC] xs xsF, seen false [.slice ysA ys.length ysC] ys ysF] w' ∧ i ≤ xs.length) (fun i => xs.length - i) 0 ⟨rfl, rfl, rfl, trivial⟩ ⟨H0, by omega⟩ (fun i w1 H1 => ?_)
    obtain ⟨H1, hi⟩ := H1
    refine W_seq ?_
    refine W_seq ?_
    refine W_reg ?_
    refine s_val (wn rfl) rfl rfl (py_move rfl) (s_val (wn rfl) rfl rfl (py_move rfl) (s_val (wn rfl) rfl rfl (py_len Try.underlying53 rfl) (s_val (wn rfl) rfl rfl (py_lss rfl rfl) ?_)))
    refine s_nil ?_
    refine W_ifd rfl (fun c2 => ?_) (fun c2 => ?_)
    · refine W_skip ?_
      refine W_seq ?_
      refine W_block ?_
      refine W_seq ?_
      obtain ⟨eb1, eo1, ea1, ek1, ef1, ee1, ec1, eO1, eH1⟩ := elem_sl (H1.seen 0 rfl) i (by omega)
      have eP1 := H1.look1 0 rfl eO1 eH1
      obtain ⟨eb2, eo2, ea2, ek2, ef2, ee2, ec2, eO2, eH2⟩ := elem_sl (eP1.seen 1 rfl) i (by omega)
      have eP2 := eP1.look1 1 rfl eO2 eH2
      refine W_drw (S := Ext No _) [(0, true), (1, true), (2, true), (3, true), (4, true), (5, true), (6, true), (7, true), (8, false), (9, false)] (by kernel_rfl) (by kernel_rfl) (by kernel_rfl) rfl (fun _ => Ext.refl.drawn _) (fun q1 => ?_)
      have H2 := eP2.drawn q1
      refine d_val rfl (wn rfl) rfl rfl (fun x hx => py_move rfl) (d_val rfl (wn rfl) rfl rfl (fun x hx => py_move rfl) (d_val rfl (wn rfl) rfl rfl (fun x hx => py_elz Try.underlying53 Try.sizeOf54 rfl rfl ee1 i (by omega) (by omega)) (d_val rfl (wn rfl) rfl rfl (fun x hx => py_load Try.underlying54 rfl rfl (hx.cell ec1)) (d_val rfl (wn rfl) rfl rfl (fun x hx => py_move rfl) (d_val rfl (wn rfl) rfl rfl (fun x hx => py_move rfl) (d_val rfl (wn rfl) rfl rfl (fun x hx => py_elz Try.underlying53 Try.sizeOf54 rfl rfl ee2 i (by omega) (by omega)) (d_val rfl (wn rfl) rfl rfl (fun x hx => py_load Try.underlying54 rfl rfl (hx.cell ec2)) ?_)))))))
      refine d_call rfl (wn rfl) rfl rfl (pc_call Try.func126 rfl Try_nm126 rfl) (Try_laws_eqTicketS (H2.sees 2 rfl) (H2.sees 3 rfl) (by first | assumption | exact h0 _ | exact h1 _) (by first | assumption | exact h0 _ | exact h1 _)) (fun hS _ _ r _ => hS.trans r.1.no) (fun v1 w2 r1 => ?_)
      obtain ⟨e1, rfl⟩ := r1
      have H3 := H2.to e1
      refine d_end rfl (wn rfl) rfl rfl (py_not rfl) ?_
      refine d_nil ?_
      refine W_if rfl (fun c3 => ?_) (fun c3 => ?_)
      · exact absurd c3 (by simp)
      · refine W_skip ?_
        refine W_reg ?_
        refine s_val (wn rfl) rfl rfl (py_move rfl) (s_val (wn rfl) rfl rfl (py_add rfl rfl (in64 ⟨by omega, by omega⟩)) (s_val (wn rfl) rfl rfl (py_assign rfl) ?_))
        refine s_nil ?_
        refine ⟨i + 1, ⟨rfl, rfl, rfl, trivial⟩, ⟨(H3.ftake 2), by omega⟩, by dsimp only; omega⟩
    · refine W_exit ?_
      refine W_seq ?_
      refine W_reg ?_
      refine s_val (wn rfl) rfl rfl (py_assign rfl) ?_
      refine s_nil ?_
      refine W_ret (hQ _ _ (fin1 Try.results125 rfl ?_))
      exact ⟨H1.ext, rfl⟩
theorem Try_laws_markDesk {w : World} {d : Desk} {dA0 : Option Addr} {dC0 : Nat} {dA1 : Option Addr} {dC1 : Nat} {dA2 : Option Addr} {dC2 : Nat} {k : Int} (dK : d.Ok) (dS0 : Sees w [.slice dA0 d.Queues.length dC0] d.Queues) (dS1 : Sees w [.slice dA1 d.Aside.length dC1] d.Aside) (dS2 : Sees w [.slice dA2 d.Answers.length dC2] d.Answers) (hk : 0 ≤ k) (hd : d.bare) : Ret Try.prog 86 #[d.val dA0 dC0 dA1 dC1 dA2 dC2, .int .i64 k] w fun v w' => Ext No w w' ∧ (v = .int .i64 k) := by
  have dK2 := dK
  unfold Desk.Ok I64ok at dK2
  try unfold maxLen at dK2
  have dL0 := sees_len dS0
  unfold maxLen at dL0
  obtain ⟨dF0, dO0⟩ := dS0
  have dL1 := sees_len dS1
  unfold maxLen at dL1
  obtain ⟨dF1, dO1⟩ := dS1
  have dL2 := sees_len dS2
  unfold maxLen at dL2
  obtain ⟨dF2, dO2⟩ := dS2
  obtain ⟨h1, h2, h3⟩ := hd
  refine ret_Q (vs := [d.val dA0 dC0 dA1 dC1 dA2 dC2, .int .i64 k]) Try.func86 rfl Try.ntmps86 rfl (fun Q hQ hN => ?_)
  have H0 := Sep.start (w := w) (F := [seen false [.slice dA0 d.Queues.length dC0] d.Queues dF0, seen false [.slice dA1 d.Aside.length dC1] d.Aside dF1, seen false [.slice dA2 d.Answers.length dC2] d.Answers dF2]) (all_cons dO0 (all_cons dO1 (all_cons dO2 (by simp))))
  refine W_seq ?_
  refine W_reg ?_
  refine s_box (wn rfl) rfl rfl H0 (fun b1 w1 e1 g1 H1 => ?_)
  refine s_val (wn rfl) rfl rfl (py_assign rfl) ?_
  refine s_nil ?_
  refine W_seq ?_
  refine W_reg ?_
  refine s_val (wn rfl) rfl rfl (py_field Try.underlying57 rfl Try.sizeOf53 rfl rfl) (s_val (wn rfl) rfl rfl (py_load Try.underlying53 rfl rfl (cell_atL (H1.box 0 rfl) rfl)) (s_val (wn rfl) rfl rfl (py_move rfl) ?_))
  refine s_call (wn rfl) rfl rfl (pc_call Try.func139 rfl Try_nm139 rfl) (Try_laws_markTicketSS (H1.sees 0 rfl) (by omega) (by assumption)) (fun v1 w2 r1 => ?_)
  obtain ⟨e2, rfl⟩ := r1
  have H2 := H1.to e2
  refine s_val (wn rfl) rfl rfl (py_assign rfl) ?_
  refine s_nil ?_
  refine W_seq ?_
  refine W_reg ?_
  refine s_val (wn rfl) rfl rfl (py_field Try.underlying57 rfl Try.sizeOf54 rfl rfl) (s_val (wn rfl) rfl rfl (py_load Try.underlying54 rfl rfl (cell_atL (H2.box 0 rfl) rfl)) (s_val (wn rfl) rfl rfl (py_move rfl) ?_))
  refine s_call (wn rfl) rfl rfl (pc_call Try.func140 rfl Try_nm140 rfl) (Try_laws_markTicketS (H2.sees 1 rfl) (by first | assumption | exact h0 _ | exact h1 _)) (fun v2 w3 r2 => ?_)
  obtain ⟨e3, rfl⟩ := r2
  have H3 := H2.to e3
  refine s_val (wn rfl) rfl rfl (py_assign rfl) ?_
  refine s_nil ?_
  refine W_seq ?_
  refine W_reg ?_
  refine s_val (wn rfl) rfl rfl (py_field Try.underlying57 rfl Try.sizeOf55 rfl rfl) (s_val (wn rfl) rfl rfl (py_load Try.underlying55 rfl rfl (cell_atL (H3.box 0 rfl) rfl)) (s_val (wn rfl) rfl rfl (py_move rfl) ?_))
  refine s_call (wn rfl) rfl rfl (pc_call Try.func141 rfl Try_nm141 rfl) (Try_laws_markAnswerS (H3.sees 2 rfl) (by first | assumption | exact h0 _ | exact h1 _)) (fun v3 w4 r3 => ?_)
  obtain ⟨e4, rfl⟩ := r3
  have H4 := H3.to e4
  refine s_val (wn rfl) rfl rfl (py_assign rfl) ?_
  refine s_nil ?_
  refine W_seq ?_
  refine W_reg ?_
  refine s_val (wn rfl) rfl rfl (py_move rfl) (s_val (wn rfl) rfl rfl (py_assign rfl) ?_)
  refine s_nil ?_
  refine W_ret (hQ _ _ (fin1 Try.results86 rfl ?_))
  exact ⟨H4.ext, rfl⟩
theorem Try_laws_markDeskResult {w : World} {r : DeskResult} {rA1 : Option Addr} {rC1 : Nat} {rA2 : Option Addr} {rC2 : Nat} {rA3 : Option Addr} {rC3 : Nat} {k : Int} (rK : r.Ok) (rS1 : Sees w [.slice rA1 r.Desk.Queues.length rC1] r.Desk.Queues) (rS2 : Sees w [.slice rA2 r.Desk.Aside.length rC2] r.Desk.Aside) (rS3 : Sees w [.slice rA3 r.Desk.Answers.length rC3] r.Desk.Answers) (hk : 0 ≤ k) (hd : r.Desk.bare) : Ret Try.prog 36 #[r.val rA1 rC1 rA2 rC2 rA3 rC3, .int .i64 k] w fun v w' => Ext No w w' ∧ (v = .int .i64 k) := by
  have rK2 := rK
  unfold DeskResult.Ok Desk.Ok I64ok at rK2
  try unfold maxLen at rK2
  have rL1 := sees_len rS1
  unfold maxLen at rL1
  obtain ⟨rF1, rO1⟩ := rS1
  have rL2 := sees_len rS2
  unfold maxLen at rL2
  obtain ⟨rF2, rO2⟩ := rS2
  have rL3 := sees_len rS3
  unfold maxLen at rL3
  obtain ⟨rF3, rO3⟩ := rS3
  have rD : r.Desk.Ok := rK.2
  refine ret_Q (vs := [r.val rA1 rC1 rA2 rC2 rA3 rC3, .int .i64 k]) Try.func36 rfl Try.ntmps36 rfl (fun Q hQ hN => ?_)
  have H0 := Sep.start (w := w) (F := [seen false [.slice rA1 r.Desk.Queues.length rC1] r.Desk.Queues rF1, seen false [.slice rA2 r.Desk.Aside.length rC2] r.Desk.Aside rF2, seen false [.slice rA3 r.Desk.Answers.length rC3] r.Desk.Answers rF3]) (all_cons rO1 (all_cons rO2 (all_cons rO3 (by simp))))
  refine W_seq ?_
  refine W_reg ?_
  refine s_box (wn rfl) rfl rfl H0 (fun b1 w1 e1 g1 H1 => ?_)
  refine s_val (wn rfl) rfl rfl (py_assign rfl) ?_
  refine s_nil ?_
  refine W_seq ?_
  refine W_reg ?_
  refine s_val (wn rfl) rfl rfl (py_field Try.underlying59 rfl Try.sizeOf57 rfl rfl) (s_val (wn rfl) rfl rfl (py_loadS Try.underlying57 rfl Try.sizeOf57 rfl rfl (At.sub (H1.box 0 rfl) 5)) (s_val (wn rfl) rfl rfl (py_move rfl) ?_))
  refine s_call (wn rfl) rfl rfl (pc_call Try.func86 rfl Try_nm86 rfl) (Try_laws_markDesk (by assumption) (H1.sees 0 rfl) (H1.sees 1 rfl) (H1.sees 2 rfl) (by omega) (by assumption)) (fun v1 w2 r1 => ?_)
  obtain ⟨e2, rfl⟩ := r1
  have H2 := H1.to e2
  refine s_val (wn rfl) rfl rfl (py_assign rfl) ?_
  refine s_nil ?_
  refine W_seq ?_
  refine W_reg ?_
  refine s_val (wn rfl) rfl rfl (py_move rfl) (s_val (wn rfl) rfl rfl (py_assign rfl) ?_)
  refine s_nil ?_
  refine W_ret (hQ _ _ (fin1 Try.results36 rfl ?_))
  exact ⟨H2.ext, rfl⟩
theorem Try_laws_heldDesk {w : World} {d : Desk} {dA0 : Option Addr} {dC0 : Nat} {dA1 : Option Addr} {dC1 : Nat} {dA2 : Option Addr} {dC2 : Nat} {k : Int} (dK : d.Ok) (dS0 : Sees w [.slice dA0 d.Queues.length dC0] d.Queues) (dS1 : Sees w [.slice dA1 d.Aside.length dC1] d.Aside) (dS2 : Sees w [.slice dA2 d.Answers.length dC2] d.Answers) (hk : 0 ≤ k) (hd : d.bare) : Ret Try.prog 87 #[d.val dA0 dC0 dA1 dC1 dA2 dC2, .int .i64 k] w fun v w' => Ext No w w' ∧ (v = .int .i64 k) := by
  have dK2 := dK
  unfold Desk.Ok I64ok at dK2
  try unfold maxLen at dK2
  have dL0 := sees_len dS0
  unfold maxLen at dL0
  obtain ⟨dF0, dO0⟩ := dS0
  have dL1 := sees_len dS1
  unfold maxLen at dL1
  obtain ⟨dF1, dO1⟩ := dS1
  have dL2 := sees_len dS2
  unfold maxLen at dL2
  obtain ⟨dF2, dO2⟩ := dS2
  obtain ⟨h1, h2, h3⟩ := hd
  refine ret_Q (vs := [d.val dA0 dC0 dA1 dC1 dA2 dC2, .int .i64 k]) Try.func87 rfl Try.ntmps87 rfl (fun Q hQ hN => ?_)
  have H0 := Sep.start (w := w) (F := [seen false [.slice dA0 d.Queues.length dC0] d.Queues dF0, seen false [.slice dA1 d.Aside.length dC1] d.Aside dF1, seen false [.slice dA2 d.Answers.length dC2] d.Answers dF2]) (all_cons dO0 (all_cons dO1 (all_cons dO2 (by simp))))
  refine W_seq ?_
  refine W_reg ?_
  refine s_box (wn rfl) rfl rfl H0 (fun b1 w1 e1 g1 H1 => ?_)
  refine s_val (wn rfl) rfl rfl (py_assign rfl) ?_
  refine s_nil ?_
  refine W_seq ?_
  refine W_reg ?_
  refine s_val (wn rfl) rfl rfl (py_field Try.underlying57 rfl Try.sizeOf53 rfl rfl) (s_val (wn rfl) rfl rfl (py_load Try.underlying53 rfl rfl (cell_atL (H1.box 0 rfl) rfl)) (s_val (wn rfl) rfl rfl (py_move rfl) ?_))
  refine s_call (wn rfl) rfl rfl (pc_call Try.func142 rfl Try_nm142 rfl) (Try_laws_heldTicketSS (H1.sees 0 rfl) (by omega) (by assumption)) (fun v1 w2 r1 => ?_)
  obtain ⟨e2, rfl⟩ := r1
  have H2 := H1.to e2
  refine s_val (wn rfl) rfl rfl (py_assign rfl) ?_
  refine s_nil ?_
  refine W_seq ?_
  refine W_seq ?_
  refine W_reg ?_
  refine s_val (wn rfl) rfl rfl (py_move rfl) (s_val (wn rfl) rfl rfl (py_lss rfl rfl) ?_)
  refine s_nil ?_
  refine W_ifd rfl (fun c1 => ?_) (fun c1 => ?_)
  · exact absurd c1 (by omega)
  · refine W_skip ?_
    refine W_seq ?_
    refine W_reg ?_
    refine s_val (wn rfl) rfl rfl (py_field Try.underlying57 rfl Try.sizeOf54 rfl rfl) (s_val (wn rfl) rfl rfl (py_load Try.underlying54 rfl rfl (cell_atL (H2.box 0 rfl) rfl)) (s_val (wn rfl) rfl rfl (py_move rfl) ?_))
    refine s_call (wn rfl) rfl rfl (pc_call Try.func143 rfl Try_nm143 rfl) (Try_laws_heldTicketS (H2.sees 1 rfl) (by first | assumption | exact h0 _ | exact h1 _)) (fun v2 w3 r2 => ?_)
    obtain ⟨e3, rfl⟩ := r2
    have H3 := H2.to e3
    refine s_val (wn rfl) rfl rfl (py_assign rfl) ?_
    refine s_nil ?_
    refine W_seq ?_
    refine W_seq ?_
    refine W_reg ?_
    refine s_val (wn rfl) rfl rfl (py_move rfl) (s_val (wn rfl) rfl rfl (py_lss rfl rfl) ?_)
    refine s_nil ?_
    refine W_ifd rfl (fun c2 => ?_) (fun c2 => ?_)
    · exact absurd c2 (by omega)
    · refine W_skip ?_
      refine W_seq ?_
      refine W_reg ?_
      refine s_val (wn rfl) rfl rfl (py_field Try.underlying57 rfl Try.sizeOf55 rfl rfl) (s_val (wn rfl) rfl rfl (py_load Try.underlying55 rfl rfl (cell_atL (H3.box 0 rfl) rfl)) (s_val (wn rfl) rfl rfl (py_move rfl) ?_))
      refine s_call (wn rfl) rfl rfl (pc_call Try.func144 rfl Try_nm144 rfl) (Try_laws_heldAnswerS (H3.sees 2 rfl) (by first | assumption | exact h0 _ | exact h1 _)) (fun v3 w4 r3 => ?_)
      obtain ⟨e4, rfl⟩ := r3
      have H4 := H3.to e4
      refine s_val (wn rfl) rfl rfl (py_assign rfl) ?_
      refine s_nil ?_
      refine W_seq ?_
      refine W_seq ?_
      refine W_reg ?_
      refine s_val (wn rfl) rfl rfl (py_move rfl) (s_val (wn rfl) rfl rfl (py_lss rfl rfl) ?_)
      refine s_nil ?_
      refine W_ifd rfl (fun c3 => ?_) (fun c3 => ?_)
      · exact absurd c3 (by omega)
      · refine W_skip ?_
        refine W_seq ?_
        refine W_reg ?_
        refine s_val (wn rfl) rfl rfl (py_move rfl) (s_val (wn rfl) rfl rfl (py_assign rfl) ?_)
        refine s_nil ?_
        refine W_ret (hQ _ _ (fin1 Try.results87 rfl ?_))
        exact ⟨H4.ext, rfl⟩
theorem Try_laws_heldDeskResult {w : World} {r : DeskResult} {rA1 : Option Addr} {rC1 : Nat} {rA2 : Option Addr} {rC2 : Nat} {rA3 : Option Addr} {rC3 : Nat} {k : Int} (rK : r.Ok) (rS1 : Sees w [.slice rA1 r.Desk.Queues.length rC1] r.Desk.Queues) (rS2 : Sees w [.slice rA2 r.Desk.Aside.length rC2] r.Desk.Aside) (rS3 : Sees w [.slice rA3 r.Desk.Answers.length rC3] r.Desk.Answers) (hk : 0 ≤ k) (hd : r.Desk.bare) : Ret Try.prog 37 #[r.val rA1 rC1 rA2 rC2 rA3 rC3, .int .i64 k] w fun v w' => Ext No w w' ∧ (v = .int .i64 k) := by
  have rK2 := rK
  unfold DeskResult.Ok Desk.Ok I64ok at rK2
  try unfold maxLen at rK2
  have rL1 := sees_len rS1
  unfold maxLen at rL1
  obtain ⟨rF1, rO1⟩ := rS1
  have rL2 := sees_len rS2
  unfold maxLen at rL2
  obtain ⟨rF2, rO2⟩ := rS2
  have rL3 := sees_len rS3
  unfold maxLen at rL3
  obtain ⟨rF3, rO3⟩ := rS3
  have rD : r.Desk.Ok := rK.2
  refine ret_Q (vs := [r.val rA1 rC1 rA2 rC2 rA3 rC3, .int .i64 k]) Try.func37 rfl Try.ntmps37 rfl (fun Q hQ hN => ?_)
  have H0 := Sep.start (w := w) (F := [seen false [.slice rA1 r.Desk.Queues.length rC1] r.Desk.Queues rF1, seen false [.slice rA2 r.Desk.Aside.length rC2] r.Desk.Aside rF2, seen false [.slice rA3 r.Desk.Answers.length rC3] r.Desk.Answers rF3]) (all_cons rO1 (all_cons rO2 (all_cons rO3 (by simp))))
  refine W_seq ?_
  refine W_reg ?_
  refine s_box (wn rfl) rfl rfl H0 (fun b1 w1 e1 g1 H1 => ?_)
  refine s_val (wn rfl) rfl rfl (py_assign rfl) ?_
  refine s_nil ?_
  refine W_seq ?_
  refine W_reg ?_
  refine s_val (wn rfl) rfl rfl (py_field Try.underlying59 rfl Try.sizeOf57 rfl rfl) (s_val (wn rfl) rfl rfl (py_loadS Try.underlying57 rfl Try.sizeOf57 rfl rfl (At.sub (H1.box 0 rfl) 5)) (s_val (wn rfl) rfl rfl (py_move rfl) ?_))
  refine s_call (wn rfl) rfl rfl (pc_call Try.func87 rfl Try_nm87 rfl) (Try_laws_heldDesk (by assumption) (H1.sees 0 rfl) (H1.sees 1 rfl) (H1.sees 2 rfl) (by omega) (by assumption)) (fun v1 w2 r1 => ?_)
  obtain ⟨e2, rfl⟩ := r1
  have H2 := H1.to e2
  refine s_val (wn rfl) rfl rfl (py_assign rfl) ?_
  refine s_nil ?_
  refine W_seq ?_
  refine W_seq ?_
  refine W_reg ?_
  refine s_val (wn rfl) rfl rfl (py_move rfl) (s_val (wn rfl) rfl rfl (py_lss rfl rfl) ?_)
  refine s_nil ?_
  refine W_ifd rfl (fun c1 => ?_) (fun c1 => ?_)
  · exact absurd c1 (by omega)
  · refine W_skip ?_
    refine W_seq ?_
    refine W_reg ?_
    refine s_val (wn rfl) rfl rfl (py_move rfl) (s_val (wn rfl) rfl rfl (py_assign rfl) ?_)
    refine s_nil ?_
    refine W_ret (hQ _ _ (fin1 Try.results37 rfl ?_))
    exact ⟨H2.ext, rfl⟩
theorem Try_laws_eqDesk {w : World} {a : Desk} {aA0 : Option Addr} {aC0 : Nat} {aA1 : Option Addr} {aC1 : Nat} {aA2 : Option Addr} {aC2 : Nat} {b : Desk} {bA0 : Option Addr} {bC0 : Nat} {bA1 : Option Addr} {bC1 : Nat} {bA2 : Option Addr} {bC2 : Nat} (aK : a.Ok) (aS0 : Sees w [.slice aA0 a.Queues.length aC0] a.Queues) (aS1 : Sees w [.slice aA1 a.Aside.length aC1] a.Aside) (aS2 : Sees w [.slice aA2 a.Answers.length aC2] a.Answers) (bK : b.Ok) (bS0 : Sees w [.slice bA0 b.Queues.length bC0] b.Queues) (bS1 : Sees w [.slice bA1 b.Aside.length bC1] b.Aside) (bS2 : Sees w [.slice bA2 b.Answers.length bC2] b.Answers) (hab : a = b) (hd : a.bare) : Ret Try.prog 67 #[a.val aA0 aC0 aA1 aC1 aA2 aC2, b.val bA0 bC0 bA1 bC1 bA2 bC2] w fun v w' => Ext No w w' ∧ (v = .bool true) := by
  have aK2 := aK
  unfold Desk.Ok I64ok at aK2
  try unfold maxLen at aK2
  have aL0 := sees_len aS0
  unfold maxLen at aL0
  obtain ⟨aF0, aO0⟩ := aS0
  have aL1 := sees_len aS1
  unfold maxLen at aL1
  obtain ⟨aF1, aO1⟩ := aS1
  have aL2 := sees_len aS2
  unfold maxLen at aL2
  obtain ⟨aF2, aO2⟩ := aS2
  have bK2 := bK
  unfold Desk.Ok I64ok at bK2
  try unfold maxLen at bK2
  have bL0 := sees_len bS0
  unfold maxLen at bL0
  obtain ⟨bF0, bO0⟩ := bS0
  have bL1 := sees_len bS1
  unfold maxLen at bL1
  obtain ⟨bF1, bO1⟩ := bS1
  have bL2 := sees_len bS2
  unfold maxLen at bL2
  obtain ⟨bF2, bO2⟩ := bS2
  have hb : b.bare := hab ▸ hd
  obtain ⟨a1, a2, a3⟩ := hd
  obtain ⟨c1, c2, c3⟩ := hb
  have q1 : a.Queues.length = b.Queues.length := by rw [hab]
  have q2 : a.Turn = b.Turn := by rw [hab]
  have q3 : a.Next = b.Next := by rw [hab]
  refine ret_Q (vs := [a.val aA0 aC0 aA1 aC1 aA2 aC2, b.val bA0 bC0 bA1 bC1 bA2 bC2]) Try.func67 rfl Try.ntmps67 rfl (fun Q hQ hN => ?_)
  have H0 := Sep.start (w := w) (F := [seen false [.slice aA0 a.Queues.length aC0] a.Queues aF0, seen false [.slice aA1 a.Aside.length aC1] a.Aside aF1, seen false [.slice aA2 a.Answers.length aC2] a.Answers aF2, seen false [.slice bA0 b.Queues.length bC0] b.Queues bF0, seen false [.slice bA1 b.Aside.length bC1] b.Aside bF1, seen false [.slice bA2 b.Answers.length bC2] b.Answers bF2]) (all_cons aO0 (all_cons aO1 (all_cons aO2 (all_cons bO0 (all_cons bO1 (all_cons bO2 (by simp)))))))
  refine W_seq ?_
  refine W_reg ?_
  refine s_box (wn rfl) rfl rfl H0 (fun b1 w1 e1 g1 H1 => ?_)
  refine s_box (wn rfl) rfl rfl H1 (fun b2 w2 e2 g2 H2 => ?_)
  refine s_val (wn rfl) rfl rfl (py_assign rfl) ?_
  refine s_nil ?_
  refine W_seq ?_
  refine W_seq ?_
  refine W_reg ?_
  refine s_val (wn rfl) rfl rfl (py_field Try.underlying57 rfl Try.sizeOf53 rfl rfl) (s_val (wn rfl) rfl rfl (py_load Try.underlying53 rfl rfl (cell_atL (H2.box 0 rfl) rfl)) (s_val (wn rfl) rfl rfl (py_field Try.underlying57 rfl Try.sizeOf53 rfl rfl) (s_val (wn rfl) rfl rfl (py_load Try.underlying53 rfl rfl (cell_atL (H2.box 1 rfl) rfl)) ?_)))
  refine s_call (wn rfl) rfl rfl (pc_call Try.func125 rfl Try_nm125 rfl) (Try_laws_eqTicketSS (H2.sees 0 rfl) (H2.sees 3 rfl) (by omega) (by assumption) (by assumption)) (fun v1 w3 r1 => ?_)
  obtain ⟨e3, rfl⟩ := r1
  have H3 := H2.to e3
  refine s_val (wn rfl) rfl rfl (py_not rfl) ?_
  refine s_nil ?_
  refine W_if rfl (fun c1 => ?_) (fun c1 => ?_)
  · exact absurd c1 (by simp)
  · refine W_skip ?_
    refine W_seq ?_
    refine W_seq ?_
    refine W_reg ?_
    refine s_val (wn rfl) rfl rfl (py_field Try.underlying57 rfl Try.sizeOf54 rfl rfl) (s_val (wn rfl) rfl rfl (py_load Try.underlying54 rfl rfl (cell_atL (H3.box 0 rfl) rfl)) (s_val (wn rfl) rfl rfl (py_field Try.underlying57 rfl Try.sizeOf54 rfl rfl) (s_val (wn rfl) rfl rfl (py_load Try.underlying54 rfl rfl (cell_atL (H3.box 1 rfl) rfl)) ?_)))
    refine s_call (wn rfl) rfl rfl (pc_call Try.func126 rfl Try_nm126 rfl) (Try_laws_eqTicketS (H3.sees 1 rfl) (H3.sees 4 rfl) (by first | assumption | exact h0 _ | exact h1 _) (by first | assumption | exact h0 _ | exact h1 _)) (fun v2 w4 r2 => ?_)
    obtain ⟨e4, rfl⟩ := r2
    have H4 := H3.to e4
    refine s_val (wn rfl) rfl rfl (py_not rfl) ?_
    refine s_nil ?_
    refine W_if rfl (fun c2 => ?_) (fun c2 => ?_)
    · exact absurd c2 (by simp)
    · refine W_skip ?_
      refine W_seq ?_
      refine W_seq ?_
      refine W_reg ?_
      refine s_val (wn rfl) rfl rfl (py_field Try.underlying57 rfl Try.sizeOf55 rfl rfl) (s_val (wn rfl) rfl rfl (py_load Try.underlying55 rfl rfl (cell_atL (H4.box 0 rfl) rfl)) (s_val (wn rfl) rfl rfl (py_field Try.underlying57 rfl Try.sizeOf55 rfl rfl) (s_val (wn rfl) rfl rfl (py_load Try.underlying55 rfl rfl (cell_atL (H4.box 1 rfl) rfl)) ?_)))
      refine s_call (wn rfl) rfl rfl (pc_call Try.func127 rfl Try_nm127 rfl) (Try_laws_eqAnswerS (H4.sees 2 rfl) (H4.sees 5 rfl) (by first | assumption | exact h0 _ | exact h1 _) (by first | assumption | exact h0 _ | exact h1 _)) (fun v3 w5 r3 => ?_)
      obtain ⟨e5, rfl⟩ := r3
      have H5 := H4.to e5
      refine s_val (wn rfl) rfl rfl (py_not rfl) ?_
      refine s_nil ?_
      refine W_if rfl (fun c3 => ?_) (fun c3 => ?_)
      · exact absurd c3 (by simp)
      · refine W_skip ?_
        refine W_seq ?_
        refine W_seq ?_
        refine W_reg ?_
        refine s_val (wn rfl) rfl rfl (py_field Try.underlying57 rfl Try.sizeOf2 rfl rfl) (s_val (wn rfl) rfl rfl (py_load Try.underlying2 rfl rfl (cell_atL (H5.box 0 rfl) rfl)) (s_val (wn rfl) rfl rfl (py_field Try.underlying57 rfl Try.sizeOf2 rfl rfl) (s_val (wn rfl) rfl rfl (py_load Try.underlying2 rfl rfl (cell_atL (H5.box 1 rfl) rfl)) (s_val (wn rfl) rfl rfl (py_neq rfl rfl) ?_))))
        refine s_nil ?_
        refine W_ifd rfl (fun c4 => ?_) (fun c4 => ?_)
        · exact absurd c4 (by omega)
        · refine W_skip ?_
          refine W_seq ?_
          refine W_seq ?_
          refine W_reg ?_
          refine s_val (wn rfl) rfl rfl (py_field Try.underlying57 rfl Try.sizeOf2 rfl rfl) (s_val (wn rfl) rfl rfl (py_load Try.underlying2 rfl rfl (cell_atL (H5.box 0 rfl) rfl)) (s_val (wn rfl) rfl rfl (py_field Try.underlying57 rfl Try.sizeOf2 rfl rfl) (s_val (wn rfl) rfl rfl (py_load Try.underlying2 rfl rfl (cell_atL (H5.box 1 rfl) rfl)) (s_val (wn rfl) rfl rfl (py_neq rfl rfl) ?_))))
          refine s_nil ?_
          refine W_ifd rfl (fun c5 => ?_) (fun c5 => ?_)
          · exact absurd c5 (by omega)
          · refine W_skip ?_
            refine W_seq ?_
            refine W_reg ?_
            refine s_val (wn rfl) rfl rfl (py_assign rfl) ?_
            refine s_nil ?_
            refine W_ret (hQ _ _ (fin1 Try.results67 rfl ?_))
            exact ⟨H5.ext, rfl⟩
theorem Try_laws_eqDeskResult {w : World} {a : DeskResult} {aA1 : Option Addr} {aC1 : Nat} {aA2 : Option Addr} {aC2 : Nat} {aA3 : Option Addr} {aC3 : Nat} {b : DeskResult} {bA1 : Option Addr} {bC1 : Nat} {bA2 : Option Addr} {bC2 : Nat} {bA3 : Option Addr} {bC3 : Nat} (aK : a.Ok) (aS1 : Sees w [.slice aA1 a.Desk.Queues.length aC1] a.Desk.Queues) (aS2 : Sees w [.slice aA2 a.Desk.Aside.length aC2] a.Desk.Aside) (aS3 : Sees w [.slice aA3 a.Desk.Answers.length aC3] a.Desk.Answers) (bK : b.Ok) (bS1 : Sees w [.slice bA1 b.Desk.Queues.length bC1] b.Desk.Queues) (bS2 : Sees w [.slice bA2 b.Desk.Aside.length bC2] b.Desk.Aside) (bS3 : Sees w [.slice bA3 b.Desk.Answers.length bC3] b.Desk.Answers) (hab : a = b) (hd : a.Desk.bare) : Ret Try.prog 35 #[a.val aA1 aC1 aA2 aC2 aA3 aC3, b.val bA1 bC1 bA2 bC2 bA3 bC3] w fun v w' => Ext No w w' ∧ (v = .bool true) := by
  have aK2 := aK
  unfold DeskResult.Ok Desk.Ok I64ok at aK2
  try unfold maxLen at aK2
  have aL1 := sees_len aS1
  unfold maxLen at aL1
  obtain ⟨aF1, aO1⟩ := aS1
  have aL2 := sees_len aS2
  unfold maxLen at aL2
  obtain ⟨aF2, aO2⟩ := aS2
  have aL3 := sees_len aS3
  unfold maxLen at aL3
  obtain ⟨aF3, aO3⟩ := aS3
  have bK2 := bK
  unfold DeskResult.Ok Desk.Ok I64ok at bK2
  try unfold maxLen at bK2
  have bL1 := sees_len bS1
  unfold maxLen at bL1
  obtain ⟨bF1, bO1⟩ := bS1
  have bL2 := sees_len bS2
  unfold maxLen at bL2
  obtain ⟨bF2, bO2⟩ := bS2
  have bL3 := sees_len bS3
  unfold maxLen at bL3
  obtain ⟨bF3, bO3⟩ := bS3
  have aD : a.Desk.Ok := aK.2
  have bD : b.Desk.Ok := bK.2
  have q1 : a.Desk = b.Desk := by rw [hab]
  have q2 : a.Code = b.Code := by rw [hab]
  refine ret_Q (vs := [a.val aA1 aC1 aA2 aC2 aA3 aC3, b.val bA1 bC1 bA2 bC2 bA3 bC3]) Try.func35 rfl Try.ntmps35 rfl (fun Q hQ hN => ?_)
  have H0 := Sep.start (w := w) (F := [seen false [.slice aA1 a.Desk.Queues.length aC1] a.Desk.Queues aF1, seen false [.slice aA2 a.Desk.Aside.length aC2] a.Desk.Aside aF2, seen false [.slice aA3 a.Desk.Answers.length aC3] a.Desk.Answers aF3, seen false [.slice bA1 b.Desk.Queues.length bC1] b.Desk.Queues bF1, seen false [.slice bA2 b.Desk.Aside.length bC2] b.Desk.Aside bF2, seen false [.slice bA3 b.Desk.Answers.length bC3] b.Desk.Answers bF3]) (all_cons aO1 (all_cons aO2 (all_cons aO3 (all_cons bO1 (all_cons bO2 (all_cons bO3 (by simp)))))))
  refine W_seq ?_
  refine W_reg ?_
  refine s_box (wn rfl) rfl rfl H0 (fun b1 w1 e1 g1 H1 => ?_)
  refine s_box (wn rfl) rfl rfl H1 (fun b2 w2 e2 g2 H2 => ?_)
  refine s_val (wn rfl) rfl rfl (py_assign rfl) ?_
  refine s_nil ?_
  refine W_seq ?_
  refine W_seq ?_
  refine W_reg ?_
  refine s_val (wn rfl) rfl rfl (py_field Try.underlying59 rfl Try.sizeOf2 rfl rfl) (s_val (wn rfl) rfl rfl (py_load Try.underlying2 rfl rfl (cell_atL (H2.box 0 rfl) rfl)) (s_val (wn rfl) rfl rfl (py_field Try.underlying59 rfl Try.sizeOf2 rfl rfl) (s_val (wn rfl) rfl rfl (py_load Try.underlying2 rfl rfl (cell_atL (H2.box 1 rfl) rfl)) (s_val (wn rfl) rfl rfl (py_neq rfl rfl) ?_))))
  refine s_nil ?_
  refine W_ifd rfl (fun c1 => ?_) (fun c1 => ?_)
  · exact absurd c1 (by omega)
  · refine W_skip ?_
    refine W_seq ?_
    refine W_seq ?_
    refine W_reg ?_
    refine s_val (wn rfl) rfl rfl (py_field Try.underlying59 rfl Try.sizeOf57 rfl rfl) (s_val (wn rfl) rfl rfl (py_loadS Try.underlying57 rfl Try.sizeOf57 rfl rfl (At.sub (H2.box 0 rfl) 5)) (s_val (wn rfl) rfl rfl (py_field Try.underlying59 rfl Try.sizeOf57 rfl rfl) (s_val (wn rfl) rfl rfl (py_loadS Try.underlying57 rfl Try.sizeOf57 rfl rfl (At.sub (H2.box 1 rfl) 5)) ?_)))
    refine s_call (wn rfl) rfl rfl (pc_call Try.func67 rfl Try_nm67 rfl) (Try_laws_eqDesk (by assumption) (H2.sees 0 rfl) (H2.sees 1 rfl) (H2.sees 2 rfl) (by assumption) (H2.sees 3 rfl) (H2.sees 4 rfl) (H2.sees 5 rfl) (by first | assumption | rfl) (by assumption)) (fun v1 w3 r1 => ?_)
    obtain ⟨e3, rfl⟩ := r1
    have H3 := H2.to e3
    refine s_val (wn rfl) rfl rfl (py_not rfl) ?_
    refine s_nil ?_
    refine W_if rfl (fun c2 => ?_) (fun c2 => ?_)
    · exact absurd c2 (by simp)
    · refine W_skip ?_
      refine W_seq ?_
      refine W_reg ?_
      refine s_val (wn rfl) rfl rfl (py_assign rfl) ?_
      refine s_nil ?_
      refine W_ret (hQ _ _ (fin1 Try.results35 rfl ?_))
      exact ⟨H3.ext, rfl⟩
theorem Try_spec_l5All_n {w : World} {s : Shape} {n : Nat} (hn : s.Groups + s.Column = n ∧ n ≤ 100) : Ret Try.prog 72 #[s.v] w fun v w' => Ext No w w' ∧ (v = .int .i64 n) := by
  refine ret_Q (vs := [s.v]) Try.func72 rfl Try.ntmps72 rfl (fun Q hQ hN => ?_)
  have H0 := Sep.start (w := w) (F := []) (by simp)
  refine W_seq ?_
  refine W_reg ?_
  refine s_box (wn rfl) rfl rfl H0 (fun b1 w1 e1 g1 H1 => ?_)
  refine s_val (wn rfl) rfl rfl (py_assign rfl) ?_
  refine s_nil ?_
  refine W_seq ?_
  have hn1 := hn.1
  have hn2 := hn.2
  refine W_reg ?_
  refine s_val (wn rfl) rfl rfl (py_field Try.underlying28 rfl Try.sizeOf2 rfl rfl) (s_val (wn rfl) rfl rfl (py_load Try.underlying2 rfl rfl (cell_atL (H1.box 0 rfl) rfl)) (s_val (wn rfl) rfl rfl (py_field Try.underlying28 rfl Try.sizeOf2 rfl rfl) (s_val (wn rfl) rfl rfl (py_load Try.underlying2 rfl rfl (cell_atL (H1.box 0 rfl) rfl)) (s_val (wn rfl) rfl rfl (py_add rfl rfl (in64 ⟨by omega, by omega⟩)) (s_val (wn rfl) rfl rfl (py_assign rfl) ?_)))))
  refine s_nil ?_
  refine W_ret (hQ _ _ (fin1 Try.results72 rfl ?_))
  exact ⟨H1.ext, congrArg (Value.int .i64) hn1⟩
theorem Try_impl_Shape_all_n {w : World} {s : Shape} {n : Nat} (hn : s.Groups + s.Column = n ∧ n ≤ 100) : Ret Try.prog 85 #[s.v] w fun v w' => Ext No w w' ∧ (v = .int .i64 n) := by
  refine ret_Q (vs := [s.v]) Try.func85 rfl Try.ntmps85 rfl (fun Q hQ hN => ?_)
  have H0 := Sep.start (w := w) (F := []) (by simp)
  refine W_seq ?_
  refine W_reg ?_
  refine s_box (wn rfl) rfl rfl H0 (fun b1 w1 e1 g1 H1 => ?_)
  refine s_val (wn rfl) rfl rfl (py_assign rfl) ?_
  refine s_nil ?_
  refine W_seq ?_
  have hn1 := hn.1
  have hn2 := hn.2
  refine W_reg ?_
  refine s_val (wn rfl) rfl rfl (py_field Try.underlying28 rfl Try.sizeOf2 rfl rfl) (s_val (wn rfl) rfl rfl (py_load Try.underlying2 rfl rfl (cell_atL (H1.box 0 rfl) rfl)) (s_val (wn rfl) rfl rfl (py_field Try.underlying28 rfl Try.sizeOf2 rfl rfl) (s_val (wn rfl) rfl rfl (py_load Try.underlying2 rfl rfl (cell_atL (H1.box 0 rfl) rfl)) (s_val (wn rfl) rfl rfl (py_add rfl rfl (in64 ⟨by omega, by omega⟩)) (s_val (wn rfl) rfl rfl (py_assign rfl) ?_)))))
  refine s_nil ?_
  refine W_ret (hQ _ _ (fin1 Try.results85 rfl ?_))
  exact ⟨H1.ext, congrArg (Value.int .i64) hn1⟩
theorem Try_impl_NewDesk {w : World} {s : Shape}  : Ret Try.prog 34 #[s.v] w fun v w' => Ext No w w' ∧ (∃ A1 C1 A2 C2 A3 C3, v = (newDesk s).val A1 C1 A2 C2 A3 C3 ∧ Res w w' [.int .i64 (newDesk s).Code, .slice A1 (newDesk s).Desk.Queues.length C1, .slice A2 (newDesk s).Desk.Aside.length C2, .slice A3 (newDesk s).Desk.Answers.length C3, .int .i64 (newDesk s).Desk.Turn, .int .i64 (newDesk s).Desk.Next] (newDesk s)) := by
  refine ret_Q (vs := [s.v]) Try.func34 rfl Try.ntmps34 rfl (fun Q hQ hN => ?_)
  have H0 := Sep.start (w := w) (F := []) (by simp)
  refine W_seq ?_
  refine W_reg ?_
  refine s_box (wn rfl) rfl rfl H0 (fun b1 w1 e1 g1 H1 => ?_)
  refine s_var (wn rfl) rfl Try.zeroValue59 H1 (fun b2 w2 e2 g2 H2 => ?_)
  refine s_nil ?_
  refine W_seq ?_
  refine W_seq ?_
  refine W_reg ?_
  refine s_val (wn rfl) rfl rfl (py_loadS Try.underlying28 rfl Try.sizeOf28 rfl rfl (At.whole (H2.box 0 rfl))) ?_
  refine s_call (wn rfl) rfl rfl (pc_call Try.func73 rfl Try_nm73 rfl) Try_impl_ShapeFault (fun v1 w3 r1 => ?_)
  obtain ⟨e3, rfl⟩ := r1
  have H3 := H2.to e3
  refine s_val (wn rfl) rfl rfl (py_assign rfl) ?_
  refine s_nil ?_
  refine W_seq ?_
  refine W_reg ?_
  refine s_val (wn rfl) rfl rfl (py_move rfl) (s_val (wn rfl) rfl rfl (py_neq rfl rfl) ?_)
  refine s_nil ?_
  refine W_ifd rfl (fun c1 => ?_) (fun c1 => ?_)
  · refine W_seq ?_
    refine W_reg ?_
    refine s_val (wn rfl) rfl rfl (py_move rfl) (s_val (wn rfl) rfl rfl (py_buildS Try_pl59 rfl rfl) ?_)
    refine s_stoS (wn rfl) Try.sizeOf59 rfl rfl rfl rfl H3 1 rfl rfl (fun w4 e4 H4 => ?_)
    dsimp only [List.nil_append, List.cons_append, List.set_cons_zero, List.set_cons_succ, layL] at H4
    refine s_nil ?_
    refine W_ret (hQ _ _ (finC Try.results34 rfl (run_loadVarS Try.underlying59 rfl Try.sizeOf59 rfl (At.whole (H4.box 1 rfl))) ?_))
    rw [newDesk_no c1]
    exact ⟨H4.ext, none, 0, none, 0, none, 0, rfl, _, DeskResult.own_mk (x := ⟨s.fault, ⟨[], [], [], 0, 0⟩⟩) (A1 := none) (C1 := 0) (A2 := none) (C2 := 0) (A3 := none) (C3 := 0) ⟨fault_ok s, by unfold Desk.Ok I64ok; dsimp only; omega⟩ (.inr (.inl ⟨rfl, rfl, rfl⟩)) (.inr (.inl ⟨rfl, rfl, rfl⟩)) (.inr (.inl ⟨rfl, rfl, rfl⟩)), by simp, by simp⟩
  · refine W_skip ?_
    refine W_seq ?_
    have bd := shape_bd (shapeFault_ok (s := s) (by omega))
    obtain ⟨n, hn⟩ : ∃ n : Nat, s.Groups + s.Column = n := ⟨(s.Groups + s.Column).toNat, by omega⟩
    refine W_reg ?_
    refine s_val (wn rfl) rfl rfl (py_loadS Try.underlying28 rfl Try.sizeOf28 rfl rfl (At.whole (H3.box 0 rfl))) ?_
    refine s_call (wn rfl) rfl rfl (pc_call Try.func85 rfl Try_nm85 rfl) (Try_impl_Shape_all_n ⟨hn, by omega⟩) (fun v2 w5 r2 => ?_)
    obtain ⟨e5, rfl⟩ := r2
    have H5 := H3.to e5
    refine s_make (wn rfl) rfl Try.underlying53 Try_ty54 (own_zs (α := Ticket)) rfl (by omega) (by unfold maxLen; omega) H5 (fun b3 w6 e6 g3 H6 => ?_)
    refine s_val (wn rfl) rfl rfl (py_buildS Try_pl57 rfl rfl) (s_val (wn rfl) rfl rfl (py_buildS Try_pl59 rfl rfl) ?_)
    refine s_stoS (wn rfl) Try.sizeOf59 rfl rfl rfl rfl H6 1 rfl rfl (fun w7 e7 H7 => ?_)
    dsimp only [List.nil_append, List.cons_append, List.set_cons_zero, List.set_cons_succ, layL] at H7
    refine s_nil ?_
    refine W_ret (hQ _ _ (finC Try.results34 rfl (run_loadVarS Try.underlying59 rfl Try.sizeOf59 rfl (At.whole (H7.box 1 rfl))) ?_))
    rw [newDesk_ok (by omega) hn]
    have hr := desk_out (H7.sub (.cons _ (.cons _ (.cons_cons _ List.Sublist.slnil)))) (k := 0) (t := 0) (m := 1) (by unfold I64ok; omega) (by simp)
    exact ⟨H7.ext, some ⟨b3, 0, none⟩, n, none, 0, none, 0, (by simp only [DeskResult.val, List.length_replicate]; rfl), hr⟩
theorem Try_spec_NewDesk {w : World} {s : Shape}  : Ret Try.prog 33 #[s.v] w fun v w' => Ext No w w' ∧ (∃ A1 C1 A2 C2 A3 C3, v = (newDesk s).val A1 C1 A2 C2 A3 C3 ∧ Res w w' [.int .i64 (newDesk s).Code, .slice A1 (newDesk s).Desk.Queues.length C1, .slice A2 (newDesk s).Desk.Aside.length C2, .slice A3 (newDesk s).Desk.Answers.length C3, .int .i64 (newDesk s).Desk.Turn, .int .i64 (newDesk s).Desk.Next] (newDesk s)) := by
  refine ret_Q (vs := [s.v]) Try.func33 rfl Try.ntmps33 rfl (fun Q hQ hN => ?_)
  have H0 := Sep.start (w := w) (F := []) (by simp)
  refine W_seq ?_
  refine W_reg ?_
  refine s_box (wn rfl) rfl rfl H0 (fun b1 w1 e1 g1 H1 => ?_)
  refine s_var (wn rfl) rfl Try.zeroValue59 H1 (fun b2 w2 e2 g2 H2 => ?_)
  refine s_nil ?_
  refine W_seq ?_
  refine W_seq ?_
  refine W_reg ?_
  refine s_val (wn rfl) rfl rfl (py_loadS Try.underlying28 rfl Try.sizeOf28 rfl rfl (At.whole (H2.box 0 rfl))) ?_
  refine s_call (wn rfl) rfl rfl (pc_call Try.func68 rfl Try_nm68 rfl) Try_spec_ShapeFault (fun v1 w3 r1 => ?_)
  obtain ⟨e3, rfl⟩ := r1
  have H3 := H2.to e3
  refine s_val (wn rfl) rfl rfl (py_assign rfl) ?_
  refine s_nil ?_
  refine W_seq ?_
  refine W_reg ?_
  refine s_val (wn rfl) rfl rfl (py_move rfl) (s_val (wn rfl) rfl rfl (py_neq rfl rfl) ?_)
  refine s_nil ?_
  refine W_ifd rfl (fun c1 => ?_) (fun c1 => ?_)
  · refine W_seq ?_
    refine W_reg ?_
    refine s_val (wn rfl) rfl rfl (py_move rfl) (s_val (wn rfl) rfl rfl (py_buildS Try_pl59 rfl rfl) ?_)
    refine s_stoS (wn rfl) Try.sizeOf59 rfl rfl rfl rfl H3 1 rfl rfl (fun w4 e4 H4 => ?_)
    dsimp only [List.nil_append, List.cons_append, List.set_cons_zero, List.set_cons_succ, layL] at H4
    refine s_nil ?_
    refine W_ret (hQ _ _ (finC Try.results33 rfl (run_loadVarS Try.underlying59 rfl Try.sizeOf59 rfl (At.whole (H4.box 1 rfl))) ?_))
    rw [newDesk_no c1]
    exact ⟨H4.ext, none, 0, none, 0, none, 0, rfl, _, DeskResult.own_mk (x := ⟨s.fault, ⟨[], [], [], 0, 0⟩⟩) (A1 := none) (C1 := 0) (A2 := none) (C2 := 0) (A3 := none) (C3 := 0) ⟨fault_ok s, by unfold Desk.Ok I64ok; dsimp only; omega⟩ (.inr (.inl ⟨rfl, rfl, rfl⟩)) (.inr (.inl ⟨rfl, rfl, rfl⟩)) (.inr (.inl ⟨rfl, rfl, rfl⟩)), by simp, by simp⟩
  · refine W_skip ?_
    refine W_seq ?_
    have bd := shape_bd (shapeFault_ok (s := s) (by omega))
    obtain ⟨n, hn⟩ : ∃ n : Nat, s.Groups + s.Column = n := ⟨(s.Groups + s.Column).toNat, by omega⟩
    refine W_reg ?_
    refine s_val (wn rfl) rfl rfl (py_loadS Try.underlying28 rfl Try.sizeOf28 rfl rfl (At.whole (H3.box 0 rfl))) ?_
    refine s_call (wn rfl) rfl rfl (pc_call Try.func72 rfl Try_nm72 rfl) (Try_spec_l5All_n ⟨hn, by omega⟩) (fun v2 w5 r2 => ?_)
    obtain ⟨e5, rfl⟩ := r2
    have H5 := H3.to e5
    refine s_make (wn rfl) rfl Try.underlying53 Try_ty54 (own_zs (α := Ticket)) rfl (by omega) (by unfold maxLen; omega) H5 (fun b3 w6 e6 g3 H6 => ?_)
    refine s_val (wn rfl) rfl rfl (py_buildS Try_pl57 rfl rfl) (s_val (wn rfl) rfl rfl (py_buildS Try_pl59 rfl rfl) ?_)
    refine s_stoS (wn rfl) Try.sizeOf59 rfl rfl rfl rfl H6 1 rfl rfl (fun w7 e7 H7 => ?_)
    dsimp only [List.nil_append, List.cons_append, List.set_cons_zero, List.set_cons_succ, layL] at H7
    refine s_nil ?_
    refine W_ret (hQ _ _ (finC Try.results33 rfl (run_loadVarS Try.underlying59 rfl Try.sizeOf59 rfl (At.whole (H7.box 1 rfl))) ?_))
    rw [newDesk_ok (by omega) hn]
    have hr := desk_out (H7.sub (.cons _ (.cons _ (.cons_cons _ List.Sublist.slnil)))) (k := 0) (t := 0) (m := 1) (by unfold I64ok; omega) (by simp)
    exact ⟨H7.ext, some ⟨b3, 0, none⟩, n, none, 0, none, 0, (by simp only [DeskResult.val, List.length_replicate]; rfl), hr⟩
theorem Try_laws_FnExactNewDesk {w : World} {s : Shape} (sK : s.Ok) : Ret Try.prog 6 #[s.v] w fun v w' => Ext No w w' ∧ (v = .bool true) := by
  have hd := newDesk_bare s
  refine ret_Q (vs := [s.v]) Try.func6 rfl Try.ntmps6 rfl (fun Q hQ hN => ?_)
  have H0 := Sep.start (w := w) (F := []) (by simp)
  refine W_seq ?_
  refine W_reg ?_
  refine s_box (wn rfl) rfl rfl H0 (fun b1 w1 e1 g1 H1 => ?_)
  refine s_val (wn rfl) rfl rfl (py_assign rfl) ?_
  refine s_nil ?_
  refine W_seq ?_
  refine W_reg ?_
  refine s_val (wn rfl) rfl rfl (py_loadS Try.underlying23 rfl Try.sizeOf23 rfl rfl (At.whole (H1.box 0 rfl))) ?_
  refine s_call (wn rfl) rfl rfl (pc_call Try.func17 rfl Try_nm17 rfl) Try_laws_toShape (fun v1 w2 r1 => ?_)
  obtain ⟨e2, rfl⟩ := r1
  have H2 := H1.to e2
  refine s_call (wn rfl) rfl rfl (pc_call Try.func33 rfl Try_nm33 rfl) Try_spec_NewDesk (fun v2 w3 r2 => ?_)
  obtain ⟨e3, sa1, sk1, sa2, sk2, sa3, sk3, rfl, r2⟩ := r2
  obtain ⟨fp1, H3⟩ := H2.res e3 r2
  have H4 := H3.share 1 rfl
  obtain ⟨sf1, sf2, sf3, sq1, sok1, so1, so2, so3⟩ := own_DeskResultC (H4.seen 0 rfl)
  have H6 := H4.look1 0 rfl so1 (fun b hb => by rw [sq1]; simp [hb])
  have H7 := H6.look1 0 rfl so2 (fun b hb => by rw [sq1]; simp [hb])
  have H8 := H7.look1 0 rfl so3 (fun b hb => by rw [sq1]; simp [hb])
  refine s_var (wn rfl) rfl Try.zeroValue59 H8 (fun b2 w4 e4 g2 H9 => ?_)
  refine s_stoS (wn rfl) Try.sizeOf59 rfl rfl rfl rfl H9 2 rfl rfl (fun w5 e5 H10 => ?_)
  dsimp only [List.nil_append, List.cons_append, List.set_cons_zero, List.set_cons_succ, layL] at H10
  refine s_nil ?_
  refine W_seq ?_
  refine W_reg ?_
  refine s_val (wn rfl) rfl rfl (py_loadS Try.underlying23 rfl Try.sizeOf23 rfl rfl (At.whole (H10.box 0 rfl))) ?_
  refine s_call (wn rfl) rfl rfl (pc_call Try.func17 rfl Try_nm17 rfl) Try_laws_toShape (fun v3 w6 r3 => ?_)
  obtain ⟨e6, rfl⟩ := r3
  have H11 := H10.to e6
  refine s_call (wn rfl) rfl rfl (pc_call Try.func34 rfl Try_nm34 rfl) Try_impl_NewDesk (fun v4 w7 r4 => ?_)
  obtain ⟨e7, sa4, sk4, sa5, sk5, sa6, sk6, rfl, r4⟩ := r4
  obtain ⟨fp2, H12⟩ := H11.res e7 r4
  have H13 := H12.share 3 rfl
  obtain ⟨sf4, sf5, sf6, sq2, sok2, so4, so5, so6⟩ := own_DeskResultC (H13.seen 4 rfl)
  have H15 := H13.look1 4 rfl so4 (fun b hb => by rw [sq2]; simp [hb])
  have H16 := H15.look1 4 rfl so5 (fun b hb => by rw [sq2]; simp [hb])
  have H17 := H16.look1 4 rfl so6 (fun b hb => by rw [sq2]; simp [hb])
  refine s_var (wn rfl) rfl Try.zeroValue59 H17 (fun b3 w8 e8 g3 H18 => ?_)
  refine s_stoS (wn rfl) Try.sizeOf59 rfl rfl rfl rfl H18 4 rfl rfl (fun w9 e9 H19 => ?_)
  dsimp only [List.nil_append, List.cons_append, List.set_cons_zero, List.set_cons_succ, layL] at H19
  refine s_nil ?_
  refine W_seq ?_
  refine W_seq ?_
  refine W_reg ?_
  refine s_val (wn rfl) rfl rfl (py_loadS Try.underlying59 rfl Try.sizeOf59 rfl rfl (At.whole (H19.box 4 rfl))) (s_val (wn rfl) rfl rfl (py_loadS Try.underlying59 rfl Try.sizeOf59 rfl rfl (At.whole (H19.box 2 rfl))) ?_)
  refine s_call (wn rfl) rfl rfl (pc_call Try.func35 rfl Try_nm35 rfl) (Try_laws_eqDeskResult (by assumption) (H19.sees 5 rfl) (H19.sees 6 rfl) (H19.sees 7 rfl) (by assumption) (H19.sees 1 rfl) (H19.sees 2 rfl) (H19.sees 3 rfl) (by first | assumption | rfl) (by assumption)) (fun v5 w10 r5 => ?_)
  obtain ⟨e10, rfl⟩ := r5
  have H20 := H19.to e10
  refine s_val (wn rfl) rfl rfl (py_not rfl) ?_
  refine s_nil ?_
  refine W_if rfl (fun c1 => ?_) (fun c1 => ?_)
  · exact absurd c1 (by simp)
  · refine W_skip ?_
    refine W_seq ?_
    refine W_reg ?_
    refine s_val (wn rfl) rfl rfl (py_assign rfl) ?_
    refine s_nil ?_
    refine W_seq ?_
    refine W_reg ?_
    refine s_val (wn rfl) rfl rfl (py_loadS Try.underlying59 rfl Try.sizeOf59 rfl rfl (At.whole (H20.box 4 rfl))) (s_val (wn rfl) rfl rfl (py_move rfl) ?_)
    refine s_call (wn rfl) rfl rfl (pc_call Try.func36 rfl Try_nm36 rfl) (Try_laws_markDeskResult (by assumption) (H20.sees 5 rfl) (H20.sees 6 rfl) (H20.sees 7 rfl) (by omega) (by assumption)) (fun v6 w11 r6 => ?_)
    obtain ⟨e11, rfl⟩ := r6
    have H21 := H20.to e11
    refine s_val (wn rfl) rfl rfl (py_assign rfl) ?_
    refine s_nil ?_
    refine W_seq ?_
    refine W_reg ?_
    refine s_val (wn rfl) rfl rfl (py_assign rfl) ?_
    refine s_nil ?_
    refine W_seq ?_
    refine W_reg ?_
    refine s_val (wn rfl) rfl rfl (py_loadS Try.underlying59 rfl Try.sizeOf59 rfl rfl (At.whole (H21.box 4 rfl))) (s_val (wn rfl) rfl rfl (py_move rfl) ?_)
    refine s_call (wn rfl) rfl rfl (pc_call Try.func37 rfl Try_nm37 rfl) (Try_laws_heldDeskResult (by assumption) (H21.sees 5 rfl) (H21.sees 6 rfl) (H21.sees 7 rfl) (by omega) (by assumption)) (fun v7 w12 r7 => ?_)
    obtain ⟨e12, rfl⟩ := r7
    have H22 := H21.to e12
    refine s_val (wn rfl) rfl rfl (py_assign rfl) ?_
    refine s_nil ?_
    refine W_seq ?_
    refine W_seq ?_
    refine W_reg ?_
    refine s_val (wn rfl) rfl rfl (py_move rfl) (s_val (wn rfl) rfl rfl (py_lss rfl rfl) ?_)
    refine s_nil ?_
    refine W_ifd rfl (fun c2 => ?_) (fun c2 => ?_)
    · exact absurd c2 (by omega)
    · refine W_skip ?_
      refine W_seq ?_
      refine W_seq ?_
      refine W_reg ?_
      refine s_val (wn rfl) rfl rfl (py_move rfl) (s_val (wn rfl) rfl rfl (py_move rfl) (s_val (wn rfl) rfl rfl (py_neq rfl rfl) ?_))
      refine s_nil ?_
      refine W_ifd rfl (fun c3 => ?_) (fun c3 => ?_)
      · exact absurd c3 (by omega)
      · refine W_skip ?_
        refine W_seq ?_
        refine W_reg ?_
        refine s_val (wn rfl) rfl rfl (py_loadS Try.underlying23 rfl Try.sizeOf23 rfl rfl (At.whole (H22.box 0 rfl))) ?_
        refine s_call (wn rfl) rfl rfl (pc_call Try.func17 rfl Try_nm17 rfl) Try_laws_toShape (fun v8 w13 r8 => ?_)
        obtain ⟨e13, rfl⟩ := r8
        have H23 := H22.to e13
        refine s_call (wn rfl) rfl rfl (pc_call Try.func34 rfl Try_nm34 rfl) Try_impl_NewDesk (fun v9 w14 r9 => ?_)
        obtain ⟨e14, sa7, sk7, sa8, sk8, sa9, sk9, rfl, r9⟩ := r9
        obtain ⟨fp3, H24⟩ := H23.res e14 r9
        have H25 := H24.share 5 rfl
        obtain ⟨sf7, sf8, sf9, sq3, sok3, so7, so8, so9⟩ := own_DeskResultC (H25.seen 8 rfl)
        have H27 := H25.look1 8 rfl so7 (fun b hb => by rw [sq3]; simp [hb])
        have H28 := H27.look1 8 rfl so8 (fun b hb => by rw [sq3]; simp [hb])
        have H29 := H28.look1 8 rfl so9 (fun b hb => by rw [sq3]; simp [hb])
        refine s_var (wn rfl) rfl Try.zeroValue59 H29 (fun b4 w15 e15 g4 H30 => ?_)
        refine s_stoS (wn rfl) Try.sizeOf59 rfl rfl rfl rfl H30 6 rfl rfl (fun w16 e16 H31 => ?_)
        dsimp only [List.nil_append, List.cons_append, List.set_cons_zero, List.set_cons_succ, layL] at H31
        refine s_nil ?_
        refine W_seq ?_
        refine W_seq ?_
        refine W_reg ?_
        refine s_val (wn rfl) rfl rfl (py_loadS Try.underlying59 rfl Try.sizeOf59 rfl rfl (At.whole (H31.box 6 rfl))) (s_val (wn rfl) rfl rfl (py_loadS Try.underlying59 rfl Try.sizeOf59 rfl rfl (At.whole (H31.box 2 rfl))) ?_)
        refine s_call (wn rfl) rfl rfl (pc_call Try.func35 rfl Try_nm35 rfl) (Try_laws_eqDeskResult (by assumption) (H31.sees 9 rfl) (H31.sees 10 rfl) (H31.sees 11 rfl) (by assumption) (H31.sees 1 rfl) (H31.sees 2 rfl) (H31.sees 3 rfl) (by first | assumption | rfl) (by assumption)) (fun v10 w17 r10 => ?_)
        obtain ⟨e17, rfl⟩ := r10
        have H32 := H31.to e17
        refine s_val (wn rfl) rfl rfl (py_not rfl) ?_
        refine s_nil ?_
        refine W_if rfl (fun c4 => ?_) (fun c4 => ?_)
        · exact absurd c4 (by simp)
        · refine W_skip ?_
          refine W_seq ?_
          refine W_reg ?_
          refine s_val (wn rfl) rfl rfl (py_assign rfl) ?_
          refine s_nil ?_
          refine W_seq ?_
          refine W_reg ?_
          refine s_val (wn rfl) rfl rfl (py_loadS Try.underlying59 rfl Try.sizeOf59 rfl rfl (At.whole (H32.box 4 rfl))) (s_val (wn rfl) rfl rfl (py_move rfl) ?_)
          refine s_call (wn rfl) rfl rfl (pc_call Try.func37 rfl Try_nm37 rfl) (Try_laws_heldDeskResult (by assumption) (H32.sees 5 rfl) (H32.sees 6 rfl) (H32.sees 7 rfl) (by omega) (by assumption)) (fun v11 w18 r11 => ?_)
          obtain ⟨e18, rfl⟩ := r11
          have H33 := H32.to e18
          refine s_val (wn rfl) rfl rfl (py_assign rfl) ?_
          refine s_nil ?_
          refine W_seq ?_
          refine W_seq ?_
          refine W_reg ?_
          refine s_val (wn rfl) rfl rfl (py_move rfl) (s_val (wn rfl) rfl rfl (py_lss rfl rfl) ?_)
          refine s_nil ?_
          refine W_ifd rfl (fun c5 => ?_) (fun c5 => ?_)
          · exact absurd c5 (by omega)
          · refine W_skip ?_
            refine W_seq ?_
            refine W_seq ?_
            refine W_reg ?_
            refine s_val (wn rfl) rfl rfl (py_move rfl) (s_val (wn rfl) rfl rfl (py_move rfl) (s_val (wn rfl) rfl rfl (py_neq rfl rfl) ?_))
            refine s_nil ?_
            refine W_ifd rfl (fun c6 => ?_) (fun c6 => ?_)
            · exact absurd c6 (by omega)
            · refine W_skip ?_
              refine W_seq ?_
              refine W_reg ?_
              refine s_val (wn rfl) rfl rfl (py_assign rfl) ?_
              refine s_nil ?_
              refine W_ret (hQ _ _ (fin1 Try.results6 rfl ?_))
              exact ⟨H33.ext, rfl⟩
end Go.Wk
