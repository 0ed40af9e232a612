/-
 A part of the proof: what functions that the statement reaches do, or a plain law on what they do. Each theorem holds under its own premises alone.
-/
import Derived.Test.YtffobakdngbadaaTKV
namespace Go.Proofs.Ytffobakdngbadaa
open Go Go.Lk
/-! ### Moves; great -/
structure Mv where
 q : Int
 time : Nat
 a : Option Addr
 c : Nat
 ps : List Plt
 id : Int
def mv0 : Mv := ⟨0, 0, none, 0, [], 0⟩
def Mv.cells (m : Mv) : List Value := [.int .i64 m.q, .float .f64 m.time, .slice m.a m.ps.length m.c, .int .i64 m.id]
def mcs (l : List Mv) : List Value := l.flatMap Mv.cells
theorem mcs_len : ∀ l : List Mv, (mcs l).length = l.length * 4
 | [] => rfl
 | m :: l => by
  show (m.cells ++ mcs l).length = _
  rw [List.length_append, mcs_len l, List.length_cons, show m.cells.length = 4 from rfl]; omega
theorem mcs_get : ∀ {ts : List Mv} {i q : Nat} {v : Value}, i < ts.length → (ts.getD i mv0).cells[q]? = some v → (mcs ts)[i * 4 + q]? = some v
 | [], _, _, _, hi, _ => by simp at hi
 | t :: ts, 0, q, v, _, h => by
  have hq := (List.getElem?_eq_some_iff.1 h).1
  show (t.cells ++ mcs ts)[0 * 4 + q]? = _
  rw [show 0 * 4 + q = q by omega, List.getElem?_append_left (by simpa using hq)]
  simpa using h
 | t :: ts, i + 1, q, v, hi, h => by
  show (t.cells ++ mcs ts)[(i + 1) * 4 + q]? = _
  have hl : t.cells.length = 4 := rfl
  rw [List.getElem?_append_right (by omega), show (i + 1) * 4 + q - t.cells.length = i * 4 + q by omega]
  exact mcs_get (by simpa using hi) h
structure MvOk (w : World) (m : Mv) : Prop where
 time : m.time < 18446744073709551616
 pl : SlC w m.a (pcs m.ps)
 len : m.ps.length ≤ 1000000000000000
 lt : ∀ i, i < m.ps.length → PltLt (m.ps.getD i plt0)
theorem great_ok (a : Option Addr) (n c : Nat) (l : List Mv) (w0 : World) (ha : SlC w0 a (mcs l)) (hn : l.length = n) (hn2 : n ≤ 1000000000000000) (hm : ∀ i, i < n → (l.getD i mv0).ps.length ≤ 1000000000000000) :
  Ret Try.prog 14 [.slice a n c] w0 fun v w' => ∃ g, v = .bool g ∧ HS w0 w' [] ∧ (g = false → n ≤ 300 ∧ ∀ i, i < n → (l.getD i mv0).ps.length ≤ 3000) := by
 refine Ret.start fun w hs => ?_
 refine calls_of_W Try.func14 rfl rfl rfl (W_seq (W_region (L_assign rfl rfl (RL_then (W_seq (W_region (L_assign rfl rfl (RL_then (W_seq (W_seq (W_region (L_assign rfl rfl ?_))))))))))))
 refine RL_then (W_block ?_)
 refine W_loop3 (fun (s : Nat) (i : Nat) (w : World) => [(0, .slice a n c), (2, .bool false), (3, .int .i64 s), (4, .int .i64 i)]) (fun (s : Nat) (i : Nat) (w : World) => w) (fun (s : Nat) (i : Nat) (w : World) => (i ≤ n) ∧ (s ≤ 1000000000003000) ∧ (∀ j, j < i → (l.getD j mv0).ps.length ≤ s) ∧ (HS w0 w [])) (fun (s : Nat) (i : Nat) (w : World) => n - i) (0) (0) (_) (is := [0, 2, 3, 4]) rfl rfl ?_ ?_
 ·
  exact ⟨Nat.zero_le _, Nat.zero_le _, fun j hj => absurd hj (Nat.not_lt_zero _), hs⟩
 ·
  clear hs
  intro s i w hI
  show W _ _ _ _ [(0, .slice a n c), (2, .bool false), (3, .int .i64 s), (4, .int .i64 i)] w
  obtain ⟨hi, hs2, hq, hs⟩ := hI
  by_cases hlt : i < n
  ·
   by_cases h3 : i ≤ 300
   ·
    by_cases h4 : s ≤ 3000
    ·
     have ha' := ha.old hs Own.nil
     have hml := hm i hlt
     refine W_seq (W_seq (W_region (L_move rfl rfl (L_move rfl rfl (L_len rfl Try.underlying50 rfl (L_lss rfl rfl rfl (dtrue (by omega)) ?_))))))
     refine L_move rfl rfl (RL_want rfl rfl (L_move rfl rfl (RL_want rfl rfl (L_leq rfl rfl rfl (dtrue (by omega)) ?_))))
     refine L_pick_t rfl rfl rfl (L_move rfl rfl (RL_want rfl rfl (L_move rfl rfl (RL_want rfl rfl (L_leq rfl rfl rfl (dtrue (by omega)) ?_)))))
     refine L_pick_t rfl rfl rfl (RL_then (W_if_true rfl (W_skip' (Nx_then (W_seq (W_block (W_region (L_move rfl rfl (L_move rfl rfl (L_move rfl rfl ?_))))))))))
     refine L_idxN rfl Try.underlying50 Try.ti25 rfl rfl (natc_k _) (by omega) (ha'.ao (by rw [mcs_len]; omega)) ?_
     refine L_fieldAddr rfl (off := 2) Try.underlying25 rfl rfl Try.ti23 rfl ?_
     refine L_load rfl Try.one23 rfl (by (rw [add_add]; exact ha'.2 _ _ (mcs_get (ts := l) (i := i) (q := 2) (by omega) rfl))) ?_
     refine L_len rfl Try.underlying23 rfl (L_add rfl rfl rfl (wrp_i64 (by omega)) ?_)
     refine L_assign rfl rfl (RL_nil' (Nx_block (Nx_then (W_region (L_move rfl rfl (L_add rfl rfl rfl (wrp_i64 (by omega)) ?_))))))
     refine L_assign rfl rfl (RL_nil' ?_)
     refine Nx_loopP (s + (l.getD i mv0).ps.length, i + 1, _) (is := [0, 2, 3, 4]) (I' := (fun (s : Nat) (i : Nat) (w : World) => (i ≤ n) ∧ (s ≤ 1000000000003000) ∧ (∀ j, j < i → (l.getD j mv0).ps.length ≤ s) ∧ (HS w0 w [])) (s + (l.getD i mv0).ps.length) (i + 1) (_)) rfl rfl rfl ?_ ?_
     ·
      refine ⟨by omega, by omega, fun j hj => ?_, hs⟩
      by_cases hji : j = i
      ·
       rw [hji]; omega
      ·
       have := hq j (by omega); omega
     ·
      show n - (i + 1) < n - i; omega
    ·
     refine W_seq (W_seq (W_region (L_move rfl rfl (L_move rfl rfl (L_len rfl Try.underlying50 rfl (L_lss rfl rfl rfl (dtrue (by omega)) ?_))))))
     refine L_move rfl rfl (RL_want rfl rfl (L_move rfl rfl (RL_want rfl rfl (L_leq rfl rfl rfl (dtrue (by omega)) ?_))))
     refine L_pick_t rfl rfl rfl (L_move rfl rfl (RL_want rfl rfl (L_move rfl rfl (RL_want rfl rfl (L_leq rfl rfl rfl (dfalse (by omega)) ?_)))))
     refine L_pick_t rfl rfl rfl (RL_then (W_if_false rfl (W_exit' (Ex_then_exit (Ex_loop_exit (Ex_block_hit (Nx_then (W_seq (W_region (L_move rfl rfl (L_gtr rfl rfl rfl (dtrue (by omega)) ?_)))))))))))
     refine L_move rfl rfl (RL_skip rfl rfl rfl rfl (RL_skip rfl rfl rfl rfl (RL_skip rfl rfl rfl rfl (L_pick_t rfl rfl rfl (L_assign rfl rfl (RL_then (W_ret' (Ex_done1 rfl rfl ?_))))))))
     exact ⟨_, rfl, true, rfl, hs, fun h => by cases h⟩
   ·
    refine W_seq (W_seq (W_region (L_move rfl rfl (L_move rfl rfl (L_len rfl Try.underlying50 rfl (L_lss rfl rfl rfl (dtrue (by omega)) ?_))))))
    refine L_move rfl rfl (RL_want rfl rfl (L_move rfl rfl (RL_want rfl rfl (L_leq rfl rfl rfl (dfalse (by omega)) ?_))))
    refine L_pick_t rfl rfl rfl (L_move rfl rfl (RL_skip rfl rfl rfl rfl (RL_skip rfl rfl rfl rfl (L_pick_f rfl rfl rfl (RL_then (W_if_false rfl ?_))))))
    by_cases h4 : s ≤ 3000
    ·
     refine W_exit' (Ex_then_exit (Ex_loop_exit (Ex_block_hit (Nx_then (W_seq (W_region (L_move rfl rfl (L_gtr rfl rfl rfl (dfalse (by omega)) ?_))))))))
     refine L_move rfl rfl (RL_want rfl rfl (L_move rfl rfl (RL_want rfl rfl (L_len rfl Try.underlying50 rfl (RL_want rfl rfl (L_gtr rfl rfl rfl (dtrue (by omega)) ?_))))))
     refine L_pick_f rfl rfl rfl (L_assign rfl rfl (RL_then (W_ret' (Ex_done1 rfl rfl ?_))))
     exact ⟨_, rfl, true, rfl, hs, fun h => by cases h⟩
    ·
     refine W_exit' (Ex_then_exit (Ex_loop_exit (Ex_block_hit (Nx_then (W_seq (W_region (L_move rfl rfl (L_gtr rfl rfl rfl (dtrue (by omega)) ?_))))))))
     refine L_move rfl rfl (RL_skip rfl rfl rfl rfl (RL_skip rfl rfl rfl rfl (RL_skip rfl rfl rfl rfl (L_pick_t rfl rfl rfl (L_assign rfl rfl (RL_then (W_ret' (Ex_done1 rfl rfl ?_))))))))
     exact ⟨_, rfl, true, rfl, hs, fun h => by cases h⟩
  ·
   obtain rfl : n = i := by omega
   refine W_seq (W_seq (W_region (L_move rfl rfl (L_move rfl rfl (L_len rfl Try.underlying50 rfl (L_lss rfl rfl rfl (dfalse (by omega)) ?_))))))
   refine L_move rfl rfl (RL_skip rfl rfl rfl rfl (RL_skip rfl rfl rfl rfl (L_pick_f rfl rfl rfl (L_move rfl rfl (RL_skip rfl rfl rfl rfl (RL_skip rfl rfl rfl rfl (L_pick_f rfl rfl rfl (RL_then (W_if_false rfl ?_)))))))))
   by_cases h4 : s ≤ 3000
   ·
    by_cases h3 : n ≤ 300
    ·
     refine W_exit' (Ex_then_exit (Ex_loop_exit (Ex_block_hit (Nx_then (W_seq (W_region (L_move rfl rfl (L_gtr rfl rfl rfl (dfalse (by omega)) ?_))))))))
     refine L_move rfl rfl (RL_want rfl rfl (L_move rfl rfl (RL_want rfl rfl (L_len rfl Try.underlying50 rfl (RL_want rfl rfl (L_gtr rfl rfl rfl (dfalse (by omega)) ?_))))))
     refine L_pick_f rfl rfl rfl (L_assign rfl rfl (RL_then (W_ret' (Ex_done1 rfl rfl ?_))))
     exact ⟨_, rfl, false, rfl, hs, fun _ => ⟨h3, fun j hj => Nat.le_trans (hq j hj) h4⟩⟩
    ·
     refine W_exit' (Ex_then_exit (Ex_loop_exit (Ex_block_hit (Nx_then (W_seq (W_region (L_move rfl rfl (L_gtr rfl rfl rfl (dfalse (by omega)) ?_))))))))
     refine L_move rfl rfl (RL_want rfl rfl (L_move rfl rfl (RL_want rfl rfl (L_len rfl Try.underlying50 rfl (RL_want rfl rfl (L_gtr rfl rfl rfl (dtrue (by omega)) ?_))))))
     refine L_pick_f rfl rfl rfl (L_assign rfl rfl (RL_then (W_ret' (Ex_done1 rfl rfl ?_))))
     exact ⟨_, rfl, true, rfl, hs, fun h => by cases h⟩
   ·
    refine W_exit' (Ex_then_exit (Ex_loop_exit (Ex_block_hit (Nx_then (W_seq (W_region (L_move rfl rfl (L_gtr rfl rfl rfl (dtrue (by omega)) ?_))))))))
    refine L_move rfl rfl (RL_skip rfl rfl rfl rfl (RL_skip rfl rfl rfl rfl (RL_skip rfl rfl rfl rfl (L_pick_t rfl rfl rfl (L_assign rfl rfl (RL_then (W_ret' (Ex_done1 rfl rfl ?_))))))))
    exact ⟨_, rfl, true, rfl, hs, fun h => by cases h⟩
end Go.Proofs.Ytffobakdngbadaa
