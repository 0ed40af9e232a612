/-
  A part of the proof: what functions that the statement reaches do, or a plain law on what they do. Each theorem holds under its own premises alone.
-/
import Derived.Test.YtoiobncojfeoiaaTUL
namespace Go.Proofs.Ytoiobncojfeoiaa
open Go Go.Lk
theorem il_at {w : World} {a : Option Addr} {xs : List Int} (h : SlC w a (il xs)) {i : Nat} (hi : i < xs.length) : w.cell? ((aD a).add i) = some (.int .i64 (xs.getD i 0)) := h.get (il_get hi)
theorem eq_upto {α : Type} {xs ys : List α} {d : α} (hl : xs.length = ys.length) (h : ∀ q, q < xs.length → xs.getD q d = ys.getD q d) : xs = ys := by
  apply List.ext_getElem hl
  intro i h1 h2
  have := h i h1
  rw [List.getD_eq_getElem?_getD, List.getElem?_eq_getElem h1, List.getD_eq_getElem?_getD, List.getElem?_eq_getElem h2] at this
  exact this
theorem ints_ok (a b : Option Addr) (n k c d : Nat) (xs ys : List Int) (w0 : World) (hx : SlC w0 a (il xs)) (hy : SlC w0 b (il ys)) (hn : xs.length = n) (hk : ys.length = k) (hn2 : n ≤ 1000000000) :
    Ret Try.prog 22 [.slice a n c, .slice b k d] w0 fun v w' => v = .bool (decide (xs = ys)) ∧ HS w0 w' [] := by
  refine Ret.start fun w hs => ?_
  refine calls_of_W Try.func22 rfl rfl rfl ?_
  by_cases hl : n = k
  · refine W_seq ?_
    refine W_region ?_
    refine L_assign rfl rfl ?_
    refine RL_then ?_
    refine W_seq ?_
    refine W_seq ?_
    refine W_region ?_
    refine L_move rfl rfl ?_
    refine L_len rfl Try.underlying38 rfl ?_
    refine L_move rfl rfl ?_
    refine L_len rfl Try.underlying38 rfl ?_
    first | refine L_neq rfl rfl rfl (dtrue (by omega)) ?_ | refine L_neq rfl rfl rfl (dfalse (by omega)) ?_ | refine L_neq rfl rfl rfl rfl ?_
    refine RL_then ?_
    refine W_if_false rfl ?_
    refine W_skip' ?_
    refine Nx_then ?_
    refine W_seq ?_
    refine W_seq ?_
    refine W_region ?_
    refine L_move rfl rfl ?_
    refine L_len rfl Try.underlying38 rfl ?_
    refine L_move rfl rfl ?_
    refine RL_then ?_
    refine W_block ?_
    refine W_loop2 (fun (i : Nat) (w : World) => [(0, .slice a n c), (1, .slice b k d), (12, .int .i64 n), (13, .int .i64 i)]) (fun (i : Nat) (w : World) => w) (fun (i : Nat) (w : World) => (i ≤ n) ∧ (∀ q, q < i → xs.getD q 0 = ys.getD q 0) ∧ (HS w0 w [])) (fun (i : Nat) (w : World) => n - i) (0) (w) (is := [0, 1, 12, 13]) rfl rfl ?_ ?_
    · exact ⟨Nat.zero_le _, fun _ h => absurd h (Nat.not_lt_zero _), hs⟩
    · clear hs
      intro i w hI
      show W _ _ _ _ [(0, .slice a n c), (1, .slice b k d), (12, .int .i64 n), (13, .int .i64 i)] w
      obtain ⟨hi, hq, hs⟩ := hI
      by_cases hlt : i < n
      · refine W_seq ?_
        refine W_region ?_
        first | refine L_lss rfl rfl rfl (dtrue (by omega)) ?_ | refine L_lss rfl rfl rfl (dfalse (by omega)) ?_ | refine L_lss rfl rfl rfl rfl ?_
        refine RL_then ?_
        refine W_seq ?_
        refine W_if_true rfl ?_
        by_cases he : xs.getD i 0 = ys.getD i 0
        · refine W_skip' ?_
          refine Nx_then ?_
          refine W_seq ?_
          refine W_block ?_
          refine W_seq ?_
          refine W_region ?_
          refine L_move rfl rfl ?_
          refine L_assign rfl rfl ?_
          refine RL_then ?_
          refine W_seq ?_
          refine W_pht [0, 1, 2, 4, 5, 6] [3, 7, 8] [] (fun _ _ _ => False) Try.mixed (by kernel_rfl) (fun _ _ _ _ _ h => h) hs ?_
          refine PL_val rfl (fun w => R_move rfl) ?_
          refine PL_val rfl (fun w => R_move rfl) ?_
          refine PL_val rfl (fun w => R_idx1 Try.underlying38 Try.ti3 rfl rfl (by with_reducible first | exact natc_k _ | exact natc_a1 _ | exact natc_0 | exact natc_1 | exact natc_2 | exact natc_s1 _ (by omega) | exact natc_a2 _ | exact natc_add _ _ | exact natc_mul _ _ | exact natc (by omega)) (by omega) (hx.ao (by rw [il_length]; omega))) ?_
          refine PL_val rfl (fun w => R_move rfl) ?_
          refine PL_val rfl (fun w => R_move rfl) ?_
          refine PL_val rfl (fun w => R_idx1 Try.underlying38 Try.ti3 rfl rfl (by with_reducible first | exact natc_k _ | exact natc_a1 _ | exact natc_0 | exact natc_1 | exact natc_2 | exact natc_s1 _ (by omega) | exact natc_a2 _ | exact natc_add _ _ | exact natc_mul _ _ | exact natc (by omega)) (by omega) (hy.ao (by rw [il_length]; omega))) ?_
          refine PL_end ?_
          refine HL_val rfl (fun w hs => R_load Try.one3 rfl (by exact il_at (hx.old hs Own.nil) (by omega))) ?_
          refine HL_val rfl (fun w hs => R_load Try.one3 rfl (by exact il_at (hy.old hs Own.nil) (by omega))) ?_
          first | refine HL_val rfl (fun w hs => R_neq rfl rfl (dtrue (by omega))) ?_ | refine HL_val rfl (fun w hs => R_neq rfl rfl (dfalse (by omega))) ?_ | refine HL_val rfl (fun w hs => R_neq rfl rfl rfl) ?_
          refine HL_tail ?_
          intro w hs
          refine RL_then ?_
          refine W_if_false rfl ?_
          refine W_skip' ?_
          refine Nx_block ?_
          refine Nx_then ?_
          refine W_region ?_
          first | refine L_add rfl rfl rfl (wrp_i64 (by omega)) ?_ | refine L_add rfl rfl rfl rfl ?_
          refine L_move rfl rfl ?_
          refine RL_nil' ?_
          refine Nx_loopP (i + 1, _) (is := [0, 1, 12, 13]) (I' := (fun (i : Nat) (w : World) => (i ≤ n) ∧ (∀ q, q < i → xs.getD q 0 = ys.getD q 0) ∧ (HS w0 w [])) (i + 1) (_)) rfl rfl rfl ?_ ?_
          · refine ⟨hlt, fun q hq2 => ?_, hs⟩
            by_cases hqi : q = i
            · rw [hqi]; exact he
            · exact hq q (by omega)
          · omega
        · refine W_skip' ?_
          refine Nx_then ?_
          refine W_seq ?_
          refine W_block ?_
          refine W_seq ?_
          refine W_region ?_
          refine L_move rfl rfl ?_
          refine L_assign rfl rfl ?_
          refine RL_then ?_
          refine W_seq ?_
          refine W_pht [0, 1, 2, 4, 5, 6] [3, 7, 8] [] (fun _ _ _ => False) Try.mixed (by kernel_rfl) (fun _ _ _ _ _ h => h) hs ?_
          refine PL_val rfl (fun w => R_move rfl) ?_
          refine PL_val rfl (fun w => R_move rfl) ?_
          refine PL_val rfl (fun w => R_idx1 Try.underlying38 Try.ti3 rfl rfl (by with_reducible first | exact natc_k _ | exact natc_a1 _ | exact natc_0 | exact natc_1 | exact natc_2 | exact natc_s1 _ (by omega) | exact natc_a2 _ | exact natc_add _ _ | exact natc_mul _ _ | exact natc (by omega)) (by omega) (hx.ao (by rw [il_length]; omega))) ?_
          refine PL_val rfl (fun w => R_move rfl) ?_
          refine PL_val rfl (fun w => R_move rfl) ?_
          refine PL_val rfl (fun w => R_idx1 Try.underlying38 Try.ti3 rfl rfl (by with_reducible first | exact natc_k _ | exact natc_a1 _ | exact natc_0 | exact natc_1 | exact natc_2 | exact natc_s1 _ (by omega) | exact natc_a2 _ | exact natc_add _ _ | exact natc_mul _ _ | exact natc (by omega)) (by omega) (hy.ao (by rw [il_length]; omega))) ?_
          refine PL_end ?_
          refine HL_val rfl (fun w hs => R_load Try.one3 rfl (by exact il_at (hx.old hs Own.nil) (by omega))) ?_
          refine HL_val rfl (fun w hs => R_load Try.one3 rfl (by exact il_at (hy.old hs Own.nil) (by omega))) ?_
          first | refine HL_val rfl (fun w hs => R_neq rfl rfl (dtrue (by omega))) ?_ | refine HL_val rfl (fun w hs => R_neq rfl rfl (dfalse (by omega))) ?_ | refine HL_val rfl (fun w hs => R_neq rfl rfl rfl) ?_
          refine HL_tail ?_
          intro w hs
          refine RL_then ?_
          refine W_if_true rfl ?_
          refine W_seq ?_
          refine W_region ?_
          refine L_assign rfl rfl ?_
          refine RL_then ?_
          refine W_ret' ?_
          refine Ex_block_ret ?_
          refine Ex_then_ret ?_
          refine Ex_loop_ret ?_
          refine Ex_block_ret ?_
          refine Ex_then_ret ?_
          refine Ex_done1 rfl rfl ?_
          exact ⟨_, rfl, by rw [decide_eq_false (fun h => he (by rw [h]))], hs⟩
      · obtain rfl : i = n := by omega
        refine W_seq ?_
        refine W_region ?_
        first | refine L_lss rfl rfl rfl (dtrue (by omega)) ?_ | refine L_lss rfl rfl rfl (dfalse (by omega)) ?_ | refine L_lss rfl rfl rfl rfl ?_
        refine RL_then ?_
        refine W_seq ?_
        refine W_if_false rfl ?_
        refine W_exit' ?_
        refine Ex_then_exit ?_
        refine Ex_loop_exit ?_
        refine Ex_block_hit ?_
        refine Nx_then ?_
        refine W_seq ?_
        refine W_region ?_
        refine L_assign rfl rfl ?_
        refine RL_then ?_
        refine W_ret' ?_
        refine Ex_done1 rfl rfl ?_
        exact ⟨_, rfl, by rw [decide_eq_true (eq_upto (d := 0) (by omega) (fun q h => hq q (by omega)))], hs⟩
  · refine W_seq ?_
    refine W_region ?_
    refine L_assign rfl rfl ?_
    refine RL_then ?_
    refine W_seq ?_
    refine W_seq ?_
    refine W_region ?_
    refine L_move rfl rfl ?_
    refine L_len rfl Try.underlying38 rfl ?_
    refine L_move rfl rfl ?_
    refine L_len rfl Try.underlying38 rfl ?_
    first | refine L_neq rfl rfl rfl (dtrue (by omega)) ?_ | refine L_neq rfl rfl rfl (dfalse (by omega)) ?_ | refine L_neq rfl rfl rfl rfl ?_
    refine RL_then ?_
    refine W_if_true rfl ?_
    refine W_seq ?_
    refine W_region ?_
    refine L_assign rfl rfl ?_
    refine RL_then ?_
    refine W_ret' ?_
    refine Ex_then_ret ?_
    refine Ex_done1 rfl rfl ?_
    exact ⟨_, rfl, by rw [decide_eq_false (fun h => hl (by rw [← hn, ← hk, h]))], hs⟩
end Go.Proofs.Ytoiobncojfeoiaa
