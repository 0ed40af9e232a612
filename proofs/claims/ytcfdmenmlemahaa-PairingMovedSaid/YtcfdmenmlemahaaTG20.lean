/-
  A part of the proof: what functions that the statement reaches do, or a plain law on what they do. Each theorem holds under its own premises alone.
-/
import Derived.Test.YtcfdmenmlemahaaTG19
namespace Go.Proofs.Ytcfdmenmlemahaa
open Go Go.Lk Go.Pr
theorem ahead_ok (a b : Option Addr) (k c d : Nat) (xs ys : List Int) (w0 : World) (hx : SlC w0 a (il xs)) (hy : SlC w0 b (il ys)) (hk : xs.length = k) (hl : ys.length = k) (h63 : k ≤ 9223372036854775806) :
    Ret Try.prog 31 [.slice a k c, .slice b k d] w0 fun v w' => v = .bool (aheadB xs ys) ∧ HS w0 w' [] := by
  refine Ret.start fun w hs => ?_
  refine calls_of_W Try.func31 rfl rfl rfl ?_
  refine W_seq ?_
  refine W_region ?_
  refine L_assign rfl rfl ?_
  refine RL_then ?_
  refine W_seq ?_
  refine W_seq ?_
  refine W_region ?_
  refine L_move rfl rfl ?_
  refine L_len rfl Try.underlying25 rfl ?_
  refine L_move rfl rfl ?_
  refine RL_then ?_
  refine W_block ?_
  refine W_loop2 (fun (i : Nat) (w : World) => [(0, .slice a k c), (1, .slice b k d), (7, .int .i64 k), (8, .int .i64 i)]) (fun (i : Nat) (w : World) => w) (fun (i : Nat) (w : World) => (i ≤ k) ∧ (∀ q, q < i → xs.getD q 0 = ys.getD q 0) ∧ (HS w0 w [])) (fun (i : Nat) (w : World) => k - i) (0) (w) (is := [0, 1, 7, 8]) rfl rfl ?_ ?_
  · exact ⟨Nat.zero_le _, fun _ h => absurd h (Nat.not_lt_zero _), hs⟩
  · clear hs
    intro i w hI
    show W _ _ _ _ [(0, .slice a k c), (1, .slice b k d), (7, .int .i64 k), (8, .int .i64 i)] w
    obtain ⟨hi, hE, hs⟩ := hI
    by_cases hlt : i < k
    · have hxa := hx.ao (by rw [il_length]; omega)
      have hya := hy.ao (by rw [il_length]; omega)
      by_cases he : xs.getD i 0 = ys.getD i 0
      · refine W_seq ?_
        refine W_region ?_
        first | refine L_lss rfl rfl rfl (dtrue (by omega)) ?_ | refine L_lss rfl rfl rfl (dfalse (by omega)) ?_ | refine L_lss rfl rfl rfl rfl ?_
        refine RL_then ?_
        refine W_seq ?_
        refine W_if_true rfl ?_
        refine W_skip' ?_
        refine Nx_then ?_
        refine W_seq ?_
        refine W_block ?_
        refine W_seq ?_
        refine W_region ?_
        refine L_move rfl rfl ?_
        refine L_assign rfl rfl ?_
        refine RL_then ?_
        refine W_seq ?_
        refine W_pht [0, 1, 2, 4, 5, 6] [3, 7, 8] [] (fun _ _ _ => False) Try.mixed (by kernel_rfl) (fun _ _ _ _ _ h => h) hs ?_
        refine PL_val rfl (fun w => R_move rfl) ?_
        refine PL_val rfl (fun w => R_move rfl) ?_
        refine PL_val rfl (fun w => R_idx1 Try.underlying25 Try.ti3 rfl rfl (by with_reducible first | exact natc_k _ | exact natc_a1 _ | exact natc_0 | exact natc_1 | exact natc_2 | exact natc_s1 _ (by omega) | exact natc_a2 _ | exact natc_add _ _ | exact natc_mul _ _ | exact natc (by omega)) (by omega) (by first | exact hxa | exact hya)) ?_
        refine PL_val rfl (fun w => R_move rfl) ?_
        refine PL_val rfl (fun w => R_move rfl) ?_
        refine PL_val rfl (fun w => R_idx1 Try.underlying25 Try.ti3 rfl rfl (by with_reducible first | exact natc_k _ | exact natc_a1 _ | exact natc_0 | exact natc_1 | exact natc_2 | exact natc_s1 _ (by omega) | exact natc_a2 _ | exact natc_add _ _ | exact natc_mul _ _ | exact natc (by omega)) (by omega) (by first | exact hxa | exact hya)) ?_
        refine PL_end ?_
        refine HL_val rfl (fun w hs => R_load Try.one3 rfl (by first | exact (hx.old hs Own.nil).get (il_get (by omega)) | exact (hy.old hs Own.nil).get (il_get (by omega)))) ?_
        refine HL_val rfl (fun w hs => R_load Try.one3 rfl (by first | exact (hx.old hs Own.nil).get (il_get (by omega)) | exact (hy.old hs Own.nil).get (il_get (by omega)))) ?_
        first | refine HL_val rfl (fun w hs => R_neq rfl rfl (dtrue (by omega))) ?_ | refine HL_val rfl (fun w hs => R_neq rfl rfl (dfalse (by omega))) ?_ | refine HL_val rfl (fun w hs => R_neq rfl rfl rfl) ?_
        refine HL_tail ?_
        intro w hs
        refine RL_then ?_
        refine W_if_false rfl ?_
        refine W_skip' ?_
        refine Nx_block ?_
        refine Nx_then ?_
        refine W_region ?_
        first | refine L_add rfl rfl rfl (wrp_i64 (by omega)) ?_ | refine L_add rfl rfl rfl rfl ?_
        refine L_move rfl rfl ?_
        refine RL_nil' ?_
        refine Nx_loopP (i + 1, _) (is := [0, 1, 7, 8]) (I' := (fun (i : Nat) (w : World) => (i ≤ k) ∧ (∀ q, q < i → xs.getD q 0 = ys.getD q 0) ∧ (HS w0 w [])) (i + 1) (_)) rfl rfl rfl ?_ ?_
        · refine ⟨by omega, fun q hq => ?_, hs⟩
          by_cases hqi : q = i
          · rw [hqi]; exact he
          · exact hE q (by omega)
        · omega
      · have hB := aheadB_at i (a := xs) (b := ys) (by omega) (by omega) hE he
        by_cases h1 : ys.getD i 0 = -1
        · refine W_seq ?_
          refine W_region ?_
          first | refine L_lss rfl rfl rfl (dtrue (by omega)) ?_ | refine L_lss rfl rfl rfl (dfalse (by omega)) ?_ | refine L_lss rfl rfl rfl rfl ?_
          refine RL_then ?_
          refine W_seq ?_
          refine W_if_true rfl ?_
          refine W_skip' ?_
          refine Nx_then ?_
          refine W_seq ?_
          refine W_block ?_
          refine W_seq ?_
          refine W_region ?_
          refine L_move rfl rfl ?_
          refine L_assign rfl rfl ?_
          refine RL_then ?_
          refine W_seq ?_
          refine W_pht [0, 1, 2, 4, 5, 6] [3, 7, 8] [] (fun _ _ _ => False) Try.mixed (by kernel_rfl) (fun _ _ _ _ _ h => h) hs ?_
          refine PL_val rfl (fun w => R_move rfl) ?_
          refine PL_val rfl (fun w => R_move rfl) ?_
          refine PL_val rfl (fun w => R_idx1 Try.underlying25 Try.ti3 rfl rfl (by with_reducible first | exact natc_k _ | exact natc_a1 _ | exact natc_0 | exact natc_1 | exact natc_2 | exact natc_s1 _ (by omega) | exact natc_a2 _ | exact natc_add _ _ | exact natc_mul _ _ | exact natc (by omega)) (by omega) (by first | exact hxa | exact hya)) ?_
          refine PL_val rfl (fun w => R_move rfl) ?_
          refine PL_val rfl (fun w => R_move rfl) ?_
          refine PL_val rfl (fun w => R_idx1 Try.underlying25 Try.ti3 rfl rfl (by with_reducible first | exact natc_k _ | exact natc_a1 _ | exact natc_0 | exact natc_1 | exact natc_2 | exact natc_s1 _ (by omega) | exact natc_a2 _ | exact natc_add _ _ | exact natc_mul _ _ | exact natc (by omega)) (by omega) (by first | exact hxa | exact hya)) ?_
          refine PL_end ?_
          refine HL_val rfl (fun w hs => R_load Try.one3 rfl (by first | exact (hx.old hs Own.nil).get (il_get (by omega)) | exact (hy.old hs Own.nil).get (il_get (by omega)))) ?_
          refine HL_val rfl (fun w hs => R_load Try.one3 rfl (by first | exact (hx.old hs Own.nil).get (il_get (by omega)) | exact (hy.old hs Own.nil).get (il_get (by omega)))) ?_
          first | refine HL_val rfl (fun w hs => R_neq rfl rfl (dtrue (by omega))) ?_ | refine HL_val rfl (fun w hs => R_neq rfl rfl (dfalse (by omega))) ?_ | refine HL_val rfl (fun w hs => R_neq rfl rfl rfl) ?_
          refine HL_tail ?_
          intro w hs
          refine RL_then ?_
          refine W_if_true rfl ?_
          refine W_seq ?_
          refine W_pht [0, 1, 2] [3, 4, 5, 6, 7, 8, 9, 10, 11, 12, 13, 14, 15, 16, 17, 18, 19, 20, 21, 22, 23] [] (fun _ _ _ => False) Try.mixed (by kernel_rfl) (fun _ _ _ _ _ h => h) hs ?_
          refine PL_val rfl (fun w => R_move rfl) ?_
          refine PL_val rfl (fun w => R_move rfl) ?_
          refine PL_val rfl (fun w => R_idx1 Try.underlying25 Try.ti3 rfl rfl (by with_reducible first | exact natc_k _ | exact natc_a1 _ | exact natc_0 | exact natc_1 | exact natc_2 | exact natc_s1 _ (by omega) | exact natc_a2 _ | exact natc_add _ _ | exact natc_mul _ _ | exact natc (by omega)) (by omega) (by first | exact hxa | exact hya)) ?_
          refine PL_end ?_
          refine HL_val rfl (fun w hs => R_load Try.one3 rfl (by first | exact (hx.old hs Own.nil).get (il_get (by omega)) | exact (hy.old hs Own.nil).get (il_get (by omega)))) ?_
          first | refine HL_val rfl (fun w hs => R_eql rfl rfl (dtrue (by omega))) ?_ | refine HL_val rfl (fun w hs => R_eql rfl rfl (dfalse (by omega))) ?_ | refine HL_val rfl (fun w hs => R_eql rfl rfl rfl) ?_
          refine HL_val rfl (fun w hs => R_move rfl) ?_
          first | (refine HL_want rfl rfl ?_; refine HL_val rfl (fun w hs => R_move rfl) ?_) | refine HL_skip rfl rfl rfl rfl ?_ | refine HL_skipU rfl rfl rfl ?_
          first | (refine HL_want rfl rfl ?_; refine HL_val rfl (fun w hs => R_move rfl) ?_) | refine HL_skip rfl rfl rfl rfl ?_ | refine HL_skipU rfl rfl rfl ?_
          first | (refine HL_want rfl rfl ?_; refine HL_val rfl (fun w hs => R_idx1 Try.underlying25 Try.ti3 rfl rfl (by with_reducible first | exact natc_k _ | exact natc_a1 _ | exact natc_0 | exact natc_1 | exact natc_2 | exact natc_s1 _ (by omega) | exact natc_a2 _ | exact natc_add _ _ | exact natc_mul _ _ | exact natc (by omega)) (by omega) (by first | exact hxa | exact hya)) ?_) | refine HL_skip rfl rfl rfl rfl ?_ | refine HL_skipU rfl rfl rfl ?_
          first | (refine HL_want rfl rfl ?_; refine HL_val rfl (fun w hs => R_load Try.one3 rfl (by first | exact (hx.old hs Own.nil).get (il_get (by omega)) | exact (hy.old hs Own.nil).get (il_get (by omega)))) ?_) | refine HL_skip rfl rfl rfl rfl ?_ | refine HL_skipU rfl rfl rfl ?_
          first | (refine HL_want rfl rfl ?_; (first | refine HL_val rfl (fun w hs => R_neq rfl rfl (dtrue (by omega))) ?_ | refine HL_val rfl (fun w hs => R_neq rfl rfl (dfalse (by omega))) ?_ | refine HL_val rfl (fun w hs => R_neq rfl rfl rfl) ?_)) | refine HL_skip rfl rfl rfl rfl ?_ | refine HL_skipU rfl rfl rfl ?_
          first | (refine HL_want rfl rfl ?_; refine HL_val rfl (fun w hs => R_move rfl) ?_) | refine HL_skip rfl rfl rfl rfl ?_ | refine HL_skipU rfl rfl rfl ?_
          first | (refine HL_want rfl rfl ?_; refine HL_val rfl (fun w hs => R_move rfl) ?_) | refine HL_skip rfl rfl rfl rfl ?_ | refine HL_skipU rfl rfl rfl ?_
          first | (refine HL_want rfl rfl ?_; refine HL_val rfl (fun w hs => R_move rfl) ?_) | refine HL_skip rfl rfl rfl rfl ?_ | refine HL_skipU rfl rfl rfl ?_
          first | (refine HL_want rfl rfl ?_; refine HL_val rfl (fun w hs => R_idx1 Try.underlying25 Try.ti3 rfl rfl (by with_reducible first | exact natc_k _ | exact natc_a1 _ | exact natc_0 | exact natc_1 | exact natc_2 | exact natc_s1 _ (by omega) | exact natc_a2 _ | exact natc_add _ _ | exact natc_mul _ _ | exact natc (by omega)) (by omega) (by first | exact hxa | exact hya)) ?_) | refine HL_skip rfl rfl rfl rfl ?_ | refine HL_skipU rfl rfl rfl ?_
          first | (refine HL_want rfl rfl ?_; refine HL_val rfl (fun w hs => R_load Try.one3 rfl (by first | exact (hx.old hs Own.nil).get (il_get (by omega)) | exact (hy.old hs Own.nil).get (il_get (by omega)))) ?_) | refine HL_skip rfl rfl rfl rfl ?_ | refine HL_skipU rfl rfl rfl ?_
          first | (refine HL_want rfl rfl ?_; refine HL_val rfl (fun w hs => R_move rfl) ?_) | refine HL_skip rfl rfl rfl rfl ?_ | refine HL_skipU rfl rfl rfl ?_
          first | (refine HL_want rfl rfl ?_; refine HL_val rfl (fun w hs => R_move rfl) ?_) | refine HL_skip rfl rfl rfl rfl ?_ | refine HL_skipU rfl rfl rfl ?_
          first | (refine HL_want rfl rfl ?_; refine HL_val rfl (fun w hs => R_idx1 Try.underlying25 Try.ti3 rfl rfl (by with_reducible first | exact natc_k _ | exact natc_a1 _ | exact natc_0 | exact natc_1 | exact natc_2 | exact natc_s1 _ (by omega) | exact natc_a2 _ | exact natc_add _ _ | exact natc_mul _ _ | exact natc (by omega)) (by omega) (by first | exact hxa | exact hya)) ?_) | refine HL_skip rfl rfl rfl rfl ?_ | refine HL_skipU rfl rfl rfl ?_
          first | (refine HL_want rfl rfl ?_; refine HL_val rfl (fun w hs => R_load Try.one3 rfl (by first | exact (hx.old hs Own.nil).get (il_get (by omega)) | exact (hy.old hs Own.nil).get (il_get (by omega)))) ?_) | refine HL_skip rfl rfl rfl rfl ?_ | refine HL_skipU rfl rfl rfl ?_
          first | (refine HL_want rfl rfl ?_; (first | refine HL_val rfl (fun w hs => R_lss rfl rfl (dtrue (by omega))) ?_ | refine HL_val rfl (fun w hs => R_lss rfl rfl (dfalse (by omega))) ?_ | refine HL_val rfl (fun w hs => R_lss rfl rfl rfl) ?_)) | refine HL_skip rfl rfl rfl rfl ?_ | refine HL_skipU rfl rfl rfl ?_
          first | (refine HL_want rfl rfl ?_; (first | refine HL_val rfl (fun w hs => R_pick_t rfl rfl) ?_ | refine HL_val rfl (fun w hs => R_pick_f rfl rfl) ?_)) | refine HL_skip rfl rfl rfl rfl ?_ | refine HL_skipU rfl rfl rfl ?_
          first | refine HL_val rfl (fun w hs => R_pick_t rfl rfl) ?_ | refine HL_val rfl (fun w hs => R_pick_f rfl rfl) ?_
          refine HL_val rfl (fun w hs => R_assign rfl) ?_
          refine HL_tail ?_
          intro w hs
          refine RL_then ?_
          refine W_ret' ?_
          refine Ex_block_ret ?_
          refine Ex_then_ret ?_
          refine Ex_loop_ret ?_
          refine Ex_block_ret ?_
          refine Ex_then_ret ?_
          refine Ex_done1 rfl rfl ?_
          refine ⟨_, rfl, ?_, hs⟩
          rw [hB, h1]; rfl
        · by_cases h2 : xs.getD i 0 = -1
          · refine W_seq ?_
            refine W_region ?_
            first | refine L_lss rfl rfl rfl (dtrue (by omega)) ?_ | refine L_lss rfl rfl rfl (dfalse (by omega)) ?_ | refine L_lss rfl rfl rfl rfl ?_
            refine RL_then ?_
            refine W_seq ?_
            refine W_if_true rfl ?_
            refine W_skip' ?_
            refine Nx_then ?_
            refine W_seq ?_
            refine W_block ?_
            refine W_seq ?_
            refine W_region ?_
            refine L_move rfl rfl ?_
            refine L_assign rfl rfl ?_
            refine RL_then ?_
            refine W_seq ?_
            refine W_pht [0, 1, 2, 4, 5, 6] [3, 7, 8] [] (fun _ _ _ => False) Try.mixed (by kernel_rfl) (fun _ _ _ _ _ h => h) hs ?_
            refine PL_val rfl (fun w => R_move rfl) ?_
            refine PL_val rfl (fun w => R_move rfl) ?_
            refine PL_val rfl (fun w => R_idx1 Try.underlying25 Try.ti3 rfl rfl (by with_reducible first | exact natc_k _ | exact natc_a1 _ | exact natc_0 | exact natc_1 | exact natc_2 | exact natc_s1 _ (by omega) | exact natc_a2 _ | exact natc_add _ _ | exact natc_mul _ _ | exact natc (by omega)) (by omega) (by first | exact hxa | exact hya)) ?_
            refine PL_val rfl (fun w => R_move rfl) ?_
            refine PL_val rfl (fun w => R_move rfl) ?_
            refine PL_val rfl (fun w => R_idx1 Try.underlying25 Try.ti3 rfl rfl (by with_reducible first | exact natc_k _ | exact natc_a1 _ | exact natc_0 | exact natc_1 | exact natc_2 | exact natc_s1 _ (by omega) | exact natc_a2 _ | exact natc_add _ _ | exact natc_mul _ _ | exact natc (by omega)) (by omega) (by first | exact hxa | exact hya)) ?_
            refine PL_end ?_
            refine HL_val rfl (fun w hs => R_load Try.one3 rfl (by first | exact (hx.old hs Own.nil).get (il_get (by omega)) | exact (hy.old hs Own.nil).get (il_get (by omega)))) ?_
            refine HL_val rfl (fun w hs => R_load Try.one3 rfl (by first | exact (hx.old hs Own.nil).get (il_get (by omega)) | exact (hy.old hs Own.nil).get (il_get (by omega)))) ?_
            first | refine HL_val rfl (fun w hs => R_neq rfl rfl (dtrue (by omega))) ?_ | refine HL_val rfl (fun w hs => R_neq rfl rfl (dfalse (by omega))) ?_ | refine HL_val rfl (fun w hs => R_neq rfl rfl rfl) ?_
            refine HL_tail ?_
            intro w hs
            refine RL_then ?_
            refine W_if_true rfl ?_
            refine W_seq ?_
            refine W_pht [0, 1, 2] [3, 4, 5, 6, 7, 8, 9, 10, 11, 12, 13, 14, 15, 16, 17, 18, 19, 20, 21, 22, 23] [] (fun _ _ _ => False) Try.mixed (by kernel_rfl) (fun _ _ _ _ _ h => h) hs ?_
            refine PL_val rfl (fun w => R_move rfl) ?_
            refine PL_val rfl (fun w => R_move rfl) ?_
            refine PL_val rfl (fun w => R_idx1 Try.underlying25 Try.ti3 rfl rfl (by with_reducible first | exact natc_k _ | exact natc_a1 _ | exact natc_0 | exact natc_1 | exact natc_2 | exact natc_s1 _ (by omega) | exact natc_a2 _ | exact natc_add _ _ | exact natc_mul _ _ | exact natc (by omega)) (by omega) (by first | exact hxa | exact hya)) ?_
            refine PL_end ?_
            refine HL_val rfl (fun w hs => R_load Try.one3 rfl (by first | exact (hx.old hs Own.nil).get (il_get (by omega)) | exact (hy.old hs Own.nil).get (il_get (by omega)))) ?_
            first | refine HL_val rfl (fun w hs => R_eql rfl rfl (dtrue (by omega))) ?_ | refine HL_val rfl (fun w hs => R_eql rfl rfl (dfalse (by omega))) ?_ | refine HL_val rfl (fun w hs => R_eql rfl rfl rfl) ?_
            refine HL_val rfl (fun w hs => R_move rfl) ?_
            first | (refine HL_want rfl rfl ?_; refine HL_val rfl (fun w hs => R_move rfl) ?_) | refine HL_skip rfl rfl rfl rfl ?_ | refine HL_skipU rfl rfl rfl ?_
            first | (refine HL_want rfl rfl ?_; refine HL_val rfl (fun w hs => R_move rfl) ?_) | refine HL_skip rfl rfl rfl rfl ?_ | refine HL_skipU rfl rfl rfl ?_
            first | (refine HL_want rfl rfl ?_; refine HL_val rfl (fun w hs => R_idx1 Try.underlying25 Try.ti3 rfl rfl (by with_reducible first | exact natc_k _ | exact natc_a1 _ | exact natc_0 | exact natc_1 | exact natc_2 | exact natc_s1 _ (by omega) | exact natc_a2 _ | exact natc_add _ _ | exact natc_mul _ _ | exact natc (by omega)) (by omega) (by first | exact hxa | exact hya)) ?_) | refine HL_skip rfl rfl rfl rfl ?_ | refine HL_skipU rfl rfl rfl ?_
            first | (refine HL_want rfl rfl ?_; refine HL_val rfl (fun w hs => R_load Try.one3 rfl (by first | exact (hx.old hs Own.nil).get (il_get (by omega)) | exact (hy.old hs Own.nil).get (il_get (by omega)))) ?_) | refine HL_skip rfl rfl rfl rfl ?_ | refine HL_skipU rfl rfl rfl ?_
            first | (refine HL_want rfl rfl ?_; (first | refine HL_val rfl (fun w hs => R_neq rfl rfl (dtrue (by omega))) ?_ | refine HL_val rfl (fun w hs => R_neq rfl rfl (dfalse (by omega))) ?_ | refine HL_val rfl (fun w hs => R_neq rfl rfl rfl) ?_)) | refine HL_skip rfl rfl rfl rfl ?_ | refine HL_skipU rfl rfl rfl ?_
            first | (refine HL_want rfl rfl ?_; refine HL_val rfl (fun w hs => R_move rfl) ?_) | refine HL_skip rfl rfl rfl rfl ?_ | refine HL_skipU rfl rfl rfl ?_
            first | (refine HL_want rfl rfl ?_; refine HL_val rfl (fun w hs => R_move rfl) ?_) | refine HL_skip rfl rfl rfl rfl ?_ | refine HL_skipU rfl rfl rfl ?_
            first | (refine HL_want rfl rfl ?_; refine HL_val rfl (fun w hs => R_move rfl) ?_) | refine HL_skip rfl rfl rfl rfl ?_ | refine HL_skipU rfl rfl rfl ?_
            first | (refine HL_want rfl rfl ?_; refine HL_val rfl (fun w hs => R_idx1 Try.underlying25 Try.ti3 rfl rfl (by with_reducible first | exact natc_k _ | exact natc_a1 _ | exact natc_0 | exact natc_1 | exact natc_2 | exact natc_s1 _ (by omega) | exact natc_a2 _ | exact natc_add _ _ | exact natc_mul _ _ | exact natc (by omega)) (by omega) (by first | exact hxa | exact hya)) ?_) | refine HL_skip rfl rfl rfl rfl ?_ | refine HL_skipU rfl rfl rfl ?_
            first | (refine HL_want rfl rfl ?_; refine HL_val rfl (fun w hs => R_load Try.one3 rfl (by first | exact (hx.old hs Own.nil).get (il_get (by omega)) | exact (hy.old hs Own.nil).get (il_get (by omega)))) ?_) | refine HL_skip rfl rfl rfl rfl ?_ | refine HL_skipU rfl rfl rfl ?_
            first | (refine HL_want rfl rfl ?_; refine HL_val rfl (fun w hs => R_move rfl) ?_) | refine HL_skip rfl rfl rfl rfl ?_ | refine HL_skipU rfl rfl rfl ?_
            first | (refine HL_want rfl rfl ?_; refine HL_val rfl (fun w hs => R_move rfl) ?_) | refine HL_skip rfl rfl rfl rfl ?_ | refine HL_skipU rfl rfl rfl ?_
            first | (refine HL_want rfl rfl ?_; refine HL_val rfl (fun w hs => R_idx1 Try.underlying25 Try.ti3 rfl rfl (by with_reducible first | exact natc_k _ | exact natc_a1 _ | exact natc_0 | exact natc_1 | exact natc_2 | exact natc_s1 _ (by omega) | exact natc_a2 _ | exact natc_add _ _ | exact natc_mul _ _ | exact natc (by omega)) (by omega) (by first | exact hxa | exact hya)) ?_) | refine HL_skip rfl rfl rfl rfl ?_ | refine HL_skipU rfl rfl rfl ?_
            first | (refine HL_want rfl rfl ?_; refine HL_val rfl (fun w hs => R_load Try.one3 rfl (by first | exact (hx.old hs Own.nil).get (il_get (by omega)) | exact (hy.old hs Own.nil).get (il_get (by omega)))) ?_) | refine HL_skip rfl rfl rfl rfl ?_ | refine HL_skipU rfl rfl rfl ?_
            first | (refine HL_want rfl rfl ?_; (first | refine HL_val rfl (fun w hs => R_lss rfl rfl (dtrue (by omega))) ?_ | refine HL_val rfl (fun w hs => R_lss rfl rfl (dfalse (by omega))) ?_ | refine HL_val rfl (fun w hs => R_lss rfl rfl rfl) ?_)) | refine HL_skip rfl rfl rfl rfl ?_ | refine HL_skipU rfl rfl rfl ?_
            first | (refine HL_want rfl rfl ?_; (first | refine HL_val rfl (fun w hs => R_pick_t rfl rfl) ?_ | refine HL_val rfl (fun w hs => R_pick_f rfl rfl) ?_)) | refine HL_skip rfl rfl rfl rfl ?_ | refine HL_skipU rfl rfl rfl ?_
            first | refine HL_val rfl (fun w hs => R_pick_t rfl rfl) ?_ | refine HL_val rfl (fun w hs => R_pick_f rfl rfl) ?_
            refine HL_val rfl (fun w hs => R_assign rfl) ?_
            refine HL_tail ?_
            intro w hs
            refine RL_then ?_
            refine W_ret' ?_
            refine Ex_block_ret ?_
            refine Ex_then_ret ?_
            refine Ex_loop_ret ?_
            refine Ex_block_ret ?_
            refine Ex_then_ret ?_
            refine Ex_done1 rfl rfl ?_
            refine ⟨_, rfl, ?_, hs⟩
            rw [hB, decide_eq_false h1, decide_eq_true h2]; rfl
          · by_cases h3 : xs.getD i 0 < ys.getD i 0
            · refine W_seq ?_
              refine W_region ?_
              first | refine L_lss rfl rfl rfl (dtrue (by omega)) ?_ | refine L_lss rfl rfl rfl (dfalse (by omega)) ?_ | refine L_lss rfl rfl rfl rfl ?_
              refine RL_then ?_
              refine W_seq ?_
              refine W_if_true rfl ?_
              refine W_skip' ?_
              refine Nx_then ?_
              refine W_seq ?_
              refine W_block ?_
              refine W_seq ?_
              refine W_region ?_
              refine L_move rfl rfl ?_
              refine L_assign rfl rfl ?_
              refine RL_then ?_
              refine W_seq ?_
              refine W_pht [0, 1, 2, 4, 5, 6] [3, 7, 8] [] (fun _ _ _ => False) Try.mixed (by kernel_rfl) (fun _ _ _ _ _ h => h) hs ?_
              refine PL_val rfl (fun w => R_move rfl) ?_
              refine PL_val rfl (fun w => R_move rfl) ?_
              refine PL_val rfl (fun w => R_idx1 Try.underlying25 Try.ti3 rfl rfl (by with_reducible first | exact natc_k _ | exact natc_a1 _ | exact natc_0 | exact natc_1 | exact natc_2 | exact natc_s1 _ (by omega) | exact natc_a2 _ | exact natc_add _ _ | exact natc_mul _ _ | exact natc (by omega)) (by omega) (by first | exact hxa | exact hya)) ?_
              refine PL_val rfl (fun w => R_move rfl) ?_
              refine PL_val rfl (fun w => R_move rfl) ?_
              refine PL_val rfl (fun w => R_idx1 Try.underlying25 Try.ti3 rfl rfl (by with_reducible first | exact natc_k _ | exact natc_a1 _ | exact natc_0 | exact natc_1 | exact natc_2 | exact natc_s1 _ (by omega) | exact natc_a2 _ | exact natc_add _ _ | exact natc_mul _ _ | exact natc (by omega)) (by omega) (by first | exact hxa | exact hya)) ?_
              refine PL_end ?_
              refine HL_val rfl (fun w hs => R_load Try.one3 rfl (by first | exact (hx.old hs Own.nil).get (il_get (by omega)) | exact (hy.old hs Own.nil).get (il_get (by omega)))) ?_
              refine HL_val rfl (fun w hs => R_load Try.one3 rfl (by first | exact (hx.old hs Own.nil).get (il_get (by omega)) | exact (hy.old hs Own.nil).get (il_get (by omega)))) ?_
              first | refine HL_val rfl (fun w hs => R_neq rfl rfl (dtrue (by omega))) ?_ | refine HL_val rfl (fun w hs => R_neq rfl rfl (dfalse (by omega))) ?_ | refine HL_val rfl (fun w hs => R_neq rfl rfl rfl) ?_
              refine HL_tail ?_
              intro w hs
              refine RL_then ?_
              refine W_if_true rfl ?_
              refine W_seq ?_
              refine W_pht [0, 1, 2] [3, 4, 5, 6, 7, 8, 9, 10, 11, 12, 13, 14, 15, 16, 17, 18, 19, 20, 21, 22, 23] [] (fun _ _ _ => False) Try.mixed (by kernel_rfl) (fun _ _ _ _ _ h => h) hs ?_
              refine PL_val rfl (fun w => R_move rfl) ?_
              refine PL_val rfl (fun w => R_move rfl) ?_
              refine PL_val rfl (fun w => R_idx1 Try.underlying25 Try.ti3 rfl rfl (by with_reducible first | exact natc_k _ | exact natc_a1 _ | exact natc_0 | exact natc_1 | exact natc_2 | exact natc_s1 _ (by omega) | exact natc_a2 _ | exact natc_add _ _ | exact natc_mul _ _ | exact natc (by omega)) (by omega) (by first | exact hxa | exact hya)) ?_
              refine PL_end ?_
              refine HL_val rfl (fun w hs => R_load Try.one3 rfl (by first | exact (hx.old hs Own.nil).get (il_get (by omega)) | exact (hy.old hs Own.nil).get (il_get (by omega)))) ?_
              first | refine HL_val rfl (fun w hs => R_eql rfl rfl (dtrue (by omega))) ?_ | refine HL_val rfl (fun w hs => R_eql rfl rfl (dfalse (by omega))) ?_ | refine HL_val rfl (fun w hs => R_eql rfl rfl rfl) ?_
              refine HL_val rfl (fun w hs => R_move rfl) ?_
              first | (refine HL_want rfl rfl ?_; refine HL_val rfl (fun w hs => R_move rfl) ?_) | refine HL_skip rfl rfl rfl rfl ?_ | refine HL_skipU rfl rfl rfl ?_
              first | (refine HL_want rfl rfl ?_; refine HL_val rfl (fun w hs => R_move rfl) ?_) | refine HL_skip rfl rfl rfl rfl ?_ | refine HL_skipU rfl rfl rfl ?_
              first | (refine HL_want rfl rfl ?_; refine HL_val rfl (fun w hs => R_idx1 Try.underlying25 Try.ti3 rfl rfl (by with_reducible first | exact natc_k _ | exact natc_a1 _ | exact natc_0 | exact natc_1 | exact natc_2 | exact natc_s1 _ (by omega) | exact natc_a2 _ | exact natc_add _ _ | exact natc_mul _ _ | exact natc (by omega)) (by omega) (by first | exact hxa | exact hya)) ?_) | refine HL_skip rfl rfl rfl rfl ?_ | refine HL_skipU rfl rfl rfl ?_
              first | (refine HL_want rfl rfl ?_; refine HL_val rfl (fun w hs => R_load Try.one3 rfl (by first | exact (hx.old hs Own.nil).get (il_get (by omega)) | exact (hy.old hs Own.nil).get (il_get (by omega)))) ?_) | refine HL_skip rfl rfl rfl rfl ?_ | refine HL_skipU rfl rfl rfl ?_
              first | (refine HL_want rfl rfl ?_; (first | refine HL_val rfl (fun w hs => R_neq rfl rfl (dtrue (by omega))) ?_ | refine HL_val rfl (fun w hs => R_neq rfl rfl (dfalse (by omega))) ?_ | refine HL_val rfl (fun w hs => R_neq rfl rfl rfl) ?_)) | refine HL_skip rfl rfl rfl rfl ?_ | refine HL_skipU rfl rfl rfl ?_
              first | (refine HL_want rfl rfl ?_; refine HL_val rfl (fun w hs => R_move rfl) ?_) | refine HL_skip rfl rfl rfl rfl ?_ | refine HL_skipU rfl rfl rfl ?_
              first | (refine HL_want rfl rfl ?_; refine HL_val rfl (fun w hs => R_move rfl) ?_) | refine HL_skip rfl rfl rfl rfl ?_ | refine HL_skipU rfl rfl rfl ?_
              first | (refine HL_want rfl rfl ?_; refine HL_val rfl (fun w hs => R_move rfl) ?_) | refine HL_skip rfl rfl rfl rfl ?_ | refine HL_skipU rfl rfl rfl ?_
              first | (refine HL_want rfl rfl ?_; refine HL_val rfl (fun w hs => R_idx1 Try.underlying25 Try.ti3 rfl rfl (by with_reducible first | exact natc_k _ | exact natc_a1 _ | exact natc_0 | exact natc_1 | exact natc_2 | exact natc_s1 _ (by omega) | exact natc_a2 _ | exact natc_add _ _ | exact natc_mul _ _ | exact natc (by omega)) (by omega) (by first | exact hxa | exact hya)) ?_) | refine HL_skip rfl rfl rfl rfl ?_ | refine HL_skipU rfl rfl rfl ?_
              first | (refine HL_want rfl rfl ?_; refine HL_val rfl (fun w hs => R_load Try.one3 rfl (by first | exact (hx.old hs Own.nil).get (il_get (by omega)) | exact (hy.old hs Own.nil).get (il_get (by omega)))) ?_) | refine HL_skip rfl rfl rfl rfl ?_ | refine HL_skipU rfl rfl rfl ?_
              first | (refine HL_want rfl rfl ?_; refine HL_val rfl (fun w hs => R_move rfl) ?_) | refine HL_skip rfl rfl rfl rfl ?_ | refine HL_skipU rfl rfl rfl ?_
              first | (refine HL_want rfl rfl ?_; refine HL_val rfl (fun w hs => R_move rfl) ?_) | refine HL_skip rfl rfl rfl rfl ?_ | refine HL_skipU rfl rfl rfl ?_
              first | (refine HL_want rfl rfl ?_; refine HL_val rfl (fun w hs => R_idx1 Try.underlying25 Try.ti3 rfl rfl (by with_reducible first | exact natc_k _ | exact natc_a1 _ | exact natc_0 | exact natc_1 | exact natc_2 | exact natc_s1 _ (by omega) | exact natc_a2 _ | exact natc_add _ _ | exact natc_mul _ _ | exact natc (by omega)) (by omega) (by first | exact hxa | exact hya)) ?_) | refine HL_skip rfl rfl rfl rfl ?_ | refine HL_skipU rfl rfl rfl ?_
              first | (refine HL_want rfl rfl ?_; refine HL_val rfl (fun w hs => R_load Try.one3 rfl (by first | exact (hx.old hs Own.nil).get (il_get (by omega)) | exact (hy.old hs Own.nil).get (il_get (by omega)))) ?_) | refine HL_skip rfl rfl rfl rfl ?_ | refine HL_skipU rfl rfl rfl ?_
              first | (refine HL_want rfl rfl ?_; (first | refine HL_val rfl (fun w hs => R_lss rfl rfl (dtrue (by omega))) ?_ | refine HL_val rfl (fun w hs => R_lss rfl rfl (dfalse (by omega))) ?_ | refine HL_val rfl (fun w hs => R_lss rfl rfl rfl) ?_)) | refine HL_skip rfl rfl rfl rfl ?_ | refine HL_skipU rfl rfl rfl ?_
              first | (refine HL_want rfl rfl ?_; (first | refine HL_val rfl (fun w hs => R_pick_t rfl rfl) ?_ | refine HL_val rfl (fun w hs => R_pick_f rfl rfl) ?_)) | refine HL_skip rfl rfl rfl rfl ?_ | refine HL_skipU rfl rfl rfl ?_
              first | refine HL_val rfl (fun w hs => R_pick_t rfl rfl) ?_ | refine HL_val rfl (fun w hs => R_pick_f rfl rfl) ?_
              refine HL_val rfl (fun w hs => R_assign rfl) ?_
              refine HL_tail ?_
              intro w hs
              refine RL_then ?_
              refine W_ret' ?_
              refine Ex_block_ret ?_
              refine Ex_then_ret ?_
              refine Ex_loop_ret ?_
              refine Ex_block_ret ?_
              refine Ex_then_ret ?_
              refine Ex_done1 rfl rfl ?_
              refine ⟨_, rfl, ?_, hs⟩
              rw [hB, decide_eq_false h1, decide_eq_false h2, decide_eq_true h3]; rfl
            · refine W_seq ?_
              refine W_region ?_
              first | refine L_lss rfl rfl rfl (dtrue (by omega)) ?_ | refine L_lss rfl rfl rfl (dfalse (by omega)) ?_ | refine L_lss rfl rfl rfl rfl ?_
              refine RL_then ?_
              refine W_seq ?_
              refine W_if_true rfl ?_
              refine W_skip' ?_
              refine Nx_then ?_
              refine W_seq ?_
              refine W_block ?_
              refine W_seq ?_
              refine W_region ?_
              refine L_move rfl rfl ?_
              refine L_assign rfl rfl ?_
              refine RL_then ?_
              refine W_seq ?_
              refine W_pht [0, 1, 2, 4, 5, 6] [3, 7, 8] [] (fun _ _ _ => False) Try.mixed (by kernel_rfl) (fun _ _ _ _ _ h => h) hs ?_
              refine PL_val rfl (fun w => R_move rfl) ?_
              refine PL_val rfl (fun w => R_move rfl) ?_
              refine PL_val rfl (fun w => R_idx1 Try.underlying25 Try.ti3 rfl rfl (by with_reducible first | exact natc_k _ | exact natc_a1 _ | exact natc_0 | exact natc_1 | exact natc_2 | exact natc_s1 _ (by omega) | exact natc_a2 _ | exact natc_add _ _ | exact natc_mul _ _ | exact natc (by omega)) (by omega) (by first | exact hxa | exact hya)) ?_
              refine PL_val rfl (fun w => R_move rfl) ?_
              refine PL_val rfl (fun w => R_move rfl) ?_
              refine PL_val rfl (fun w => R_idx1 Try.underlying25 Try.ti3 rfl rfl (by with_reducible first | exact natc_k _ | exact natc_a1 _ | exact natc_0 | exact natc_1 | exact natc_2 | exact natc_s1 _ (by omega) | exact natc_a2 _ | exact natc_add _ _ | exact natc_mul _ _ | exact natc (by omega)) (by omega) (by first | exact hxa | exact hya)) ?_
              refine PL_end ?_
              refine HL_val rfl (fun w hs => R_load Try.one3 rfl (by first | exact (hx.old hs Own.nil).get (il_get (by omega)) | exact (hy.old hs Own.nil).get (il_get (by omega)))) ?_
              refine HL_val rfl (fun w hs => R_load Try.one3 rfl (by first | exact (hx.old hs Own.nil).get (il_get (by omega)) | exact (hy.old hs Own.nil).get (il_get (by omega)))) ?_
              first | refine HL_val rfl (fun w hs => R_neq rfl rfl (dtrue (by omega))) ?_ | refine HL_val rfl (fun w hs => R_neq rfl rfl (dfalse (by omega))) ?_ | refine HL_val rfl (fun w hs => R_neq rfl rfl rfl) ?_
              refine HL_tail ?_
              intro w hs
              refine RL_then ?_
              refine W_if_true rfl ?_
              refine W_seq ?_
              refine W_pht [0, 1, 2] [3, 4, 5, 6, 7, 8, 9, 10, 11, 12, 13, 14, 15, 16, 17, 18, 19, 20, 21, 22, 23] [] (fun _ _ _ => False) Try.mixed (by kernel_rfl) (fun _ _ _ _ _ h => h) hs ?_
              refine PL_val rfl (fun w => R_move rfl) ?_
              refine PL_val rfl (fun w => R_move rfl) ?_
              refine PL_val rfl (fun w => R_idx1 Try.underlying25 Try.ti3 rfl rfl (by with_reducible first | exact natc_k _ | exact natc_a1 _ | exact natc_0 | exact natc_1 | exact natc_2 | exact natc_s1 _ (by omega) | exact natc_a2 _ | exact natc_add _ _ | exact natc_mul _ _ | exact natc (by omega)) (by omega) (by first | exact hxa | exact hya)) ?_
              refine PL_end ?_
              refine HL_val rfl (fun w hs => R_load Try.one3 rfl (by first | exact (hx.old hs Own.nil).get (il_get (by omega)) | exact (hy.old hs Own.nil).get (il_get (by omega)))) ?_
              first | refine HL_val rfl (fun w hs => R_eql rfl rfl (dtrue (by omega))) ?_ | refine HL_val rfl (fun w hs => R_eql rfl rfl (dfalse (by omega))) ?_ | refine HL_val rfl (fun w hs => R_eql rfl rfl rfl) ?_
              refine HL_val rfl (fun w hs => R_move rfl) ?_
              first | (refine HL_want rfl rfl ?_; refine HL_val rfl (fun w hs => R_move rfl) ?_) | refine HL_skip rfl rfl rfl rfl ?_ | refine HL_skipU rfl rfl rfl ?_
              first | (refine HL_want rfl rfl ?_; refine HL_val rfl (fun w hs => R_move rfl) ?_) | refine HL_skip rfl rfl rfl rfl ?_ | refine HL_skipU rfl rfl rfl ?_
              first | (refine HL_want rfl rfl ?_; refine HL_val rfl (fun w hs => R_idx1 Try.underlying25 Try.ti3 rfl rfl (by with_reducible first | exact natc_k _ | exact natc_a1 _ | exact natc_0 | exact natc_1 | exact natc_2 | exact natc_s1 _ (by omega) | exact natc_a2 _ | exact natc_add _ _ | exact natc_mul _ _ | exact natc (by omega)) (by omega) (by first | exact hxa | exact hya)) ?_) | refine HL_skip rfl rfl rfl rfl ?_ | refine HL_skipU rfl rfl rfl ?_
              first | (refine HL_want rfl rfl ?_; refine HL_val rfl (fun w hs => R_load Try.one3 rfl (by first | exact (hx.old hs Own.nil).get (il_get (by omega)) | exact (hy.old hs Own.nil).get (il_get (by omega)))) ?_) | refine HL_skip rfl rfl rfl rfl ?_ | refine HL_skipU rfl rfl rfl ?_
              first | (refine HL_want rfl rfl ?_; (first | refine HL_val rfl (fun w hs => R_neq rfl rfl (dtrue (by omega))) ?_ | refine HL_val rfl (fun w hs => R_neq rfl rfl (dfalse (by omega))) ?_ | refine HL_val rfl (fun w hs => R_neq rfl rfl rfl) ?_)) | refine HL_skip rfl rfl rfl rfl ?_ | refine HL_skipU rfl rfl rfl ?_
              first | (refine HL_want rfl rfl ?_; refine HL_val rfl (fun w hs => R_move rfl) ?_) | refine HL_skip rfl rfl rfl rfl ?_ | refine HL_skipU rfl rfl rfl ?_
              first | (refine HL_want rfl rfl ?_; refine HL_val rfl (fun w hs => R_move rfl) ?_) | refine HL_skip rfl rfl rfl rfl ?_ | refine HL_skipU rfl rfl rfl ?_
              first | (refine HL_want rfl rfl ?_; refine HL_val rfl (fun w hs => R_move rfl) ?_) | refine HL_skip rfl rfl rfl rfl ?_ | refine HL_skipU rfl rfl rfl ?_
              first | (refine HL_want rfl rfl ?_; refine HL_val rfl (fun w hs => R_idx1 Try.underlying25 Try.ti3 rfl rfl (by with_reducible first | exact natc_k _ | exact natc_a1 _ | exact natc_0 | exact natc_1 | exact natc_2 | exact natc_s1 _ (by omega) | exact natc_a2 _ | exact natc_add _ _ | exact natc_mul _ _ | exact natc (by omega)) (by omega) (by first | exact hxa | exact hya)) ?_) | refine HL_skip rfl rfl rfl rfl ?_ | refine HL_skipU rfl rfl rfl ?_
              first | (refine HL_want rfl rfl ?_; refine HL_val rfl (fun w hs => R_load Try.one3 rfl (by first | exact (hx.old hs Own.nil).get (il_get (by omega)) | exact (hy.old hs Own.nil).get (il_get (by omega)))) ?_) | refine HL_skip rfl rfl rfl rfl ?_ | refine HL_skipU rfl rfl rfl ?_
              first | (refine HL_want rfl rfl ?_; refine HL_val rfl (fun w hs => R_move rfl) ?_) | refine HL_skip rfl rfl rfl rfl ?_ | refine HL_skipU rfl rfl rfl ?_
              first | (refine HL_want rfl rfl ?_; refine HL_val rfl (fun w hs => R_move rfl) ?_) | refine HL_skip rfl rfl rfl rfl ?_ | refine HL_skipU rfl rfl rfl ?_
              first | (refine HL_want rfl rfl ?_; refine HL_val rfl (fun w hs => R_idx1 Try.underlying25 Try.ti3 rfl rfl (by with_reducible first | exact natc_k _ | exact natc_a1 _ | exact natc_0 | exact natc_1 | exact natc_2 | exact natc_s1 _ (by omega) | exact natc_a2 _ | exact natc_add _ _ | exact natc_mul _ _ | exact natc (by omega)) (by omega) (by first | exact hxa | exact hya)) ?_) | refine HL_skip rfl rfl rfl rfl ?_ | refine HL_skipU rfl rfl rfl ?_
              first | (refine HL_want rfl rfl ?_; refine HL_val rfl (fun w hs => R_load Try.one3 rfl (by first | exact (hx.old hs Own.nil).get (il_get (by omega)) | exact (hy.old hs Own.nil).get (il_get (by omega)))) ?_) | refine HL_skip rfl rfl rfl rfl ?_ | refine HL_skipU rfl rfl rfl ?_
              first | (refine HL_want rfl rfl ?_; (first | refine HL_val rfl (fun w hs => R_lss rfl rfl (dtrue (by omega))) ?_ | refine HL_val rfl (fun w hs => R_lss rfl rfl (dfalse (by omega))) ?_ | refine HL_val rfl (fun w hs => R_lss rfl rfl rfl) ?_)) | refine HL_skip rfl rfl rfl rfl ?_ | refine HL_skipU rfl rfl rfl ?_
              first | (refine HL_want rfl rfl ?_; (first | refine HL_val rfl (fun w hs => R_pick_t rfl rfl) ?_ | refine HL_val rfl (fun w hs => R_pick_f rfl rfl) ?_)) | refine HL_skip rfl rfl rfl rfl ?_ | refine HL_skipU rfl rfl rfl ?_
              first | refine HL_val rfl (fun w hs => R_pick_t rfl rfl) ?_ | refine HL_val rfl (fun w hs => R_pick_f rfl rfl) ?_
              refine HL_val rfl (fun w hs => R_assign rfl) ?_
              refine HL_tail ?_
              intro w hs
              refine RL_then ?_
              refine W_ret' ?_
              refine Ex_block_ret ?_
              refine Ex_then_ret ?_
              refine Ex_loop_ret ?_
              refine Ex_block_ret ?_
              refine Ex_then_ret ?_
              refine Ex_done1 rfl rfl ?_
              refine ⟨_, rfl, ?_, hs⟩
              rw [hB, decide_eq_false h1, decide_eq_false h2, decide_eq_false h3]; rfl
    · obtain rfl : k = i := by omega
      refine W_seq ?_
      refine W_region ?_
      first | refine L_lss rfl rfl rfl (dtrue (by omega)) ?_ | refine L_lss rfl rfl rfl (dfalse (by omega)) ?_ | refine L_lss rfl rfl rfl rfl ?_
      refine RL_then ?_
      refine W_seq ?_
      refine W_if_false rfl ?_
      refine W_exit' ?_
      refine Ex_then_exit ?_
      refine Ex_loop_exit ?_
      refine Ex_block_hit ?_
      refine Nx_then ?_
      refine W_seq ?_
      refine W_region ?_
      refine L_assign rfl rfl ?_
      refine RL_then ?_
      refine W_ret' ?_
      refine Ex_done1 rfl rfl ?_
      refine ⟨_, rfl, ?_, hs⟩
      have : xs = ys := by
        apply List.ext_getElem
        · omega
        · intro q h1 h2
          have := hE q (by omega)
          simp only [List.getD, List.getElem?_eq_getElem h1, List.getElem?_eq_getElem h2, Option.getD_some] at this
          exact this
      rw [this, aheadB_self]
/-- A trying's box. -/
abbrev BoxR (a : Option Addr) (k cp : Nat) (uv mv lv : Value) (s : St) : List Value := [.slice a k cp, uv, mv, .bool s.found, .int .i64 s.P, .int .i64 s.T, lv]
abbrev TryL (B gU gM : Nat) (a : Option Addr) (k cp n : Nat) (us : List Bool) (lv : Value) (s : St) : List (Nat × Obj) :=
  [(gU, Row 4 (bls us)), (gM, Row 3 (il s.mate)), (B, Row 33 (BoxR a k cp (SlN gU n) (SlN gM k) lv s))]
end Go.Proofs.Ytcfdmenmlemahaa
