/-
  A part of the proof: what functions that the statement reaches do, or a plain law on what they do. Each theorem holds under its own premises alone.
-/
import Derived.Test.YtcfdmenmlemahaaTG10
namespace Go.Proofs.Ytcfdmenmlemahaa
open Go Go.Lk Go.Pr
/-! ### The document's answer: what it looks at first, and what mates cost -/
theorem rcheck_ok (a : Option Addr) (k c : Nat) (rows : List (List Int)) (rvs : List Value) (w0 : World) (hr : RowsI w0 a rows rvs) (hk : rows.length = k) (hk63 : k ≤ 17592186043904) :
    Ret Try.prog 27 [.slice a k c] w0 fun v w' => v = .int .i64 (chk rows) ∧ HS w0 w' [] := by
  refine Ret.start fun w hs => ?_
  have hrl := hr.len
  refine calls_of_W Try.func27 rfl rfl rfl ?_
  by_cases hbig : 256 < k
  · have he : chk rows = 3 := by unfold chk; rw [decide_eq_true (by omega), Bool.true_or, if_pos rfl]
    refine W_seq ?_
    refine W_region ?_
    refine L_assign rfl rfl ?_
    refine RL_then ?_
    refine W_seq ?_
    refine W_seq ?_
    refine W_region ?_
    refine L_move rfl rfl ?_
    refine L_len rfl Try.underlying22 rfl ?_
    first | refine L_gtr rfl rfl rfl (dtrue (by omega)) ?_ | refine L_gtr rfl rfl rfl (dfalse (by omega)) ?_ | refine L_gtr rfl rfl rfl rfl ?_
    refine RL_then ?_
    refine W_if_true rfl ?_
    refine W_seq ?_
    refine W_region ?_
    refine L_assign rfl rfl ?_
    refine RL_then ?_
    refine W_ret' ?_
    refine Ex_then_ret ?_
    refine Ex_done1 rfl rfl ?_
    exact ⟨_, rfl, by rw [he], hs⟩
  · refine W_seq ?_
    refine W_region ?_
    refine L_assign rfl rfl ?_
    refine RL_then ?_
    refine W_seq ?_
    refine W_seq ?_
    refine W_region ?_
    refine L_move rfl rfl ?_
    refine L_len rfl Try.underlying22 rfl ?_
    first | refine L_gtr rfl rfl rfl (dtrue (by omega)) ?_ | refine L_gtr rfl rfl rfl (dfalse (by omega)) ?_ | refine L_gtr rfl rfl rfl rfl ?_
    refine RL_then ?_
    refine W_if_false rfl ?_
    refine W_skip' ?_
    refine Nx_then ?_
    refine W_seq ?_
    refine W_seq ?_
    refine W_region ?_
    refine L_assign rfl rfl ?_
    refine RL_then ?_
    refine W_block ?_
    refine W_loop2 (fun (i : Nat) (w : World) => [(0, .slice a k c), (3, .int .i64 i)]) (fun (i : Nat) (w : World) => w) (fun (i : Nat) (w : World) => (i ≤ k) ∧ (∀ q, q < i → wid rows q ≤ 256) ∧ (HS w0 w [])) (fun (i : Nat) (w : World) => k - i) (0) (w) (is := [0, 3]) rfl rfl ?_ ?_
    · exact ⟨Nat.zero_le _, fun _ h => absurd h (Nat.not_lt_zero _), hs⟩
    · clear hs
      intro i w hI
      show W _ _ _ _ [(0, .slice a k c), (3, .int .i64 i)] w
      obtain ⟨hi, hA, hs⟩ := hI
      by_cases hlt : i < k
      · obtain ⟨ai, ci, g1, g2, g3, g4⟩ := hr.row i (by omega)
        by_cases hw : 256 < (rows.getD i []).length
        · have he : chk rows = 3 := by
            unfold chk
            rw [any_idx (p := fun r : List Int => decide (256 < r.length)).2 ⟨i, by omega, show (fun r : List Int => decide (256 < r.length)) (rows.getD i []) = true from decide_eq_true hw⟩, Bool.or_true, if_pos rfl]
          refine W_seq ?_
          refine W_seq ?_
          refine W_region ?_
          refine L_move rfl rfl ?_
          refine L_move rfl rfl ?_
          refine L_len rfl Try.underlying22 rfl ?_
          first | refine L_lss rfl rfl rfl (dtrue (by omega)) ?_ | refine L_lss rfl rfl rfl (dfalse (by omega)) ?_ | refine L_lss rfl rfl rfl rfl ?_
          refine RL_then ?_
          refine W_if_true rfl ?_
          refine W_skip' ?_
          refine Nx_then ?_
          refine W_seq ?_
          refine W_block ?_
          refine W_seq ?_
          refine W_region ?_
          refine L_move rfl rfl ?_
          refine L_move rfl rfl ?_
          refine L_idx1 rfl Try.underlying22 Try.ti38 rfl rfl (by with_reducible first | exact natc_k _ | exact natc_a1 _ | exact natc_0 | exact natc_1 | exact natc_2 | exact natc_s1 _ (by omega) | exact natc_a2 _ | exact natc_add _ _ | exact natc_mul _ _ | exact natc (by omega)) (by omega) (hr.sl.ao (by omega)) ?_
          refine L_load rfl Try.one38 rfl (by exact (hr.sl.old hs Own.nil).get g1) ?_
          refine L_len rfl Try.underlying38 rfl ?_
          first | refine L_gtr rfl rfl rfl (dtrue (by omega)) ?_ | refine L_gtr rfl rfl rfl (dfalse (by omega)) ?_ | refine L_gtr rfl rfl rfl rfl ?_
          refine RL_then ?_
          refine W_if_true rfl ?_
          refine W_seq ?_
          refine W_region ?_
          refine L_assign rfl rfl ?_
          refine RL_then ?_
          refine W_ret' ?_
          refine Ex_block_ret ?_
          refine Ex_then_ret ?_
          refine Ex_loop_ret ?_
          refine Ex_block_ret ?_
          refine Ex_then_ret ?_
          refine Ex_done1 rfl rfl ?_
          exact ⟨_, rfl, by rw [he], hs⟩
        · refine W_seq ?_
          refine W_seq ?_
          refine W_region ?_
          refine L_move rfl rfl ?_
          refine L_move rfl rfl ?_
          refine L_len rfl Try.underlying22 rfl ?_
          first | refine L_lss rfl rfl rfl (dtrue (by omega)) ?_ | refine L_lss rfl rfl rfl (dfalse (by omega)) ?_ | refine L_lss rfl rfl rfl rfl ?_
          refine RL_then ?_
          refine W_if_true rfl ?_
          refine W_skip' ?_
          refine Nx_then ?_
          refine W_seq ?_
          refine W_block ?_
          refine W_seq ?_
          refine W_region ?_
          refine L_move rfl rfl ?_
          refine L_move rfl rfl ?_
          refine L_idx1 rfl Try.underlying22 Try.ti38 rfl rfl (by with_reducible first | exact natc_k _ | exact natc_a1 _ | exact natc_0 | exact natc_1 | exact natc_2 | exact natc_s1 _ (by omega) | exact natc_a2 _ | exact natc_add _ _ | exact natc_mul _ _ | exact natc (by omega)) (by omega) (hr.sl.ao (by omega)) ?_
          refine L_load rfl Try.one38 rfl (by exact (hr.sl.old hs Own.nil).get g1) ?_
          refine L_len rfl Try.underlying38 rfl ?_
          first | refine L_gtr rfl rfl rfl (dtrue (by omega)) ?_ | refine L_gtr rfl rfl rfl (dfalse (by omega)) ?_ | refine L_gtr rfl rfl rfl rfl ?_
          refine RL_then ?_
          refine W_if_false rfl ?_
          refine W_skip' ?_
          refine Nx_block ?_
          refine Nx_then ?_
          refine W_region ?_
          refine L_move rfl rfl ?_
          first | refine L_add rfl rfl rfl (wrp_i64 (by omega)) ?_ | refine L_add rfl rfl rfl rfl ?_
          refine L_assign rfl rfl ?_
          refine RL_nil' ?_
          refine Nx_loopP (i + 1, w) (is := [0, 3]) (I' := (fun (i : Nat) (w : World) => (i ≤ k) ∧ (∀ q, q < i → wid rows q ≤ 256) ∧ (HS w0 w [])) (i + 1) (w)) rfl rfl rfl ?_ ?_
          · refine ⟨by omega, fun q hq => ?_, hs⟩
            by_cases hqi : q = i
            · rw [hqi]; simp only [wid]; omega
            · exact hA q (by omega)
          · omega
      · obtain rfl : k = i := by omega
        have h1 : (decide (256 < rows.length) || rows.any (fun r => decide (256 < r.length))) = false := by
          rw [decide_eq_false (by omega), Bool.false_or]
          exact any_no fun q hq => decide_eq_false (by have := hA q (by omega); simp only [wid] at this; omega)
        refine W_seq ?_
        refine W_seq ?_
        refine W_region ?_
        refine L_move rfl rfl ?_
        refine L_move rfl rfl ?_
        refine L_len rfl Try.underlying22 rfl ?_
        first | refine L_lss rfl rfl rfl (dtrue (by omega)) ?_ | refine L_lss rfl rfl rfl (dfalse (by omega)) ?_ | refine L_lss rfl rfl rfl rfl ?_
        refine RL_then ?_
        refine W_if_false rfl ?_
        refine W_exit' ?_
        refine Ex_then_exit ?_
        refine Ex_loop_exit ?_
        refine Ex_block_hit ?_
        refine Nx_then ?_
        refine W_seq ?_
        refine W_seq ?_
        refine W_region ?_
        refine L_assign rfl rfl ?_
        refine RL_then ?_
        refine W_block ?_
        refine W_loop2 (fun (i : Nat) (w : World) => [(0, .slice a k c), (4, .int .i64 i)]) (fun (i : Nat) (w : World) => w) (fun (i : Nat) (w : World) => (i ≤ k) ∧ (∀ q, q < i → wid rows q = wid rows 0) ∧ (HS w0 w [])) (fun (i : Nat) (w : World) => k - i) (0) (w) (is := [0, 4]) rfl rfl ?_ ?_
        · exact ⟨Nat.zero_le _, fun _ h => absurd h (Nat.not_lt_zero _), hs⟩
        · clear hs hi
          intro i w hI
          show W _ _ _ _ [(0, .slice a k c), (4, .int .i64 i)] w
          obtain ⟨hi, hB, hs⟩ := hI
          by_cases hlt : i < k
          · obtain ⟨ai, ci, g1, g2, g3, g4⟩ := hr.row i (by omega)
            obtain ⟨a0, c0, k1, k2, k3, k4⟩ := hr.row 0 (by omega)
            have hold : ∀ {w : World}, HS w0 w [] → ∀ {j : Nat} {v : Value}, rvs[j]? = some v → w.cell? ((aD a).add j) = some v := by intro w hs j v hv; exact (hr.sl.old hs Own.nil).get hv
            by_cases hw : (rows.getD i []).length ≠ (rows.getD 0 []).length
            · have he : chk rows = 5 := by
                unfold chk
                rw [h1, any_idx (p := fun r : List Int => decide (r.length ≠ wid rows 0)).2 ⟨i, by omega, show (fun r : List Int => decide (r.length ≠ wid rows 0)) (rows.getD i []) = true from decide_eq_true hw⟩]
                rfl
              refine W_seq ?_
              refine W_seq ?_
              refine W_region ?_
              refine L_move rfl rfl ?_
              refine L_move rfl rfl ?_
              refine L_len rfl Try.underlying22 rfl ?_
              first | refine L_lss rfl rfl rfl (dtrue (by omega)) ?_ | refine L_lss rfl rfl rfl (dfalse (by omega)) ?_ | refine L_lss rfl rfl rfl rfl ?_
              refine RL_then ?_
              refine W_if_true rfl ?_
              refine W_skip' ?_
              refine Nx_then ?_
              refine W_seq ?_
              refine W_block ?_
              refine W_seq ?_
              refine W_pht [0, 1, 2, 5, 6] [3, 4, 7, 8, 9] [] (fun _ _ _ => False) Try.mixed (by kernel_rfl) (fun _ _ _ _ _ h => h) hs ?_
              refine PL_val rfl (fun w => R_move rfl) ?_
              refine PL_val rfl (fun w => R_move rfl) ?_
              refine PL_val rfl (fun w => R_idx1 Try.underlying22 Try.ti38 rfl rfl (by with_reducible first | exact natc_k _ | exact natc_a1 _ | exact natc_0 | exact natc_1 | exact natc_2 | exact natc_s1 _ (by omega) | exact natc_a2 _ | exact natc_add _ _ | exact natc_mul _ _ | exact natc (by omega)) (by omega) (hr.sl.ao (by omega))) ?_
              refine PL_val rfl (fun w => R_move rfl) ?_
              refine PL_val rfl (fun w => R_idx1 Try.underlying22 Try.ti38 rfl rfl (by with_reducible first | exact natc_k _ | exact natc_a1 _ | exact natc_0 | exact natc_1 | exact natc_2 | exact natc_s1 _ (by omega) | exact natc_a2 _ | exact natc_add _ _ | exact natc_mul _ _ | exact natc (by omega)) (by omega) (hr.sl.ao (by omega))) ?_
              refine PL_end ?_
              refine HL_val rfl (fun w hs => R_load Try.one38 rfl (hold hs g1)) ?_
              refine HL_val rfl (fun w hs => R_len Try.underlying38 rfl) ?_
              refine HL_val rfl (fun w hs => R_load Try.one38 rfl (hold hs k1)) ?_
              refine HL_val rfl (fun w hs => R_len Try.underlying38 rfl) ?_
              first | refine HL_val rfl (fun w hs => R_neq rfl rfl (dtrue (by omega))) ?_ | refine HL_val rfl (fun w hs => R_neq rfl rfl (dfalse (by omega))) ?_ | refine HL_val rfl (fun w hs => R_neq rfl rfl rfl) ?_
              refine HL_tail ?_
              intro w hs
              refine RL_then ?_
              refine W_if_true rfl ?_
              refine W_seq ?_
              refine W_region ?_
              refine L_assign rfl rfl ?_
              refine RL_then ?_
              refine W_ret' ?_
              refine Ex_block_ret ?_
              refine Ex_then_ret ?_
              refine Ex_loop_ret ?_
              refine Ex_block_ret ?_
              refine Ex_then_ret ?_
              refine Ex_done1 rfl rfl ?_
              exact ⟨_, rfl, by rw [he], hs⟩
            · rw [Classical.not_not] at hw
              refine W_seq ?_
              refine W_seq ?_
              refine W_region ?_
              refine L_move rfl rfl ?_
              refine L_move rfl rfl ?_
              refine L_len rfl Try.underlying22 rfl ?_
              first | refine L_lss rfl rfl rfl (dtrue (by omega)) ?_ | refine L_lss rfl rfl rfl (dfalse (by omega)) ?_ | refine L_lss rfl rfl rfl rfl ?_
              refine RL_then ?_
              refine W_if_true rfl ?_
              refine W_skip' ?_
              refine Nx_then ?_
              refine W_seq ?_
              refine W_block ?_
              refine W_seq ?_
              refine W_pht [0, 1, 2, 5, 6] [3, 4, 7, 8, 9] [] (fun _ _ _ => False) Try.mixed (by kernel_rfl) (fun _ _ _ _ _ h => h) hs ?_
              refine PL_val rfl (fun w => R_move rfl) ?_
              refine PL_val rfl (fun w => R_move rfl) ?_
              refine PL_val rfl (fun w => R_idx1 Try.underlying22 Try.ti38 rfl rfl (by with_reducible first | exact natc_k _ | exact natc_a1 _ | exact natc_0 | exact natc_1 | exact natc_2 | exact natc_s1 _ (by omega) | exact natc_a2 _ | exact natc_add _ _ | exact natc_mul _ _ | exact natc (by omega)) (by omega) (hr.sl.ao (by omega))) ?_
              refine PL_val rfl (fun w => R_move rfl) ?_
              refine PL_val rfl (fun w => R_idx1 Try.underlying22 Try.ti38 rfl rfl (by with_reducible first | exact natc_k _ | exact natc_a1 _ | exact natc_0 | exact natc_1 | exact natc_2 | exact natc_s1 _ (by omega) | exact natc_a2 _ | exact natc_add _ _ | exact natc_mul _ _ | exact natc (by omega)) (by omega) (hr.sl.ao (by omega))) ?_
              refine PL_end ?_
              refine HL_val rfl (fun w hs => R_load Try.one38 rfl (hold hs g1)) ?_
              refine HL_val rfl (fun w hs => R_len Try.underlying38 rfl) ?_
              refine HL_val rfl (fun w hs => R_load Try.one38 rfl (hold hs k1)) ?_
              refine HL_val rfl (fun w hs => R_len Try.underlying38 rfl) ?_
              first | refine HL_val rfl (fun w hs => R_neq rfl rfl (dtrue (by omega))) ?_ | refine HL_val rfl (fun w hs => R_neq rfl rfl (dfalse (by omega))) ?_ | refine HL_val rfl (fun w hs => R_neq rfl rfl rfl) ?_
              refine HL_tail ?_
              intro w hs
              refine RL_then ?_
              refine W_if_false rfl ?_
              refine W_skip' ?_
              refine Nx_block ?_
              refine Nx_then ?_
              refine W_region ?_
              refine L_move rfl rfl ?_
              first | refine L_add rfl rfl rfl (wrp_i64 (by omega)) ?_ | refine L_add rfl rfl rfl rfl ?_
              refine L_assign rfl rfl ?_
              refine RL_nil' ?_
              refine Nx_loopP (i + 1, _) (is := [0, 4]) (I' := (fun (i : Nat) (w : World) => (i ≤ k) ∧ (∀ q, q < i → wid rows q = wid rows 0) ∧ (HS w0 w [])) (i + 1) (_)) rfl rfl rfl ?_ ?_
              · refine ⟨by omega, fun q hq => ?_, hs⟩
                by_cases hqi : q = i
                · rw [hqi]; exact hw
                · exact hB q (by omega)
              · omega
          · obtain rfl : k = i := by omega
            have h2 : rows.any (fun r => decide (r.length ≠ wid rows 0)) = false := any_no fun q hq => decide_eq_false fun hn => hn (hB q (by omega))
            refine W_seq ?_
            refine W_seq ?_
            refine W_region ?_
            refine L_move rfl rfl ?_
            refine L_move rfl rfl ?_
            refine L_len rfl Try.underlying22 rfl ?_
            first | refine L_lss rfl rfl rfl (dtrue (by omega)) ?_ | refine L_lss rfl rfl rfl (dfalse (by omega)) ?_ | refine L_lss rfl rfl rfl rfl ?_
            refine RL_then ?_
            refine W_if_false rfl ?_
            refine W_exit' ?_
            refine Ex_then_exit ?_
            refine Ex_loop_exit ?_
            refine Ex_block_hit ?_
            refine Nx_then ?_
            refine W_seq ?_
            refine W_seq ?_
            refine W_region ?_
            refine L_assign rfl rfl ?_
            refine RL_then ?_
            refine W_block ?_
            refine W_loop2 (fun (i : Nat) (w : World) => [(0, .slice a k c), (5, .int .i64 i)]) (fun (i : Nat) (w : World) => w) (fun (i : Nat) (w : World) => (i ≤ k) ∧ (∀ q j, q < i → j < wid rows q → el rows q j ≤ 1099511627776) ∧ (HS w0 w [])) (fun (i : Nat) (w : World) => k - i) (0) (w) (is := [0, 5]) rfl rfl ?_ ?_
            · exact ⟨Nat.zero_le _, fun _ _ h => absurd h (Nat.not_lt_zero _), hs⟩
            · clear hs hi
              intro i w hI
              show W _ _ _ _ [(0, .slice a k c), (5, .int .i64 i)] w
              obtain ⟨hi, hD, hs⟩ := hI
              by_cases hlt : i < k
              · obtain ⟨ai, ci, g1, g2, g3, g4⟩ := hr.row i (by omega)
                obtain ⟨m, hm⟩ : ∃ m, m = (rows.getD i []).length := ⟨_, rfl⟩
                rw [← hm] at g1 g2 g3
                have hra := hr.sl.ao (by omega)
                refine W_seq ?_
                refine W_seq ?_
                refine W_region ?_
                refine L_move rfl rfl ?_
                refine L_move rfl rfl ?_
                refine L_len rfl Try.underlying22 rfl ?_
                first | refine L_lss rfl rfl rfl (dtrue (by omega)) ?_ | refine L_lss rfl rfl rfl (dfalse (by omega)) ?_ | refine L_lss rfl rfl rfl rfl ?_
                refine RL_then ?_
                refine W_if_true rfl ?_
                refine W_skip' ?_
                refine Nx_then ?_
                refine W_seq ?_
                refine W_block ?_
                refine W_seq ?_
                refine W_region ?_
                refine L_assign rfl rfl ?_
                refine RL_then ?_
                refine W_block ?_
                refine W_loop2 (fun (j : Nat) (w : World) => [(0, .slice a k c), (5, .int .i64 i), (6, .int .i64 j)]) (fun (j : Nat) (w : World) => w) (fun (j : Nat) (w : World) => (j ≤ m) ∧ (∀ q, q < j → el rows i q ≤ 1099511627776) ∧ (HS w0 w [])) (fun (j : Nat) (w : World) => m - j) (0) (w) (is := [0, 5, 6]) rfl rfl ?_ ?_
                · exact ⟨Nat.zero_le _, fun _ h => absurd h (Nat.not_lt_zero _), hs⟩
                · clear hs
                  intro j w hI
                  show W _ _ _ _ [(0, .slice a k c), (5, .int .i64 i), (6, .int .i64 j)] w
                  obtain ⟨hj, hE, hs⟩ := hI
                  by_cases hlt2 : j < m
                  · by_cases hw : 1099511627776 < (rows.getD i []).getD j 0
                    · have he : chk rows = 2 := by
                        unfold chk
                        rw [h1, h2, any_idx (p := fun r : List Int => r.any fun c => decide (1099511627776 < c)).2 ⟨i, by omega, show (fun r : List Int => r.any fun c => decide (1099511627776 < c)) (rows.getD i []) = true from anyI.2 ⟨j, by omega, decide_eq_true hw⟩⟩]
                        rfl
                      refine W_seq ?_
                      refine W_seq ?_
                      refine W_region ?_
                      refine L_move rfl rfl ?_
                      refine L_move rfl rfl ?_
                      refine L_move rfl rfl ?_
                      refine L_idx1 rfl Try.underlying22 Try.ti38 rfl rfl (by with_reducible first | exact natc_k _ | exact natc_a1 _ | exact natc_0 | exact natc_1 | exact natc_2 | exact natc_s1 _ (by omega) | exact natc_a2 _ | exact natc_add _ _ | exact natc_mul _ _ | exact natc (by omega)) (by omega) (by first | exact hra | exact g4.ao (by rw [il_length]; omega)) ?_
                      refine L_load rfl Try.one38 rfl (by first | exact (hr.sl.old hs Own.nil).get g1 | exact (g4.old hs Own.nil).get (il_get (by omega))) ?_
                      refine L_len rfl Try.underlying38 rfl ?_
                      first | refine L_lss rfl rfl rfl (dtrue (by omega)) ?_ | refine L_lss rfl rfl rfl (dfalse (by omega)) ?_ | refine L_lss rfl rfl rfl rfl ?_
                      refine RL_then ?_
                      refine W_if_true rfl ?_
                      refine W_skip' ?_
                      refine Nx_then ?_
                      refine W_seq ?_
                      refine W_block ?_
                      refine W_seq ?_
                      refine W_region ?_
                      refine L_move rfl rfl ?_
                      refine L_move rfl rfl ?_
                      refine L_idx1 rfl Try.underlying22 Try.ti38 rfl rfl (by with_reducible first | exact natc_k _ | exact natc_a1 _ | exact natc_0 | exact natc_1 | exact natc_2 | exact natc_s1 _ (by omega) | exact natc_a2 _ | exact natc_add _ _ | exact natc_mul _ _ | exact natc (by omega)) (by omega) (by first | exact hra | exact g4.ao (by rw [il_length]; omega)) ?_
                      refine L_load rfl Try.one38 rfl (by first | exact (hr.sl.old hs Own.nil).get g1 | exact (g4.old hs Own.nil).get (il_get (by omega))) ?_
                      refine L_move rfl rfl ?_
                      refine L_idx1 rfl Try.underlying38 Try.ti2 rfl rfl (by with_reducible first | exact natc_k _ | exact natc_a1 _ | exact natc_0 | exact natc_1 | exact natc_2 | exact natc_s1 _ (by omega) | exact natc_a2 _ | exact natc_add _ _ | exact natc_mul _ _ | exact natc (by omega)) (by omega) (by first | exact hra | exact g4.ao (by rw [il_length]; omega)) ?_
                      refine L_load rfl Try.one2 rfl (by first | exact (hr.sl.old hs Own.nil).get g1 | exact (g4.old hs Own.nil).get (il_get (by omega))) ?_
                      first | refine L_gtr rfl rfl rfl (dtrue (by omega)) ?_ | refine L_gtr rfl rfl rfl (dfalse (by omega)) ?_ | refine L_gtr rfl rfl rfl rfl ?_
                      refine RL_then ?_
                      refine W_if_true rfl ?_
                      refine W_seq ?_
                      refine W_region ?_
                      refine L_assign rfl rfl ?_
                      refine RL_then ?_
                      refine W_ret' ?_
                      refine Ex_block_ret ?_
                      refine Ex_then_ret ?_
                      refine Ex_loop_ret ?_
                      refine Ex_block_ret ?_
                      refine Ex_block_ret ?_
                      refine Ex_then_ret ?_
                      refine Ex_loop_ret ?_
                      refine Ex_block_ret ?_
                      refine Ex_then_ret ?_
                      refine Ex_done1 rfl rfl ?_
                      exact ⟨_, rfl, by rw [he], hs⟩
                    · refine W_seq ?_
                      refine W_seq ?_
                      refine W_region ?_
                      refine L_move rfl rfl ?_
                      refine L_move rfl rfl ?_
                      refine L_move rfl rfl ?_
                      refine L_idx1 rfl Try.underlying22 Try.ti38 rfl rfl (by with_reducible first | exact natc_k _ | exact natc_a1 _ | exact natc_0 | exact natc_1 | exact natc_2 | exact natc_s1 _ (by omega) | exact natc_a2 _ | exact natc_add _ _ | exact natc_mul _ _ | exact natc (by omega)) (by omega) (by first | exact hra | exact g4.ao (by rw [il_length]; omega)) ?_
                      refine L_load rfl Try.one38 rfl (by first | exact (hr.sl.old hs Own.nil).get g1 | exact (g4.old hs Own.nil).get (il_get (by omega))) ?_
                      refine L_len rfl Try.underlying38 rfl ?_
                      first | refine L_lss rfl rfl rfl (dtrue (by omega)) ?_ | refine L_lss rfl rfl rfl (dfalse (by omega)) ?_ | refine L_lss rfl rfl rfl rfl ?_
                      refine RL_then ?_
                      refine W_if_true rfl ?_
                      refine W_skip' ?_
                      refine Nx_then ?_
                      refine W_seq ?_
                      refine W_block ?_
                      refine W_seq ?_
                      refine W_region ?_
                      refine L_move rfl rfl ?_
                      refine L_move rfl rfl ?_
                      refine L_idx1 rfl Try.underlying22 Try.ti38 rfl rfl (by with_reducible first | exact natc_k _ | exact natc_a1 _ | exact natc_0 | exact natc_1 | exact natc_2 | exact natc_s1 _ (by omega) | exact natc_a2 _ | exact natc_add _ _ | exact natc_mul _ _ | exact natc (by omega)) (by omega) (by first | exact hra | exact g4.ao (by rw [il_length]; omega)) ?_
                      refine L_load rfl Try.one38 rfl (by first | exact (hr.sl.old hs Own.nil).get g1 | exact (g4.old hs Own.nil).get (il_get (by omega))) ?_
                      refine L_move rfl rfl ?_
                      refine L_idx1 rfl Try.underlying38 Try.ti2 rfl rfl (by with_reducible first | exact natc_k _ | exact natc_a1 _ | exact natc_0 | exact natc_1 | exact natc_2 | exact natc_s1 _ (by omega) | exact natc_a2 _ | exact natc_add _ _ | exact natc_mul _ _ | exact natc (by omega)) (by omega) (by first | exact hra | exact g4.ao (by rw [il_length]; omega)) ?_
                      refine L_load rfl Try.one2 rfl (by first | exact (hr.sl.old hs Own.nil).get g1 | exact (g4.old hs Own.nil).get (il_get (by omega))) ?_
                      first | refine L_gtr rfl rfl rfl (dtrue (by omega)) ?_ | refine L_gtr rfl rfl rfl (dfalse (by omega)) ?_ | refine L_gtr rfl rfl rfl rfl ?_
                      refine RL_then ?_
                      refine W_if_false rfl ?_
                      refine W_skip' ?_
                      refine Nx_block ?_
                      refine Nx_then ?_
                      refine W_region ?_
                      refine L_move rfl rfl ?_
                      first | refine L_add rfl rfl rfl (wrp_i64 (by omega)) ?_ | refine L_add rfl rfl rfl rfl ?_
                      refine L_assign rfl rfl ?_
                      refine RL_nil' ?_
                      refine Nx_loopP (j + 1, w) (is := [0, 5, 6]) (I' := (fun (j : Nat) (w : World) => (j ≤ m) ∧ (∀ q, q < j → el rows i q ≤ 1099511627776) ∧ (HS w0 w [])) (j + 1) (w)) rfl rfl rfl ?_ ?_
                      · refine ⟨by omega, fun q hq => ?_, hs⟩
                        by_cases hqj : q = j
                        · rw [hqj]; simp only [el]; omega
                        · exact hE q (by omega)
                      · omega
                  · refine W_seq ?_
                    refine W_seq ?_
                    refine W_region ?_
                    refine L_move rfl rfl ?_
                    refine L_move rfl rfl ?_
                    refine L_move rfl rfl ?_
                    refine L_idx1 rfl Try.underlying22 Try.ti38 rfl rfl (by with_reducible first | exact natc_k _ | exact natc_a1 _ | exact natc_0 | exact natc_1 | exact natc_2 | exact natc_s1 _ (by omega) | exact natc_a2 _ | exact natc_add _ _ | exact natc_mul _ _ | exact natc (by omega)) (by omega) (by first | exact hra | exact g4.ao (by rw [il_length]; omega)) ?_
                    refine L_load rfl Try.one38 rfl (by first | exact (hr.sl.old hs Own.nil).get g1 | exact (g4.old hs Own.nil).get (il_get (by omega))) ?_
                    refine L_len rfl Try.underlying38 rfl ?_
                    first | refine L_lss rfl rfl rfl (dtrue (by omega)) ?_ | refine L_lss rfl rfl rfl (dfalse (by omega)) ?_ | refine L_lss rfl rfl rfl rfl ?_
                    refine RL_then ?_
                    refine W_if_false rfl ?_
                    refine W_exit' ?_
                    refine Ex_then_exit ?_
                    refine Ex_loop_exit ?_
                    refine Ex_block_hit ?_
                    refine Nx_block ?_
                    refine Nx_then ?_
                    refine W_region ?_
                    refine L_move rfl rfl ?_
                    first | refine L_add rfl rfl rfl (wrp_i64 (by omega)) ?_ | refine L_add rfl rfl rfl rfl ?_
                    refine L_assign rfl rfl ?_
                    refine RL_nil' ?_
                    refine Nx_loopP (i + 1, w) (is := [0, 5]) (I' := (fun (i : Nat) (w : World) => (i ≤ k) ∧ (∀ q j, q < i → j < wid rows q → el rows q j ≤ 1099511627776) ∧ (HS w0 w [])) (i + 1) (w)) rfl rfl rfl ?_ ?_
                    · refine ⟨by omega, fun q j2 hq hj2 => ?_, hs⟩
                      by_cases hqi : q = i
                      · rw [hqi] at hj2 ⊢; exact hE j2 (by simp only [wid] at hj2; omega)
                      · exact hD q j2 (by omega) hj2
                    · omega
              · obtain rfl : k = i := by omega
                have he : chk rows = 0 := by
                  unfold chk
                  rw [h1, h2, any_no fun q hq => anyI_no fun j hj => decide_eq_false (by have := hD q j (by omega) hj; simp only [el] at this; omega)]
                  rfl
                refine W_seq ?_
                refine W_seq ?_
                refine W_region ?_
                refine L_move rfl rfl ?_
                refine L_move rfl rfl ?_
                refine L_len rfl Try.underlying22 rfl ?_
                first | refine L_lss rfl rfl rfl (dtrue (by omega)) ?_ | refine L_lss rfl rfl rfl (dfalse (by omega)) ?_ | refine L_lss rfl rfl rfl rfl ?_
                refine RL_then ?_
                refine W_if_false rfl ?_
                refine W_exit' ?_
                refine Ex_then_exit ?_
                refine Ex_loop_exit ?_
                refine Ex_block_hit ?_
                refine Nx_then ?_
                refine W_seq ?_
                refine W_region ?_
                refine L_assign rfl rfl ?_
                refine RL_then ?_
                refine W_ret' ?_
                refine Ex_done1 rfl rfl ?_
                exact ⟨_, rfl, by rw [he], hs⟩
theorem rtotal_ok (a : Option Addr) (k cp : Nat) (rows : List (List Int)) (rvs : List Value) (am : Option Addr) (km cm : Nat) (mt : List Int) (w0 : World) (hr : RowsI w0 a rows rvs) (hk : rows.length = k) (hk63 : k ≤ 17592186043904) (hm : SlC w0 am (il mt)) (hkm : mt.length = km) :
    Ret Try.prog 20 [.slice a k cp, .slice am km cm] w0 fun v w' => ∃ t e, v = .tuple #[.int .i64 t, .int .i64 e] ∧ HS w0 w' [] ∧ TotalAns rows mt t e := by
  refine Ret.start fun w hs => ?_
  have hrl := hr.len
  refine calls_of_W Try.func20 rfl rfl rfl ?_
  refine W_seq ?_
  refine W_region ?_
  refine L_assign rfl rfl ?_
  refine L_assign rfl rfl ?_
  refine RL_then ?_
  refine W_seq ?_
  refine W_region ?_
  refine L_move rfl rfl ?_
  refine L_call rfl Try.fun27 rfl (rcheck_ok a k cp rows rvs w (hr.old hs Own.nil) hk hk63) ?_
  rintro _ w1 ⟨rfl, hs'⟩
  replace hs := hs.nil hs'
  clear hs'
  by_cases he0 : chk rows ≠ 0
  · refine L_assign rfl rfl ?_
    refine RL_then ?_
    refine W_seq ?_
    refine W_seq ?_
    refine W_region ?_
    refine L_move rfl rfl ?_
    first | refine L_neq rfl rfl rfl (dtrue (by omega)) ?_ | refine L_neq rfl rfl rfl (dfalse (by omega)) ?_ | refine L_neq rfl rfl rfl rfl ?_
    refine RL_then ?_
    refine W_if_true rfl ?_
    refine W_seq ?_
    refine W_region ?_
    refine L_move rfl rfl ?_
    refine L_assign rfl rfl ?_
    refine L_assign rfl rfl ?_
    refine RL_then ?_
    refine W_ret' ?_
    refine Ex_then_ret ?_
    refine Ex_done2 rfl rfl rfl ?_
    exact ⟨_, rfl, _, _, rfl, hs, .inl ⟨he0, rfl, rfl⟩⟩
  · rw [Classical.not_not] at he0
    rw [he0]
    by_cases hkk : km = k
    · have hF := fine_of_chk he0
      have hk256 := hF.len
      subst hkk
      refine L_assign rfl rfl ?_
      refine RL_then ?_
      refine W_seq ?_
      refine W_seq ?_
      refine W_region ?_
      refine L_move rfl rfl ?_
      first | refine L_neq rfl rfl rfl (dtrue (by omega)) ?_ | refine L_neq rfl rfl rfl (dfalse (by omega)) ?_ | refine L_neq rfl rfl rfl rfl ?_
      refine RL_then ?_
      refine W_if_false rfl ?_
      refine W_skip' ?_
      refine Nx_then ?_
      refine W_seq ?_
      refine W_seq ?_
      refine W_region ?_
      refine L_move rfl rfl ?_
      refine L_len rfl Try.underlying25 rfl ?_
      refine L_move rfl rfl ?_
      refine L_len rfl Try.underlying22 rfl ?_
      first | refine L_neq rfl rfl rfl (dtrue (by omega)) ?_ | refine L_neq rfl rfl rfl (dfalse (by omega)) ?_ | refine L_neq rfl rfl rfl rfl ?_
      refine RL_then ?_
      refine W_if_false rfl ?_
      refine W_skip' ?_
      refine Nx_then ?_
      refine W_seq ?_
      refine W_region ?_
      refine L_assign rfl rfl ?_
      refine RL_then ?_
      refine W_seq ?_
      refine W_seq ?_
      refine W_region ?_
      refine L_assign rfl rfl ?_
      refine RL_then ?_
      refine W_block ?_
      refine W_loop3 (fun (i : Nat) (t : Int) (w : World) => [(0, .slice a km cp), (1, .slice am km cm), (7, .int .i64 t), (8, .int .i64 i)]) (fun (i : Nat) (t : Int) (w : World) => w) (fun (i : Nat) (t : Int) (w : World) => (i ≤ km) ∧ (t = tot i (fun q => if mt.getD q 0 = -1 then 0 else el rows q (mt.getD q 0).toNat)) ∧ (0 ≤ t ∧ t ≤ i * 1099511627776) ∧ (∀ q, q < i → ¬badT rows mt q) ∧ (HS w0 w [])) (fun (i : Nat) (t : Int) (w : World) => km - i) (0) (0) (_) (is := [0, 1, 7, 8]) rfl rfl ?_ ?_
      · exact ⟨Nat.zero_le _, rfl, ⟨by omega, by omega⟩, fun _ h => absurd h (Nat.not_lt_zero _), hs⟩
      · clear hs
        intro i t w hI
        show W _ _ _ _ [(0, .slice a km cp), (1, .slice am km cm), (7, .int .i64 t), (8, .int .i64 i)] w
        obtain ⟨hi, ht, htb, hnb, hs⟩ := hI
        by_cases hlt : i < km
        · obtain ⟨ai, ci, g1, g2, g3, g4⟩ := hr.row i (by omega)
          have hma := hm.ao (by rw [il_length]; omega)
          have hra := hr.sl.ao (by omega)
          obtain ⟨x, hx⟩ : ∃ x, x = mt.getD i 0 := ⟨_, rfl⟩
          refine W_seq ?_
          refine W_seq ?_
          refine W_region ?_
          refine L_move rfl rfl ?_
          refine L_move rfl rfl ?_
          refine L_len rfl Try.underlying25 rfl ?_
          first | refine L_lss rfl rfl rfl (dtrue (by omega)) ?_ | refine L_lss rfl rfl rfl (dfalse (by omega)) ?_ | refine L_lss rfl rfl rfl rfl ?_
          refine RL_then ?_
          refine W_if_true rfl ?_
          refine W_skip' ?_
          refine Nx_then ?_
          refine W_seq ?_
          refine W_block ?_
          refine W_seq ?_
          refine W_region ?_
          refine L_move rfl rfl ?_
          refine L_move rfl rfl ?_
          refine L_idx1 rfl Try.underlying25 Try.ti3 rfl rfl (by with_reducible first | exact natc_k _ | exact natc_a1 _ | exact natc_0 | exact natc_1 | exact natc_2 | exact natc_s1 _ (by omega) | exact natc_a2 _ | exact natc_add _ _ | exact natc_mul _ _ | exact natc (by omega)) (by omega) (by first | rfl | exact hma | exact hra | exact g4.ao (by rw [il_length]; omega)) ?_
          refine L_load rfl Try.one3 rfl (by first | exact (hm.old hs Own.nil).get (il_get (by omega)) | exact (hr.sl.old hs Own.nil).get g1 | exact (g4.old hs Own.nil).get (il_get (by omega))) ?_
          refine L_assign rfl rfl ?_
          refine RL_then ?_
          refine W_seq ?_
          refine W_seq ?_
          refine W_region ?_
          rw [← hx]
          by_cases hx1 : x = -1
          · refine L_move rfl rfl ?_
            first | refine L_eql rfl rfl rfl (dtrue (by omega)) ?_ | refine L_eql rfl rfl rfl (dfalse (by omega)) ?_ | refine L_eql rfl rfl rfl rfl ?_
            refine RL_then ?_
            refine W_if_true rfl ?_
            refine W_exit' ?_
            refine Ex_then_exit ?_
            refine Ex_block_hit ?_
            refine Nx_then ?_
            refine W_region ?_
            refine L_move rfl rfl ?_
            first | refine L_add rfl rfl rfl (wrp_i64 (by omega)) ?_ | refine L_add rfl rfl rfl rfl ?_
            refine L_assign rfl rfl ?_
            refine RL_nil' ?_
            refine Nx_loopP (i + 1, t, _) (is := [0, 1, 7, 8]) (I' := (fun (i : Nat) (t : Int) (w : World) => (i ≤ km) ∧ (t = tot i (fun q => if mt.getD q 0 = -1 then 0 else el rows q (mt.getD q 0).toNat)) ∧ (0 ≤ t ∧ t ≤ i * 1099511627776) ∧ (∀ q, q < i → ¬badT rows mt q) ∧ (HS w0 w [])) (i + 1) (t) (_)) rfl rfl rfl ?_ ?_
            · refine ⟨by omega, ?_, ⟨by omega, by omega⟩, fun q hq => ?_, hs⟩
              · simp only [tot]; rw [← hx, if_pos hx1, ← ht]; omega
              · by_cases hqi : q = i
                · rw [hqi]; exact fun hb => hb.1 (by rw [← hx, hx1])
                · exact hnb q (by omega)
            · omega
          · have hbadl : ∀ t e, badT rows mt i → t = 0 → e = 170 → TotalAns rows mt t e := fun t e hb h1 h2 => .inr (.inr (.inl ⟨he0, by omega, ⟨i, by omega, hb⟩, h1, h2⟩))
            by_cases hx0 : x < 0
            · refine L_move rfl rfl ?_
              first | refine L_eql rfl rfl rfl (dtrue (by omega)) ?_ | refine L_eql rfl rfl rfl (dfalse (by omega)) ?_ | refine L_eql rfl rfl rfl rfl ?_
              refine RL_then ?_
              refine W_if_false rfl ?_
              refine W_skip' ?_
              refine Nx_then ?_
              refine W_seq ?_
              refine W_seq ?_
              refine W_region ?_
              refine L_move rfl rfl ?_
              first | refine L_lss rfl rfl rfl (dtrue (by omega)) ?_ | refine L_lss rfl rfl rfl (dfalse (by omega)) ?_ | refine L_lss rfl rfl rfl rfl ?_
              refine L_move rfl rfl ?_
              first | (refine RL_want rfl rfl ?_; refine L_move rfl rfl ?_) | refine RL_skip rfl rfl rfl rfl ?_ | refine RL_skipU rfl rfl rfl ?_
              first | (refine RL_want rfl rfl ?_; refine L_move rfl rfl ?_) | refine RL_skip rfl rfl rfl rfl ?_ | refine RL_skipU rfl rfl rfl ?_
              first | (refine RL_want rfl rfl ?_; refine L_move rfl rfl ?_) | refine RL_skip rfl rfl rfl rfl ?_ | refine RL_skipU rfl rfl rfl ?_
              first | (refine RL_want rfl rfl ?_; refine L_idx1 rfl Try.underlying22 Try.ti38 rfl rfl (by with_reducible first | exact natc_k _ | exact natc_a1 _ | exact natc_0 | exact natc_1 | exact natc_2 | exact natc_s1 _ (by omega) | exact natc_a2 _ | exact natc_add _ _ | exact natc_mul _ _ | exact natc (by omega)) (by omega) (by first | rfl | exact hma | exact hra | exact g4.ao (by rw [il_length]; omega)) ?_) | refine RL_skip rfl rfl rfl rfl ?_ | refine RL_skipU rfl rfl rfl ?_
              first | (refine RL_want rfl rfl ?_; refine L_load rfl Try.one38 rfl (by first | exact (hm.old hs Own.nil).get (il_get (by omega)) | exact (hr.sl.old hs Own.nil).get g1 | exact (g4.old hs Own.nil).get (il_get (by omega))) ?_) | refine RL_skip rfl rfl rfl rfl ?_ | refine RL_skipU rfl rfl rfl ?_
              first | (refine RL_want rfl rfl ?_; refine L_len rfl Try.underlying38 rfl ?_) | refine RL_skip rfl rfl rfl rfl ?_ | refine RL_skipU rfl rfl rfl ?_
              first | (refine RL_want rfl rfl ?_; (first | refine L_geq rfl rfl rfl (dtrue (by omega)) ?_ | refine L_geq rfl rfl rfl (dfalse (by omega)) ?_ | refine L_geq rfl rfl rfl rfl ?_)) | refine RL_skip rfl rfl rfl rfl ?_ | refine RL_skipU rfl rfl rfl ?_
              first | refine L_pick_t rfl rfl rfl ?_ | refine L_pick_f rfl rfl rfl ?_
              refine L_move rfl rfl ?_
              first | (refine RL_want rfl rfl ?_; refine L_move rfl rfl ?_) | refine RL_skip rfl rfl rfl rfl ?_ | refine RL_skipU rfl rfl rfl ?_
              first | (refine RL_want rfl rfl ?_; refine L_move rfl rfl ?_) | refine RL_skip rfl rfl rfl rfl ?_ | refine RL_skipU rfl rfl rfl ?_
              first | (refine RL_want rfl rfl ?_; refine L_idx1 rfl Try.underlying22 Try.ti38 rfl rfl (by with_reducible first | exact natc_k _ | exact natc_a1 _ | exact natc_0 | exact natc_1 | exact natc_2 | exact natc_s1 _ (by omega) | exact natc_a2 _ | exact natc_add _ _ | exact natc_mul _ _ | exact natc (by omega)) (by omega) (by first | rfl | exact hma | exact hra | exact g4.ao (by rw [il_length]; omega)) ?_) | refine RL_skip rfl rfl rfl rfl ?_ | refine RL_skipU rfl rfl rfl ?_
              first | (refine RL_want rfl rfl ?_; refine L_load rfl Try.one38 rfl (by first | exact (hm.old hs Own.nil).get (il_get (by omega)) | exact (hr.sl.old hs Own.nil).get g1 | exact (g4.old hs Own.nil).get (il_get (by omega))) ?_) | refine RL_skip rfl rfl rfl rfl ?_ | refine RL_skipU rfl rfl rfl ?_
              first | (refine RL_want rfl rfl ?_; refine L_move rfl rfl ?_) | refine RL_skip rfl rfl rfl rfl ?_ | refine RL_skipU rfl rfl rfl ?_
              first | (refine RL_want rfl rfl ?_; refine L_idx1 rfl Try.underlying38 Try.ti2 rfl rfl (by with_reducible first | exact natc_k _ | exact natc_a1 _ | exact natc_0 | exact natc_1 | exact natc_2 | exact natc_s1 _ (by omega) | exact natc_a2 _ | exact natc_add _ _ | exact natc_mul _ _ | exact natc (by omega)) (by omega) (by first | rfl | exact hma | exact hra | exact g4.ao (by rw [il_length]; omega)) ?_) | refine RL_skip rfl rfl rfl rfl ?_ | refine RL_skipU rfl rfl rfl ?_
              first | (refine RL_want rfl rfl ?_; refine L_load rfl Try.one2 rfl (by first | exact (hm.old hs Own.nil).get (il_get (by omega)) | exact (hr.sl.old hs Own.nil).get g1 | exact (g4.old hs Own.nil).get (il_get (by omega))) ?_) | refine RL_skip rfl rfl rfl rfl ?_ | refine RL_skipU rfl rfl rfl ?_
              first | (refine RL_want rfl rfl ?_; (first | refine L_lss rfl rfl rfl (dtrue (by omega)) ?_ | refine L_lss rfl rfl rfl (dfalse (by omega)) ?_ | refine L_lss rfl rfl rfl rfl ?_)) | refine RL_skip rfl rfl rfl rfl ?_ | refine RL_skipU rfl rfl rfl ?_
              first | refine L_pick_t rfl rfl rfl ?_ | refine L_pick_f rfl rfl rfl ?_
              refine RL_then ?_
              refine W_if_true rfl ?_
              refine W_seq ?_
              refine W_region ?_
              refine L_assign rfl rfl ?_
              refine L_assign rfl rfl ?_
              refine RL_then ?_
              refine W_ret' ?_
              refine Ex_then_ret ?_
              refine Ex_block_ret ?_
              refine Ex_then_ret ?_
              refine Ex_loop_ret ?_
              refine Ex_block_ret ?_
              refine Ex_then_ret ?_
              refine Ex_done2 rfl rfl rfl ?_
              exact ⟨_, rfl, _, _, rfl, hs, hbadl _ _ ⟨by rw [← hx]; exact hx1, .inl (by rw [← hx]; exact hx0)⟩ rfl rfl⟩
            · obtain ⟨j, hj⟩ : ∃ j : Nat, x = (j : Int) := ⟨x.toNat, by omega⟩
              rw [hj] at hx hx1 hx0 ⊢
              by_cases hjw : (rows.getD i []).length ≤ j
              · refine L_move rfl rfl ?_
                first | refine L_eql rfl rfl rfl (dtrue (by omega)) ?_ | refine L_eql rfl rfl rfl (dfalse (by omega)) ?_ | refine L_eql rfl rfl rfl rfl ?_
                refine RL_then ?_
                refine W_if_false rfl ?_
                refine W_skip' ?_
                refine Nx_then ?_
                refine W_seq ?_
                refine W_seq ?_
                refine W_region ?_
                refine L_move rfl rfl ?_
                first | refine L_lss rfl rfl rfl (dtrue (by omega)) ?_ | refine L_lss rfl rfl rfl (dfalse (by omega)) ?_ | refine L_lss rfl rfl rfl rfl ?_
                refine L_move rfl rfl ?_
                first | (refine RL_want rfl rfl ?_; refine L_move rfl rfl ?_) | refine RL_skip rfl rfl rfl rfl ?_ | refine RL_skipU rfl rfl rfl ?_
                first | (refine RL_want rfl rfl ?_; refine L_move rfl rfl ?_) | refine RL_skip rfl rfl rfl rfl ?_ | refine RL_skipU rfl rfl rfl ?_
                first | (refine RL_want rfl rfl ?_; refine L_move rfl rfl ?_) | refine RL_skip rfl rfl rfl rfl ?_ | refine RL_skipU rfl rfl rfl ?_
                first | (refine RL_want rfl rfl ?_; refine L_idx1 rfl Try.underlying22 Try.ti38 rfl rfl (by with_reducible first | exact natc_k _ | exact natc_a1 _ | exact natc_0 | exact natc_1 | exact natc_2 | exact natc_s1 _ (by omega) | exact natc_a2 _ | exact natc_add _ _ | exact natc_mul _ _ | exact natc (by omega)) (by omega) (by first | rfl | exact hma | exact hra | exact g4.ao (by rw [il_length]; omega)) ?_) | refine RL_skip rfl rfl rfl rfl ?_ | refine RL_skipU rfl rfl rfl ?_
                first | (refine RL_want rfl rfl ?_; refine L_load rfl Try.one38 rfl (by first | exact (hm.old hs Own.nil).get (il_get (by omega)) | exact (hr.sl.old hs Own.nil).get g1 | exact (g4.old hs Own.nil).get (il_get (by omega))) ?_) | refine RL_skip rfl rfl rfl rfl ?_ | refine RL_skipU rfl rfl rfl ?_
                first | (refine RL_want rfl rfl ?_; refine L_len rfl Try.underlying38 rfl ?_) | refine RL_skip rfl rfl rfl rfl ?_ | refine RL_skipU rfl rfl rfl ?_
                first | (refine RL_want rfl rfl ?_; (first | refine L_geq rfl rfl rfl (dtrue (by omega)) ?_ | refine L_geq rfl rfl rfl (dfalse (by omega)) ?_ | refine L_geq rfl rfl rfl rfl ?_)) | refine RL_skip rfl rfl rfl rfl ?_ | refine RL_skipU rfl rfl rfl ?_
                first | refine L_pick_t rfl rfl rfl ?_ | refine L_pick_f rfl rfl rfl ?_
                refine L_move rfl rfl ?_
                first | (refine RL_want rfl rfl ?_; refine L_move rfl rfl ?_) | refine RL_skip rfl rfl rfl rfl ?_ | refine RL_skipU rfl rfl rfl ?_
                first | (refine RL_want rfl rfl ?_; refine L_move rfl rfl ?_) | refine RL_skip rfl rfl rfl rfl ?_ | refine RL_skipU rfl rfl rfl ?_
                first | (refine RL_want rfl rfl ?_; refine L_idx1 rfl Try.underlying22 Try.ti38 rfl rfl (by with_reducible first | exact natc_k _ | exact natc_a1 _ | exact natc_0 | exact natc_1 | exact natc_2 | exact natc_s1 _ (by omega) | exact natc_a2 _ | exact natc_add _ _ | exact natc_mul _ _ | exact natc (by omega)) (by omega) (by first | rfl | exact hma | exact hra | exact g4.ao (by rw [il_length]; omega)) ?_) | refine RL_skip rfl rfl rfl rfl ?_ | refine RL_skipU rfl rfl rfl ?_
                first | (refine RL_want rfl rfl ?_; refine L_load rfl Try.one38 rfl (by first | exact (hm.old hs Own.nil).get (il_get (by omega)) | exact (hr.sl.old hs Own.nil).get g1 | exact (g4.old hs Own.nil).get (il_get (by omega))) ?_) | refine RL_skip rfl rfl rfl rfl ?_ | refine RL_skipU rfl rfl rfl ?_
                first | (refine RL_want rfl rfl ?_; refine L_move rfl rfl ?_) | refine RL_skip rfl rfl rfl rfl ?_ | refine RL_skipU rfl rfl rfl ?_
                first | (refine RL_want rfl rfl ?_; refine L_idx1 rfl Try.underlying38 Try.ti2 rfl rfl (by with_reducible first | exact natc_k _ | exact natc_a1 _ | exact natc_0 | exact natc_1 | exact natc_2 | exact natc_s1 _ (by omega) | exact natc_a2 _ | exact natc_add _ _ | exact natc_mul _ _ | exact natc (by omega)) (by omega) (by first | rfl | exact hma | exact hra | exact g4.ao (by rw [il_length]; omega)) ?_) | refine RL_skip rfl rfl rfl rfl ?_ | refine RL_skipU rfl rfl rfl ?_
                first | (refine RL_want rfl rfl ?_; refine L_load rfl Try.one2 rfl (by first | exact (hm.old hs Own.nil).get (il_get (by omega)) | exact (hr.sl.old hs Own.nil).get g1 | exact (g4.old hs Own.nil).get (il_get (by omega))) ?_) | refine RL_skip rfl rfl rfl rfl ?_ | refine RL_skipU rfl rfl rfl ?_
                first | (refine RL_want rfl rfl ?_; (first | refine L_lss rfl rfl rfl (dtrue (by omega)) ?_ | refine L_lss rfl rfl rfl (dfalse (by omega)) ?_ | refine L_lss rfl rfl rfl rfl ?_)) | refine RL_skip rfl rfl rfl rfl ?_ | refine RL_skipU rfl rfl rfl ?_
                first | refine L_pick_t rfl rfl rfl ?_ | refine L_pick_f rfl rfl rfl ?_
                refine RL_then ?_
                refine W_if_true rfl ?_
                refine W_seq ?_
                refine W_region ?_
                refine L_assign rfl rfl ?_
                refine L_assign rfl rfl ?_
                refine RL_then ?_
                refine W_ret' ?_
                refine Ex_then_ret ?_
                refine Ex_block_ret ?_
                refine Ex_then_ret ?_
                refine Ex_loop_ret ?_
                refine Ex_block_ret ?_
                refine Ex_then_ret ?_
                refine Ex_done2 rfl rfl rfl ?_
                exact ⟨_, rfl, _, _, rfl, hs, hbadl _ _ ⟨by rw [← hx]; exact hx1, .inr (.inl (by rw [← hx]; simp only [wid]; omega))⟩ rfl rfl⟩
              · by_cases hneg : (rows.getD i []).getD j 0 < 0
                · refine L_move rfl rfl ?_
                  first | refine L_eql rfl rfl rfl (dtrue (by omega)) ?_ | refine L_eql rfl rfl rfl (dfalse (by omega)) ?_ | refine L_eql rfl rfl rfl rfl ?_
                  refine RL_then ?_
                  refine W_if_false rfl ?_
                  refine W_skip' ?_
                  refine Nx_then ?_
                  refine W_seq ?_
                  refine W_seq ?_
                  refine W_region ?_
                  refine L_move rfl rfl ?_
                  first | refine L_lss rfl rfl rfl (dtrue (by omega)) ?_ | refine L_lss rfl rfl rfl (dfalse (by omega)) ?_ | refine L_lss rfl rfl rfl rfl ?_
                  refine L_move rfl rfl ?_
                  first | (refine RL_want rfl rfl ?_; refine L_move rfl rfl ?_) | refine RL_skip rfl rfl rfl rfl ?_ | refine RL_skipU rfl rfl rfl ?_
                  first | (refine RL_want rfl rfl ?_; refine L_move rfl rfl ?_) | refine RL_skip rfl rfl rfl rfl ?_ | refine RL_skipU rfl rfl rfl ?_
                  first | (refine RL_want rfl rfl ?_; refine L_move rfl rfl ?_) | refine RL_skip rfl rfl rfl rfl ?_ | refine RL_skipU rfl rfl rfl ?_
                  first | (refine RL_want rfl rfl ?_; refine L_idx1 rfl Try.underlying22 Try.ti38 rfl rfl (by with_reducible first | exact natc_k _ | exact natc_a1 _ | exact natc_0 | exact natc_1 | exact natc_2 | exact natc_s1 _ (by omega) | exact natc_a2 _ | exact natc_add _ _ | exact natc_mul _ _ | exact natc (by omega)) (by omega) (by first | rfl | exact hma | exact hra | exact g4.ao (by rw [il_length]; omega)) ?_) | refine RL_skip rfl rfl rfl rfl ?_ | refine RL_skipU rfl rfl rfl ?_
                  first | (refine RL_want rfl rfl ?_; refine L_load rfl Try.one38 rfl (by first | exact (hm.old hs Own.nil).get (il_get (by omega)) | exact (hr.sl.old hs Own.nil).get g1 | exact (g4.old hs Own.nil).get (il_get (by omega))) ?_) | refine RL_skip rfl rfl rfl rfl ?_ | refine RL_skipU rfl rfl rfl ?_
                  first | (refine RL_want rfl rfl ?_; refine L_len rfl Try.underlying38 rfl ?_) | refine RL_skip rfl rfl rfl rfl ?_ | refine RL_skipU rfl rfl rfl ?_
                  first | (refine RL_want rfl rfl ?_; (first | refine L_geq rfl rfl rfl (dtrue (by omega)) ?_ | refine L_geq rfl rfl rfl (dfalse (by omega)) ?_ | refine L_geq rfl rfl rfl rfl ?_)) | refine RL_skip rfl rfl rfl rfl ?_ | refine RL_skipU rfl rfl rfl ?_
                  first | refine L_pick_t rfl rfl rfl ?_ | refine L_pick_f rfl rfl rfl ?_
                  refine L_move rfl rfl ?_
                  first | (refine RL_want rfl rfl ?_; refine L_move rfl rfl ?_) | refine RL_skip rfl rfl rfl rfl ?_ | refine RL_skipU rfl rfl rfl ?_
                  first | (refine RL_want rfl rfl ?_; refine L_move rfl rfl ?_) | refine RL_skip rfl rfl rfl rfl ?_ | refine RL_skipU rfl rfl rfl ?_
                  first | (refine RL_want rfl rfl ?_; refine L_idx1 rfl Try.underlying22 Try.ti38 rfl rfl (by with_reducible first | exact natc_k _ | exact natc_a1 _ | exact natc_0 | exact natc_1 | exact natc_2 | exact natc_s1 _ (by omega) | exact natc_a2 _ | exact natc_add _ _ | exact natc_mul _ _ | exact natc (by omega)) (by omega) (by first | rfl | exact hma | exact hra | exact g4.ao (by rw [il_length]; omega)) ?_) | refine RL_skip rfl rfl rfl rfl ?_ | refine RL_skipU rfl rfl rfl ?_
                  first | (refine RL_want rfl rfl ?_; refine L_load rfl Try.one38 rfl (by first | exact (hm.old hs Own.nil).get (il_get (by omega)) | exact (hr.sl.old hs Own.nil).get g1 | exact (g4.old hs Own.nil).get (il_get (by omega))) ?_) | refine RL_skip rfl rfl rfl rfl ?_ | refine RL_skipU rfl rfl rfl ?_
                  first | (refine RL_want rfl rfl ?_; refine L_move rfl rfl ?_) | refine RL_skip rfl rfl rfl rfl ?_ | refine RL_skipU rfl rfl rfl ?_
                  first | (refine RL_want rfl rfl ?_; refine L_idx1 rfl Try.underlying38 Try.ti2 rfl rfl (by with_reducible first | exact natc_k _ | exact natc_a1 _ | exact natc_0 | exact natc_1 | exact natc_2 | exact natc_s1 _ (by omega) | exact natc_a2 _ | exact natc_add _ _ | exact natc_mul _ _ | exact natc (by omega)) (by omega) (by first | rfl | exact hma | exact hra | exact g4.ao (by rw [il_length]; omega)) ?_) | refine RL_skip rfl rfl rfl rfl ?_ | refine RL_skipU rfl rfl rfl ?_
                  first | (refine RL_want rfl rfl ?_; refine L_load rfl Try.one2 rfl (by first | exact (hm.old hs Own.nil).get (il_get (by omega)) | exact (hr.sl.old hs Own.nil).get g1 | exact (g4.old hs Own.nil).get (il_get (by omega))) ?_) | refine RL_skip rfl rfl rfl rfl ?_ | refine RL_skipU rfl rfl rfl ?_
                  first | (refine RL_want rfl rfl ?_; (first | refine L_lss rfl rfl rfl (dtrue (by omega)) ?_ | refine L_lss rfl rfl rfl (dfalse (by omega)) ?_ | refine L_lss rfl rfl rfl rfl ?_)) | refine RL_skip rfl rfl rfl rfl ?_ | refine RL_skipU rfl rfl rfl ?_
                  first | refine L_pick_t rfl rfl rfl ?_ | refine L_pick_f rfl rfl rfl ?_
                  refine RL_then ?_
                  refine W_if_true rfl ?_
                  refine W_seq ?_
                  refine W_region ?_
                  refine L_assign rfl rfl ?_
                  refine L_assign rfl rfl ?_
                  refine RL_then ?_
                  refine W_ret' ?_
                  refine Ex_then_ret ?_
                  refine Ex_block_ret ?_
                  refine Ex_then_ret ?_
                  refine Ex_loop_ret ?_
                  refine Ex_block_ret ?_
                  refine Ex_then_ret ?_
                  refine Ex_done2 rfl rfl rfl ?_
                  exact ⟨_, rfl, _, _, rfl, hs, hbadl _ _ ⟨by rw [← hx]; exact hx1, .inr (.inr (.inl (by rw [← hx, Int.toNat_natCast]; exact hneg)))⟩ rfl rfl⟩
                · have hel : (rows.getD i []).getD j 0 ≤ 1099511627776 := hF.cost i j (by omega) (by show j < (rows.getD i []).length; omega)
                  refine L_move rfl rfl ?_
                  first | refine L_eql rfl rfl rfl (dtrue (by omega)) ?_ | refine L_eql rfl rfl rfl (dfalse (by omega)) ?_ | refine L_eql rfl rfl rfl rfl ?_
                  refine RL_then ?_
                  refine W_if_false rfl ?_
                  refine W_skip' ?_
                  refine Nx_then ?_
                  refine W_seq ?_
                  refine W_seq ?_
                  refine W_region ?_
                  refine L_move rfl rfl ?_
                  first | refine L_lss rfl rfl rfl (dtrue (by omega)) ?_ | refine L_lss rfl rfl rfl (dfalse (by omega)) ?_ | refine L_lss rfl rfl rfl rfl ?_
                  refine L_move rfl rfl ?_
                  first | (refine RL_want rfl rfl ?_; refine L_move rfl rfl ?_) | refine RL_skip rfl rfl rfl rfl ?_ | refine RL_skipU rfl rfl rfl ?_
                  first | (refine RL_want rfl rfl ?_; refine L_move rfl rfl ?_) | refine RL_skip rfl rfl rfl rfl ?_ | refine RL_skipU rfl rfl rfl ?_
                  first | (refine RL_want rfl rfl ?_; refine L_move rfl rfl ?_) | refine RL_skip rfl rfl rfl rfl ?_ | refine RL_skipU rfl rfl rfl ?_
                  first | (refine RL_want rfl rfl ?_; refine L_idx1 rfl Try.underlying22 Try.ti38 rfl rfl (by with_reducible first | exact natc_k _ | exact natc_a1 _ | exact natc_0 | exact natc_1 | exact natc_2 | exact natc_s1 _ (by omega) | exact natc_a2 _ | exact natc_add _ _ | exact natc_mul _ _ | exact natc (by omega)) (by omega) (by first | rfl | exact hma | exact hra | exact g4.ao (by rw [il_length]; omega)) ?_) | refine RL_skip rfl rfl rfl rfl ?_ | refine RL_skipU rfl rfl rfl ?_
                  first | (refine RL_want rfl rfl ?_; refine L_load rfl Try.one38 rfl (by first | exact (hm.old hs Own.nil).get (il_get (by omega)) | exact (hr.sl.old hs Own.nil).get g1 | exact (g4.old hs Own.nil).get (il_get (by omega))) ?_) | refine RL_skip rfl rfl rfl rfl ?_ | refine RL_skipU rfl rfl rfl ?_
                  first | (refine RL_want rfl rfl ?_; refine L_len rfl Try.underlying38 rfl ?_) | refine RL_skip rfl rfl rfl rfl ?_ | refine RL_skipU rfl rfl rfl ?_
                  first | (refine RL_want rfl rfl ?_; (first | refine L_geq rfl rfl rfl (dtrue (by omega)) ?_ | refine L_geq rfl rfl rfl (dfalse (by omega)) ?_ | refine L_geq rfl rfl rfl rfl ?_)) | refine RL_skip rfl rfl rfl rfl ?_ | refine RL_skipU rfl rfl rfl ?_
                  first | refine L_pick_t rfl rfl rfl ?_ | refine L_pick_f rfl rfl rfl ?_
                  refine L_move rfl rfl ?_
                  first | (refine RL_want rfl rfl ?_; refine L_move rfl rfl ?_) | refine RL_skip rfl rfl rfl rfl ?_ | refine RL_skipU rfl rfl rfl ?_
                  first | (refine RL_want rfl rfl ?_; refine L_move rfl rfl ?_) | refine RL_skip rfl rfl rfl rfl ?_ | refine RL_skipU rfl rfl rfl ?_
                  first | (refine RL_want rfl rfl ?_; refine L_idx1 rfl Try.underlying22 Try.ti38 rfl rfl (by with_reducible first | exact natc_k _ | exact natc_a1 _ | exact natc_0 | exact natc_1 | exact natc_2 | exact natc_s1 _ (by omega) | exact natc_a2 _ | exact natc_add _ _ | exact natc_mul _ _ | exact natc (by omega)) (by omega) (by first | rfl | exact hma | exact hra | exact g4.ao (by rw [il_length]; omega)) ?_) | refine RL_skip rfl rfl rfl rfl ?_ | refine RL_skipU rfl rfl rfl ?_
                  first | (refine RL_want rfl rfl ?_; refine L_load rfl Try.one38 rfl (by first | exact (hm.old hs Own.nil).get (il_get (by omega)) | exact (hr.sl.old hs Own.nil).get g1 | exact (g4.old hs Own.nil).get (il_get (by omega))) ?_) | refine RL_skip rfl rfl rfl rfl ?_ | refine RL_skipU rfl rfl rfl ?_
                  first | (refine RL_want rfl rfl ?_; refine L_move rfl rfl ?_) | refine RL_skip rfl rfl rfl rfl ?_ | refine RL_skipU rfl rfl rfl ?_
                  first | (refine RL_want rfl rfl ?_; refine L_idx1 rfl Try.underlying38 Try.ti2 rfl rfl (by with_reducible first | exact natc_k _ | exact natc_a1 _ | exact natc_0 | exact natc_1 | exact natc_2 | exact natc_s1 _ (by omega) | exact natc_a2 _ | exact natc_add _ _ | exact natc_mul _ _ | exact natc (by omega)) (by omega) (by first | rfl | exact hma | exact hra | exact g4.ao (by rw [il_length]; omega)) ?_) | refine RL_skip rfl rfl rfl rfl ?_ | refine RL_skipU rfl rfl rfl ?_
                  first | (refine RL_want rfl rfl ?_; refine L_load rfl Try.one2 rfl (by first | exact (hm.old hs Own.nil).get (il_get (by omega)) | exact (hr.sl.old hs Own.nil).get g1 | exact (g4.old hs Own.nil).get (il_get (by omega))) ?_) | refine RL_skip rfl rfl rfl rfl ?_ | refine RL_skipU rfl rfl rfl ?_
                  first | (refine RL_want rfl rfl ?_; (first | refine L_lss rfl rfl rfl (dtrue (by omega)) ?_ | refine L_lss rfl rfl rfl (dfalse (by omega)) ?_ | refine L_lss rfl rfl rfl rfl ?_)) | refine RL_skip rfl rfl rfl rfl ?_ | refine RL_skipU rfl rfl rfl ?_
                  first | refine L_pick_t rfl rfl rfl ?_ | refine L_pick_f rfl rfl rfl ?_
                  refine RL_then ?_
                  refine W_if_false rfl ?_
                  refine W_skip' ?_
                  refine Nx_then ?_
                  refine W_seq ?_
                  refine W_seq ?_
                  refine W_region ?_
                  refine L_assign rfl rfl ?_
                  refine RL_then ?_
                  refine W_cut1 (fun (w : World) => [(0, .slice a km cp), (1, .slice am km cm), (7, .int .i64 t), (8, .int .i64 i), (9, .int .i64 j)]) (fun (w : World) => w) (fun (w : World) => (∀ q, q < i → mt.getD q 0 ≠ (j : Int)) ∧ (HS w0 w [])) ?_ ?_
                  · refine W_block ?_
                    refine W_loop2 (fun (q : Nat) (w : World) => [(0, .slice a km cp), (1, .slice am km cm), (7, .int .i64 t), (8, .int .i64 i), (9, .int .i64 j), (10, .int .i64 q)]) (fun (q : Nat) (w : World) => w) (fun (q : Nat) (w : World) => (q ≤ i) ∧ (∀ r, r < q → mt.getD r 0 ≠ (j : Int)) ∧ (HS w0 w [])) (fun (q : Nat) (w : World) => i - q) (0) (_) (is := [0, 1, 7, 8, 9, 10]) rfl rfl ?_ ?_
                    · exact ⟨Nat.zero_le _, fun _ h => absurd h (Nat.not_lt_zero _), hs⟩
                    · clear hs
                      intro q w hI
                      show W _ _ _ _ [(0, .slice a km cp), (1, .slice am km cm), (7, .int .i64 t), (8, .int .i64 i), (9, .int .i64 j), (10, .int .i64 q)] w
                      obtain ⟨hq, hne, hs⟩ := hI
                      by_cases hltq : q < i
                      · by_cases heq : mt.getD q 0 = (j : Int)
                        · refine W_seq ?_
                          refine W_seq ?_
                          refine W_region ?_
                          refine L_move rfl rfl ?_
                          refine L_move rfl rfl ?_
                          first | refine L_lss rfl rfl rfl (dtrue (by omega)) ?_ | refine L_lss rfl rfl rfl (dfalse (by omega)) ?_ | refine L_lss rfl rfl rfl rfl ?_
                          refine RL_then ?_
                          refine W_if_true rfl ?_
                          refine W_skip' ?_
                          refine Nx_then ?_
                          refine W_seq ?_
                          refine W_block ?_
                          refine W_seq ?_
                          refine W_region ?_
                          refine L_move rfl rfl ?_
                          refine L_move rfl rfl ?_
                          refine L_idx1 rfl Try.underlying25 Try.ti3 rfl rfl (by with_reducible first | exact natc_k _ | exact natc_a1 _ | exact natc_0 | exact natc_1 | exact natc_2 | exact natc_s1 _ (by omega) | exact natc_a2 _ | exact natc_add _ _ | exact natc_mul _ _ | exact natc (by omega)) (by omega) (by first | rfl | exact hma | exact hra | exact g4.ao (by rw [il_length]; omega)) ?_
                          refine L_load rfl Try.one3 rfl (by first | exact (hm.old hs Own.nil).get (il_get (by omega)) | exact (hr.sl.old hs Own.nil).get g1 | exact (g4.old hs Own.nil).get (il_get (by omega))) ?_
                          refine L_move rfl rfl ?_
                          first | refine L_eql rfl rfl rfl (dtrue (by omega)) ?_ | refine L_eql rfl rfl rfl (dfalse (by omega)) ?_ | refine L_eql rfl rfl rfl rfl ?_
                          refine RL_then ?_
                          refine W_if_true rfl ?_
                          refine W_seq ?_
                          refine W_region ?_
                          refine L_assign rfl rfl ?_
                          refine L_assign rfl rfl ?_
                          refine RL_then ?_
                          refine W_ret' ?_
                          refine Ex_block_ret ?_
                          refine Ex_then_ret ?_
                          refine Ex_loop_ret ?_
                          refine Ex_block_ret ?_
                          refine Ex_cut_ret ?_
                          refine Ex_block_ret ?_
                          refine Ex_then_ret ?_
                          refine Ex_loop_ret ?_
                          refine Ex_block_ret ?_
                          refine Ex_then_ret ?_
                          refine Ex_done2 rfl rfl rfl ?_
                          exact ⟨_, rfl, _, _, rfl, hs, hbadl _ _ ⟨by rw [← hx]; exact hx1, .inr (.inr (.inr ⟨q, hltq, by rw [heq, hx]⟩))⟩ rfl rfl⟩
                        · refine W_seq ?_
                          refine W_seq ?_
                          refine W_region ?_
                          refine L_move rfl rfl ?_
                          refine L_move rfl rfl ?_
                          first | refine L_lss rfl rfl rfl (dtrue (by omega)) ?_ | refine L_lss rfl rfl rfl (dfalse (by omega)) ?_ | refine L_lss rfl rfl rfl rfl ?_
                          refine RL_then ?_
                          refine W_if_true rfl ?_
                          refine W_skip' ?_
                          refine Nx_then ?_
                          refine W_seq ?_
                          refine W_block ?_
                          refine W_seq ?_
                          refine W_region ?_
                          refine L_move rfl rfl ?_
                          refine L_move rfl rfl ?_
                          refine L_idx1 rfl Try.underlying25 Try.ti3 rfl rfl (by with_reducible first | exact natc_k _ | exact natc_a1 _ | exact natc_0 | exact natc_1 | exact natc_2 | exact natc_s1 _ (by omega) | exact natc_a2 _ | exact natc_add _ _ | exact natc_mul _ _ | exact natc (by omega)) (by omega) (by first | rfl | exact hma | exact hra | exact g4.ao (by rw [il_length]; omega)) ?_
                          refine L_load rfl Try.one3 rfl (by first | exact (hm.old hs Own.nil).get (il_get (by omega)) | exact (hr.sl.old hs Own.nil).get g1 | exact (g4.old hs Own.nil).get (il_get (by omega))) ?_
                          refine L_move rfl rfl ?_
                          first | refine L_eql rfl rfl rfl (dtrue (by omega)) ?_ | refine L_eql rfl rfl rfl (dfalse (by omega)) ?_ | refine L_eql rfl rfl rfl rfl ?_
                          refine RL_then ?_
                          refine W_if_false rfl ?_
                          refine W_skip' ?_
                          refine Nx_block ?_
                          refine Nx_then ?_
                          refine W_region ?_
                          refine L_move rfl rfl ?_
                          first | refine L_add rfl rfl rfl (wrp_i64 (by omega)) ?_ | refine L_add rfl rfl rfl rfl ?_
                          refine L_assign rfl rfl ?_
                          refine RL_nil' ?_
                          refine Nx_loopP (q + 1, _) (is := [0, 1, 7, 8, 9, 10]) (I' := (fun (q : Nat) (w : World) => (q ≤ i) ∧ (∀ r, r < q → mt.getD r 0 ≠ (j : Int)) ∧ (HS w0 w [])) (q + 1) (_)) rfl rfl rfl ?_ ?_
                          · refine ⟨by omega, fun r hr => ?_, hs⟩
                            by_cases hrq : r = q
                            · rw [hrq]; exact heq
                            · exact hne r (by omega)
                          · omega
                      · have hqi : q = i := by omega
                        rw [hqi] at hne
                        refine W_seq ?_
                        refine W_seq ?_
                        refine W_region ?_
                        refine L_move rfl rfl ?_
                        refine L_move rfl rfl ?_
                        first | refine L_lss rfl rfl rfl (dtrue (by omega)) ?_ | refine L_lss rfl rfl rfl (dfalse (by omega)) ?_ | refine L_lss rfl rfl rfl rfl ?_
                        refine RL_then ?_
                        refine W_if_false rfl ?_
                        refine W_exit' ?_
                        refine Ex_then_exit ?_
                        refine Ex_loop_exit ?_
                        refine Ex_block_hit ?_
                        refine Nx_cutP (_) (is := [0, 1, 7, 8, 9]) (I' := (fun (w : World) => (∀ q, q < i → mt.getD q 0 ≠ (j : Int)) ∧ (HS w0 w [])) (_)) rfl rfl rfl ?_
                        exact ⟨hne, hs⟩
                  · clear hs
                    intro w hI
                    show W _ _ _ _ [(0, .slice a km cp), (1, .slice am km cm), (7, .int .i64 t), (8, .int .i64 i), (9, .int .i64 j)] w
                    obtain ⟨hne, hs⟩ := hI
                    have hnbi : ¬badT rows mt i := fun hb => by
                      obtain ⟨_, hb⟩ := hb
                      rw [← hx, Int.toNat_natCast] at hb
                      rcases hb with h5 | h5 | h5 | ⟨q, hq, h5⟩
                      · omega
                      · simp only [wid] at h5; omega
                      · exact hneg h5
                      · exact hne q hq h5
                    refine W_region ?_
                    refine L_move rfl rfl ?_
                    refine L_move rfl rfl ?_
                    refine L_move rfl rfl ?_
                    refine L_idx1 rfl Try.underlying22 Try.ti38 rfl rfl (by with_reducible first | exact natc_k _ | exact natc_a1 _ | exact natc_0 | exact natc_1 | exact natc_2 | exact natc_s1 _ (by omega) | exact natc_a2 _ | exact natc_add _ _ | exact natc_mul _ _ | exact natc (by omega)) (by omega) (by first | rfl | exact hma | exact hra | exact g4.ao (by rw [il_length]; omega)) ?_
                    refine L_load rfl Try.one38 rfl (by first | exact (hm.old hs Own.nil).get (il_get (by omega)) | exact (hr.sl.old hs Own.nil).get g1 | exact (g4.old hs Own.nil).get (il_get (by omega))) ?_
                    refine L_move rfl rfl ?_
                    refine L_idx1 rfl Try.underlying38 Try.ti2 rfl rfl (by with_reducible first | exact natc_k _ | exact natc_a1 _ | exact natc_0 | exact natc_1 | exact natc_2 | exact natc_s1 _ (by omega) | exact natc_a2 _ | exact natc_add _ _ | exact natc_mul _ _ | exact natc (by omega)) (by omega) (by first | rfl | exact hma | exact hra | exact g4.ao (by rw [il_length]; omega)) ?_
                    refine L_load rfl Try.one2 rfl (by first | exact (hm.old hs Own.nil).get (il_get (by omega)) | exact (hr.sl.old hs Own.nil).get g1 | exact (g4.old hs Own.nil).get (il_get (by omega))) ?_
                    first | refine L_add rfl rfl rfl (wrp_i64 (by omega)) ?_ | refine L_add rfl rfl rfl rfl ?_
                    refine L_assign rfl rfl ?_
                    refine RL_nil' ?_
                    refine Nx_block ?_
                    refine Nx_then ?_
                    refine W_region ?_
                    refine L_move rfl rfl ?_
                    first | refine L_add rfl rfl rfl (wrp_i64 (by omega)) ?_ | refine L_add rfl rfl rfl rfl ?_
                    refine L_assign rfl rfl ?_
                    refine RL_nil' ?_
                    refine Nx_loopP (i + 1, t + (rows.getD i []).getD j 0, _) (is := [0, 1, 7, 8]) (I' := (fun (i : Nat) (t : Int) (w : World) => (i ≤ km) ∧ (t = tot i (fun q => if mt.getD q 0 = -1 then 0 else el rows q (mt.getD q 0).toNat)) ∧ (0 ≤ t ∧ t ≤ i * 1099511627776) ∧ (∀ q, q < i → ¬badT rows mt q) ∧ (HS w0 w [])) (i + 1) (t + (rows.getD i []).getD j 0) (_)) rfl rfl rfl ?_ ?_
                    · refine ⟨by omega, ?_, ⟨by omega, by omega⟩, fun q hq => ?_, hs⟩
                      · simp only [tot]; rw [← hx, if_neg hx1, ← ht, Int.toNat_natCast]
                      · by_cases hqi : q = i
                        · rw [hqi]; exact hnbi
                        · exact hnb q (by omega)
                    · omega
        · have hik : i = km := by omega
          rw [hik] at ht hnb
          refine W_seq ?_
          refine W_seq ?_
          refine W_region ?_
          refine L_move rfl rfl ?_
          refine L_move rfl rfl ?_
          refine L_len rfl Try.underlying25 rfl ?_
          first | refine L_lss rfl rfl rfl (dtrue (by omega)) ?_ | refine L_lss rfl rfl rfl (dfalse (by omega)) ?_ | refine L_lss rfl rfl rfl rfl ?_
          refine RL_then ?_
          refine W_if_false rfl ?_
          refine W_exit' ?_
          refine Ex_then_exit ?_
          refine Ex_loop_exit ?_
          refine Ex_block_hit ?_
          refine Nx_then ?_
          refine W_seq ?_
          refine W_region ?_
          refine L_move rfl rfl ?_
          refine L_assign rfl rfl ?_
          refine L_assign rfl rfl ?_
          refine RL_then ?_
          refine W_ret' ?_
          refine Ex_done2 rfl rfl rfl ?_
          exact ⟨_, rfl, _, _, rfl, hs, .inr (.inr (.inr ⟨he0, by omega, by rw [hk]; exact hnb, by rw [hk]; exact ht, rfl⟩))⟩
    · refine L_assign rfl rfl ?_
      refine RL_then ?_
      refine W_seq ?_
      refine W_seq ?_
      refine W_region ?_
      refine L_move rfl rfl ?_
      first | refine L_neq rfl rfl rfl (dtrue (by omega)) ?_ | refine L_neq rfl rfl rfl (dfalse (by omega)) ?_ | refine L_neq rfl rfl rfl rfl ?_
      refine RL_then ?_
      refine W_if_false rfl ?_
      refine W_skip' ?_
      refine Nx_then ?_
      refine W_seq ?_
      refine W_seq ?_
      refine W_region ?_
      refine L_move rfl rfl ?_
      refine L_len rfl Try.underlying25 rfl ?_
      refine L_move rfl rfl ?_
      refine L_len rfl Try.underlying22 rfl ?_
      first | refine L_neq rfl rfl rfl (dtrue (by omega)) ?_ | refine L_neq rfl rfl rfl (dfalse (by omega)) ?_ | refine L_neq rfl rfl rfl rfl ?_
      refine RL_then ?_
      refine W_if_true rfl ?_
      refine W_seq ?_
      refine W_region ?_
      refine L_assign rfl rfl ?_
      refine L_assign rfl rfl ?_
      refine RL_then ?_
      refine W_ret' ?_
      refine Ex_then_ret ?_
      refine Ex_done2 rfl rfl rfl ?_
      exact ⟨_, rfl, _, _, rfl, hs, .inr (.inl ⟨he0, by omega, rfl, rfl⟩)⟩
end Go.Proofs.Ytcfdmenmlemahaa
