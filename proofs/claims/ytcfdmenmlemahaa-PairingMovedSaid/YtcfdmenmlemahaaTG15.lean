/-
  A part of the proof: what functions that the statement reaches do, or a plain law on what they do. Each theorem holds under its own premises alone.
-/
import Derived.Test.YtcfdmenmlemahaaTG14
namespace Go.Proofs.Ytcfdmenmlemahaa
open Go Go.Lk Go.Pr
structure FineB (rows : List (List Int)) (R C : Nat) : Prop where
  len : rows.length ≤ R
  same : ∀ i, i < rows.length → wid rows i = wid rows 0
  wide : ∀ i, i < rows.length → wid rows i ≤ C
  cost : ∀ i j, i < rows.length → j < wid rows i → el rows i j ≤ 1099511627776
theorem FineB.fine {rows : List (List Int)} {R C : Nat} (h : FineB rows R C) (hR : R ≤ 256) (hC : C ≤ 256) : Fine rows :=
  ⟨by have := h.len; omega, fun i hi => by have := h.wide i hi; omega, h.same, h.cost⟩
theorem fine_ok (a : Option Addr) (k cp R Cc : Nat) (rows : List (List Int)) (rvs : List Value) (w0 : World) (hr : RowsI w0 a rows rvs) (hk : rows.length = k) (hk63 : k ≤ 17592186043904) :
    Ret Try.prog 9 [.slice a k cp, .int .i64 R, .int .i64 Cc] w0 fun v w' => ∃ b, v = .bool b ∧ HS w0 w' [] ∧ (b = true ↔ FineB rows R Cc) := by
  refine Ret.start fun w hs => ?_
  have hrl := hr.len
  refine calls_of_W Try.func9 rfl rfl rfl ?_
  by_cases hbig : R < k
  · refine W_seq ?_
    refine W_region ?_
    refine L_assign rfl rfl ?_
    refine RL_then ?_
    refine W_seq ?_
    refine W_seq ?_
    refine W_region ?_
    refine L_move rfl rfl ?_
    refine L_len rfl Try.underlying22 rfl ?_
    refine L_move rfl rfl ?_
    first | refine L_gtr rfl rfl rfl (dtrue (by omega)) ?_ | refine L_gtr rfl rfl rfl (dfalse (by omega)) ?_ | refine L_gtr rfl rfl rfl rfl ?_
    refine RL_then ?_
    refine W_if_true rfl ?_
    refine W_seq ?_
    refine W_region ?_
    refine L_assign rfl rfl ?_
    refine RL_then ?_
    refine W_ret' ?_
    refine Ex_then_ret ?_
    refine Ex_done1 rfl rfl ?_
    exact ⟨_, rfl, _, rfl, hs, by simp, fun h => absurd h.len (by omega)⟩
  · refine W_seq ?_
    refine W_region ?_
    refine L_assign rfl rfl ?_
    refine RL_then ?_
    refine W_seq ?_
    refine W_seq ?_
    refine W_region ?_
    refine L_move rfl rfl ?_
    refine L_len rfl Try.underlying22 rfl ?_
    refine L_move rfl rfl ?_
    first | refine L_gtr rfl rfl rfl (dtrue (by omega)) ?_ | refine L_gtr rfl rfl rfl (dfalse (by omega)) ?_ | refine L_gtr rfl rfl rfl rfl ?_
    refine RL_then ?_
    refine W_if_false rfl ?_
    refine W_skip' ?_
    refine Nx_then ?_
    refine W_seq ?_
    refine W_seq ?_
    refine W_region ?_
    refine L_move rfl rfl ?_
    refine L_len rfl Try.underlying22 rfl ?_
    refine L_move rfl rfl ?_
    refine RL_then ?_
    refine W_block ?_
    refine W_loop2 (fun (i : Nat) (w : World) => [(0, .slice a k cp), (2, .int .i64 Cc), (15, .int .i64 k), (16, .int .i64 i)]) (fun (i : Nat) (w : World) => w) (fun (i : Nat) (w : World) => (i ≤ k) ∧ (∀ q, q < i → wid rows q = wid rows 0 ∧ wid rows q ≤ Cc ∧ ∀ j, j < wid rows q → el rows q j ≤ 1099511627776) ∧ (HS w0 w [])) (fun (i : Nat) (w : World) => k - i) (0) (w) (is := [0, 2, 15, 16]) rfl rfl ?_ ?_
    · exact ⟨Nat.zero_le _, fun _ h => absurd h (Nat.not_lt_zero _), hs⟩
    · clear hs
      intro i w hI
      show W _ _ _ _ [(0, .slice a k cp), (2, .int .i64 Cc), (15, .int .i64 k), (16, .int .i64 i)] w
      obtain ⟨hi, hA, hs⟩ := hI
      by_cases hlt : i < k
      · obtain ⟨ai, ci, g1, g2, g3, g4⟩ := hr.row i (by omega)
        obtain ⟨a0, c0, k1, k2, k3, k4⟩ := hr.row 0 (by omega)
        have hra := hr.sl.ao (by omega)
        have hold : ∀ {w : World}, HS w0 w [] → ∀ {j : Nat} {v : Value}, rvs[j]? = some v → w.cell? ((aD a).add j) = some v := by intro w hs j v hv; exact (hr.sl.old hs Own.nil).get hv
        by_cases hw : (rows.getD i []).length = (rows.getD 0 []).length
        · rw [← hw] at k1
          by_cases hw2 : Cc < (rows.getD i []).length
          · refine W_seq ?_
            refine W_region ?_
            first | refine L_lss rfl rfl rfl (dtrue (by omega)) ?_ | refine L_lss rfl rfl rfl (dfalse (by omega)) ?_ | refine L_lss rfl rfl rfl rfl ?_
            refine RL_then ?_
            refine W_seq ?_
            refine W_if_true rfl ?_
            refine W_skip' ?_
            refine Nx_then ?_
            refine W_seq ?_
            refine W_block ?_
            refine W_seq ?_
            refine W_region ?_
            refine L_move rfl rfl ?_
            refine L_assign rfl rfl ?_
            refine RL_then ?_
            refine W_seq ?_
            refine W_seq ?_
            refine W_pht [0, 1, 2, 5, 6] [3, 4, 7, 8, 9, 10, 11, 12, 13, 14, 15, 16, 17, 18] [] (fun _ _ _ => False) Try.mixed (by kernel_rfl) (fun _ _ _ _ _ h => h) hs ?_
            refine PL_val rfl (fun w => R_move rfl) ?_
            refine PL_val rfl (fun w => R_move rfl) ?_
            refine PL_val rfl (fun w => R_idx1 Try.underlying22 Try.ti38 rfl rfl (by with_reducible first | exact natc_k _ | exact natc_a1 _ | exact natc_0 | exact natc_1 | exact natc_2 | exact natc_s1 _ (by omega) | exact natc_a2 _ | exact natc_add _ _ | exact natc_mul _ _ | exact natc (by omega)) (by omega) hra) ?_
            refine PL_val rfl (fun w => R_move rfl) ?_
            refine PL_val rfl (fun w => R_idx1 Try.underlying22 Try.ti38 rfl rfl (by with_reducible first | exact natc_k _ | exact natc_a1 _ | exact natc_0 | exact natc_1 | exact natc_2 | exact natc_s1 _ (by omega) | exact natc_a2 _ | exact natc_add _ _ | exact natc_mul _ _ | exact natc (by omega)) (by omega) hra) ?_
            refine PL_end ?_
            refine HL_val rfl (fun w hs => R_load Try.one38 rfl (hold hs g1)) ?_
            refine HL_val rfl (fun w hs => R_len Try.underlying38 rfl) ?_
            refine HL_val rfl (fun w hs => R_load Try.one38 rfl (by first | exact hold hs k1 | exact hold hs g1)) ?_
            refine HL_val rfl (fun w hs => R_len Try.underlying38 rfl) ?_
            first | refine HL_val rfl (fun w hs => R_neq rfl rfl (dtrue (by omega))) ?_ | refine HL_val rfl (fun w hs => R_neq rfl rfl (dfalse (by omega))) ?_ | refine HL_val rfl (fun w hs => R_neq rfl rfl rfl) ?_
            refine HL_val rfl (fun w hs => R_move rfl) ?_
            first | (refine HL_want rfl rfl ?_; refine HL_val rfl (fun w hs => R_move rfl) ?_) | refine HL_skip rfl rfl rfl rfl ?_ | refine HL_skipU rfl rfl rfl ?_
            first | (refine HL_want rfl rfl ?_; refine HL_val rfl (fun w hs => R_move rfl) ?_) | refine HL_skip rfl rfl rfl rfl ?_ | refine HL_skipU rfl rfl rfl ?_
            first | (refine HL_want rfl rfl ?_; refine HL_val rfl (fun w hs => R_idx1 Try.underlying22 Try.ti38 rfl rfl (by with_reducible first | exact natc_k _ | exact natc_a1 _ | exact natc_0 | exact natc_1 | exact natc_2 | exact natc_s1 _ (by omega) | exact natc_a2 _ | exact natc_add _ _ | exact natc_mul _ _ | exact natc (by omega)) (by omega) hra) ?_) | refine HL_skip rfl rfl rfl rfl ?_ | refine HL_skipU rfl rfl rfl ?_
            first | (refine HL_want rfl rfl ?_; refine HL_val rfl (fun w hs => R_load Try.one38 rfl (by first | exact hold hs k1 | exact hold hs g1)) ?_) | refine HL_skip rfl rfl rfl rfl ?_ | refine HL_skipU rfl rfl rfl ?_
            first | (refine HL_want rfl rfl ?_; refine HL_val rfl (fun w hs => R_len Try.underlying38 rfl) ?_) | refine HL_skip rfl rfl rfl rfl ?_ | refine HL_skipU rfl rfl rfl ?_
            first | (refine HL_want rfl rfl ?_; refine HL_val rfl (fun w hs => R_move rfl) ?_) | refine HL_skip rfl rfl rfl rfl ?_ | refine HL_skipU rfl rfl rfl ?_
            first | (refine HL_want rfl rfl ?_; (first | refine HL_val rfl (fun w hs => R_gtr rfl rfl (dtrue (by omega))) ?_ | refine HL_val rfl (fun w hs => R_gtr rfl rfl (dfalse (by omega))) ?_ | refine HL_val rfl (fun w hs => R_gtr rfl rfl rfl) ?_)) | refine HL_skip rfl rfl rfl rfl ?_ | refine HL_skipU rfl rfl rfl ?_
            first | refine HL_val rfl (fun w hs => R_pick_t rfl rfl) ?_ | refine HL_val rfl (fun w hs => R_pick_f rfl rfl) ?_
            refine HL_tail ?_
            intro w hs
            refine RL_then ?_
            refine W_if_true rfl ?_
            refine W_seq ?_
            refine W_region ?_
            refine L_assign rfl rfl ?_
            refine RL_then ?_
            refine W_ret' ?_
            refine Ex_then_ret ?_
            refine Ex_block_ret ?_
            refine Ex_then_ret ?_
            refine Ex_loop_ret ?_
            refine Ex_block_ret ?_
            refine Ex_then_ret ?_
            refine Ex_done1 rfl rfl ?_
            exact ⟨_, rfl, _, rfl, hs, by simp, fun h => absurd (h.wide i (by omega)) (by simp only [wid]; omega)⟩
          · obtain ⟨m, hm⟩ : ∃ m, m = (rows.getD i []).length := ⟨_, rfl⟩
            rw [← hm] at g1 g2 g3 k1 hw hw2
            refine W_seq ?_
            refine W_region ?_
            first | refine L_lss rfl rfl rfl (dtrue (by omega)) ?_ | refine L_lss rfl rfl rfl (dfalse (by omega)) ?_ | refine L_lss rfl rfl rfl rfl ?_
            refine RL_then ?_
            refine W_seq ?_
            refine W_if_true rfl ?_
            refine W_skip' ?_
            refine Nx_then ?_
            refine W_seq ?_
            refine W_block ?_
            refine W_seq ?_
            refine W_region ?_
            refine L_move rfl rfl ?_
            refine L_assign rfl rfl ?_
            refine RL_then ?_
            refine W_seq ?_
            refine W_seq ?_
            refine W_pht [0, 1, 2, 5, 6] [3, 4, 7, 8, 9, 10, 11, 12, 13, 14, 15, 16, 17, 18] [] (fun _ _ _ => False) Try.mixed (by kernel_rfl) (fun _ _ _ _ _ h => h) hs ?_
            refine PL_val rfl (fun w => R_move rfl) ?_
            refine PL_val rfl (fun w => R_move rfl) ?_
            refine PL_val rfl (fun w => R_idx1 Try.underlying22 Try.ti38 rfl rfl (by with_reducible first | exact natc_k _ | exact natc_a1 _ | exact natc_0 | exact natc_1 | exact natc_2 | exact natc_s1 _ (by omega) | exact natc_a2 _ | exact natc_add _ _ | exact natc_mul _ _ | exact natc (by omega)) (by omega) hra) ?_
            refine PL_val rfl (fun w => R_move rfl) ?_
            refine PL_val rfl (fun w => R_idx1 Try.underlying22 Try.ti38 rfl rfl (by with_reducible first | exact natc_k _ | exact natc_a1 _ | exact natc_0 | exact natc_1 | exact natc_2 | exact natc_s1 _ (by omega) | exact natc_a2 _ | exact natc_add _ _ | exact natc_mul _ _ | exact natc (by omega)) (by omega) hra) ?_
            refine PL_end ?_
            refine HL_val rfl (fun w hs => R_load Try.one38 rfl (hold hs g1)) ?_
            refine HL_val rfl (fun w hs => R_len Try.underlying38 rfl) ?_
            refine HL_val rfl (fun w hs => R_load Try.one38 rfl (hold hs k1)) ?_
            refine HL_val rfl (fun w hs => R_len Try.underlying38 rfl) ?_
            first | refine HL_val rfl (fun w hs => R_neq rfl rfl (dtrue (by omega))) ?_ | refine HL_val rfl (fun w hs => R_neq rfl rfl (dfalse (by omega))) ?_ | refine HL_val rfl (fun w hs => R_neq rfl rfl rfl) ?_
            refine HL_val rfl (fun w hs => R_move rfl) ?_
            first | (refine HL_want rfl rfl ?_; refine HL_val rfl (fun w hs => R_move rfl) ?_) | refine HL_skip rfl rfl rfl rfl ?_ | refine HL_skipU rfl rfl rfl ?_
            first | (refine HL_want rfl rfl ?_; refine HL_val rfl (fun w hs => R_move rfl) ?_) | refine HL_skip rfl rfl rfl rfl ?_ | refine HL_skipU rfl rfl rfl ?_
            first | (refine HL_want rfl rfl ?_; refine HL_val rfl (fun w hs => R_idx1 Try.underlying22 Try.ti38 rfl rfl (by with_reducible first | exact natc_k _ | exact natc_a1 _ | exact natc_0 | exact natc_1 | exact natc_2 | exact natc_s1 _ (by omega) | exact natc_a2 _ | exact natc_add _ _ | exact natc_mul _ _ | exact natc (by omega)) (by omega) hra) ?_) | refine HL_skip rfl rfl rfl rfl ?_ | refine HL_skipU rfl rfl rfl ?_
            first | (refine HL_want rfl rfl ?_; refine HL_val rfl (fun w hs => R_load Try.one38 rfl (by first | exact hold hs g1 | exact hold hs k1)) ?_) | refine HL_skip rfl rfl rfl rfl ?_ | refine HL_skipU rfl rfl rfl ?_
            first | (refine HL_want rfl rfl ?_; refine HL_val rfl (fun w hs => R_len Try.underlying38 rfl) ?_) | refine HL_skip rfl rfl rfl rfl ?_ | refine HL_skipU rfl rfl rfl ?_
            first | (refine HL_want rfl rfl ?_; refine HL_val rfl (fun w hs => R_move rfl) ?_) | refine HL_skip rfl rfl rfl rfl ?_ | refine HL_skipU rfl rfl rfl ?_
            first | (refine HL_want rfl rfl ?_; (first | refine HL_val rfl (fun w hs => R_gtr rfl rfl (dtrue (by omega))) ?_ | refine HL_val rfl (fun w hs => R_gtr rfl rfl (dfalse (by omega))) ?_ | refine HL_val rfl (fun w hs => R_gtr rfl rfl rfl) ?_)) | refine HL_skip rfl rfl rfl rfl ?_ | refine HL_skipU rfl rfl rfl ?_
            first | refine HL_val rfl (fun w hs => R_pick_t rfl rfl) ?_ | refine HL_val rfl (fun w hs => R_pick_f rfl rfl) ?_
            refine HL_tail ?_
            intro w hs
            refine RL_then ?_
            refine W_if_false rfl ?_
            refine W_skip' ?_
            refine Nx_then ?_
            refine W_seq ?_
            refine W_region ?_
            refine L_move rfl rfl ?_
            refine L_move rfl rfl ?_
            refine L_idx1 rfl Try.underlying22 Try.ti38 rfl rfl (by with_reducible first | exact natc_k _ | exact natc_a1 _ | exact natc_0 | exact natc_1 | exact natc_2 | exact natc_s1 _ (by omega) | exact natc_a2 _ | exact natc_add _ _ | exact natc_mul _ _ | exact natc (by omega)) (by omega) hra ?_
            refine L_load rfl Try.one38 rfl (by first | exact hold hs g1 | exact hold hs k1) ?_
            refine L_len rfl Try.underlying38 rfl ?_
            refine L_move rfl rfl ?_
            refine RL_then ?_
            refine W_block ?_
            refine W_loop2 (fun (j : Nat) (w : World) => [(0, .slice a k cp), (2, .int .i64 Cc), (15, .int .i64 k), (16, .int .i64 i), (41, .slice ai m ci), (42, .int .i64 m), (43, .int .i64 j)]) (fun (j : Nat) (w : World) => w) (fun (j : Nat) (w : World) => (j ≤ m) ∧ (∀ q, q < j → el rows i q ≤ 1099511627776) ∧ (HS w0 w [])) (fun (j : Nat) (w : World) => m - j) (0) (w) (is := [0, 2, 15, 16, 41, 42, 43]) rfl rfl ?_ ?_
            · exact ⟨Nat.zero_le _, fun _ h => absurd h (Nat.not_lt_zero _), hs⟩
            · clear hs
              intro j w hI
              show W _ _ _ _ [(0, .slice a k cp), (2, .int .i64 Cc), (15, .int .i64 k), (16, .int .i64 i), (41, .slice ai m ci), (42, .int .i64 m), (43, .int .i64 j)] w
              obtain ⟨hj, hE, hs⟩ := hI
              by_cases hlt2 : j < m
              · skip
                by_cases hwc : 1099511627776 < (rows.getD i []).getD j 0
                · refine W_seq ?_
                  refine W_region ?_
                  first | refine L_lss rfl rfl rfl (dtrue (by omega)) ?_ | refine L_lss rfl rfl rfl (dfalse (by omega)) ?_ | refine L_lss rfl rfl rfl rfl ?_
                  refine RL_then ?_
                  refine W_seq ?_
                  refine W_if_true rfl ?_
                  refine W_skip' ?_
                  refine Nx_then ?_
                  refine W_seq ?_
                  refine W_block ?_
                  refine W_seq ?_
                  refine W_region ?_
                  refine L_idx1 rfl Try.underlying38 Try.ti2 rfl rfl (by with_reducible first | exact natc_k _ | exact natc_a1 _ | exact natc_0 | exact natc_1 | exact natc_2 | exact natc_s1 _ (by omega) | exact natc_a2 _ | exact natc_add _ _ | exact natc_mul _ _ | exact natc (by omega)) (by omega) (g4.ao (by rw [il_length]; omega)) ?_
                  refine L_load rfl Try.one2 rfl (by exact (g4.old hs Own.nil).get (il_get (by omega))) ?_
                  refine L_assign rfl rfl ?_
                  refine RL_then ?_
                  refine W_seq ?_
                  refine W_region ?_
                  refine L_move rfl rfl ?_
                  first | refine L_gtr rfl rfl rfl (dtrue (by omega)) ?_ | refine L_gtr rfl rfl rfl (dfalse (by omega)) ?_ | refine L_gtr rfl rfl rfl rfl ?_
                  refine RL_then ?_
                  refine W_if_true rfl ?_
                  refine W_seq ?_
                  refine W_region ?_
                  refine L_assign rfl rfl ?_
                  refine RL_then ?_
                  refine W_ret' ?_
                  refine Ex_block_ret ?_
                  refine Ex_then_ret ?_
                  refine Ex_loop_ret ?_
                  refine Ex_block_ret ?_
                  refine Ex_block_ret ?_
                  refine Ex_then_ret ?_
                  refine Ex_loop_ret ?_
                  refine Ex_block_ret ?_
                  refine Ex_then_ret ?_
                  refine Ex_done1 rfl rfl ?_
                  exact ⟨_, rfl, _, rfl, hs, by simp, fun h => absurd (h.cost i j (by omega) (by simp only [wid]; omega)) (by simp only [el]; omega)⟩
                · refine W_seq ?_
                  refine W_region ?_
                  first | refine L_lss rfl rfl rfl (dtrue (by omega)) ?_ | refine L_lss rfl rfl rfl (dfalse (by omega)) ?_ | refine L_lss rfl rfl rfl rfl ?_
                  refine RL_then ?_
                  refine W_seq ?_
                  refine W_if_true rfl ?_
                  refine W_skip' ?_
                  refine Nx_then ?_
                  refine W_seq ?_
                  refine W_block ?_
                  refine W_seq ?_
                  refine W_region ?_
                  refine L_idx1 rfl Try.underlying38 Try.ti2 rfl rfl (by with_reducible first | exact natc_k _ | exact natc_a1 _ | exact natc_0 | exact natc_1 | exact natc_2 | exact natc_s1 _ (by omega) | exact natc_a2 _ | exact natc_add _ _ | exact natc_mul _ _ | exact natc (by omega)) (by omega) (g4.ao (by rw [il_length]; omega)) ?_
                  refine L_load rfl Try.one2 rfl (by exact (g4.old hs Own.nil).get (il_get (by omega))) ?_
                  refine L_assign rfl rfl ?_
                  refine RL_then ?_
                  refine W_seq ?_
                  refine W_region ?_
                  refine L_move rfl rfl ?_
                  first | refine L_gtr rfl rfl rfl (dtrue (by omega)) ?_ | refine L_gtr rfl rfl rfl (dfalse (by omega)) ?_ | refine L_gtr rfl rfl rfl rfl ?_
                  refine RL_then ?_
                  refine W_if_false rfl ?_
                  refine W_skip' ?_
                  refine Nx_block ?_
                  refine Nx_then ?_
                  refine W_region ?_
                  first | refine L_add rfl rfl rfl (wrp_i64 (by omega)) ?_ | refine L_add rfl rfl rfl rfl ?_
                  refine L_move rfl rfl ?_
                  refine RL_nil' ?_
                  refine Nx_loopP (j + 1, w) (is := [0, 2, 15, 16, 41, 42, 43]) (I' := (fun (j : Nat) (w : World) => (j ≤ m) ∧ (∀ q, q < j → el rows i q ≤ 1099511627776) ∧ (HS w0 w [])) (j + 1) (w)) rfl rfl rfl ?_ ?_
                  · refine ⟨by omega, fun q hq => ?_, hs⟩
                    by_cases hqj : q = j
                    · rw [hqj]; simp only [el]; omega
                    · exact hE q (by omega)
                  · omega
              · refine W_seq ?_
                refine W_region ?_
                first | refine L_lss rfl rfl rfl (dtrue (by omega)) ?_ | refine L_lss rfl rfl rfl (dfalse (by omega)) ?_ | refine L_lss rfl rfl rfl rfl ?_
                refine RL_then ?_
                refine W_seq ?_
                refine W_if_false rfl ?_
                refine W_exit' ?_
                refine Ex_then_exit ?_
                refine Ex_loop_exit ?_
                refine Ex_block_hit ?_
                refine Nx_block ?_
                refine Nx_then ?_
                refine W_region ?_
                first | refine L_add rfl rfl rfl (wrp_i64 (by omega)) ?_ | refine L_add rfl rfl rfl rfl ?_
                refine L_move rfl rfl ?_
                refine RL_nil' ?_
                refine Nx_loopP (i + 1, w) (is := [0, 2, 15, 16]) (I' := (fun (i : Nat) (w : World) => (i ≤ k) ∧ (∀ q, q < i → wid rows q = wid rows 0 ∧ wid rows q ≤ Cc ∧ ∀ j, j < wid rows q → el rows q j ≤ 1099511627776) ∧ (HS w0 w [])) (i + 1) (w)) rfl rfl rfl ?_ ?_
                · refine ⟨by omega, fun q hq => ?_, hs⟩
                  by_cases hqi : q = i
                  · rw [hqi]; exact ⟨by simp only [wid]; omega, by simp only [wid]; omega, fun j2 hj2 => hE j2 (by simp only [wid] at hj2; omega)⟩
                  · exact hA q (by omega)
                · omega
        · skip
          refine W_seq ?_
          refine W_region ?_
          first | refine L_lss rfl rfl rfl (dtrue (by omega)) ?_ | refine L_lss rfl rfl rfl (dfalse (by omega)) ?_ | refine L_lss rfl rfl rfl rfl ?_
          refine RL_then ?_
          refine W_seq ?_
          refine W_if_true rfl ?_
          refine W_skip' ?_
          refine Nx_then ?_
          refine W_seq ?_
          refine W_block ?_
          refine W_seq ?_
          refine W_region ?_
          refine L_move rfl rfl ?_
          refine L_assign rfl rfl ?_
          refine RL_then ?_
          refine W_seq ?_
          refine W_seq ?_
          refine W_pht [0, 1, 2, 5, 6] [3, 4, 7, 8, 9, 10, 11, 12, 13, 14, 15, 16, 17, 18] [] (fun _ _ _ => False) Try.mixed (by kernel_rfl) (fun _ _ _ _ _ h => h) hs ?_
          refine PL_val rfl (fun w => R_move rfl) ?_
          refine PL_val rfl (fun w => R_move rfl) ?_
          refine PL_val rfl (fun w => R_idx1 Try.underlying22 Try.ti38 rfl rfl (by with_reducible first | exact natc_k _ | exact natc_a1 _ | exact natc_0 | exact natc_1 | exact natc_2 | exact natc_s1 _ (by omega) | exact natc_a2 _ | exact natc_add _ _ | exact natc_mul _ _ | exact natc (by omega)) (by omega) hra) ?_
          refine PL_val rfl (fun w => R_move rfl) ?_
          refine PL_val rfl (fun w => R_idx1 Try.underlying22 Try.ti38 rfl rfl (by with_reducible first | exact natc_k _ | exact natc_a1 _ | exact natc_0 | exact natc_1 | exact natc_2 | exact natc_s1 _ (by omega) | exact natc_a2 _ | exact natc_add _ _ | exact natc_mul _ _ | exact natc (by omega)) (by omega) hra) ?_
          refine PL_end ?_
          refine HL_val rfl (fun w hs => R_load Try.one38 rfl (hold hs g1)) ?_
          refine HL_val rfl (fun w hs => R_len Try.underlying38 rfl) ?_
          refine HL_val rfl (fun w hs => R_load Try.one38 rfl (hold hs k1)) ?_
          refine HL_val rfl (fun w hs => R_len Try.underlying38 rfl) ?_
          first | refine HL_val rfl (fun w hs => R_neq rfl rfl (dtrue (by omega))) ?_ | refine HL_val rfl (fun w hs => R_neq rfl rfl (dfalse (by omega))) ?_ | refine HL_val rfl (fun w hs => R_neq rfl rfl rfl) ?_
          refine HL_val rfl (fun w hs => R_move rfl) ?_
          first | (refine HL_want rfl rfl ?_; refine HL_val rfl (fun w hs => R_move rfl) ?_) | refine HL_skip rfl rfl rfl rfl ?_ | refine HL_skipU rfl rfl rfl ?_
          first | (refine HL_want rfl rfl ?_; refine HL_val rfl (fun w hs => R_move rfl) ?_) | refine HL_skip rfl rfl rfl rfl ?_ | refine HL_skipU rfl rfl rfl ?_
          first | (refine HL_want rfl rfl ?_; refine HL_val rfl (fun w hs => R_idx1 Try.underlying22 Try.ti38 rfl rfl (by with_reducible first | exact natc_k _ | exact natc_a1 _ | exact natc_0 | exact natc_1 | exact natc_2 | exact natc_s1 _ (by omega) | exact natc_a2 _ | exact natc_add _ _ | exact natc_mul _ _ | exact natc (by omega)) (by omega) hra) ?_) | refine HL_skip rfl rfl rfl rfl ?_ | refine HL_skipU rfl rfl rfl ?_
          first | (refine HL_want rfl rfl ?_; refine HL_val rfl (fun w hs => R_load Try.one38 rfl (by exact (g4.old hs Own.nil).get (il_get (by omega)))) ?_) | refine HL_skip rfl rfl rfl rfl ?_ | refine HL_skipU rfl rfl rfl ?_
          first | (refine HL_want rfl rfl ?_; refine HL_val rfl (fun w hs => R_len Try.underlying38 rfl) ?_) | refine HL_skip rfl rfl rfl rfl ?_ | refine HL_skipU rfl rfl rfl ?_
          first | (refine HL_want rfl rfl ?_; refine HL_val rfl (fun w hs => R_move rfl) ?_) | refine HL_skip rfl rfl rfl rfl ?_ | refine HL_skipU rfl rfl rfl ?_
          first | (refine HL_want rfl rfl ?_; (first | refine HL_val rfl (fun w hs => R_gtr rfl rfl (dtrue (by omega))) ?_ | refine HL_val rfl (fun w hs => R_gtr rfl rfl (dfalse (by omega))) ?_ | refine HL_val rfl (fun w hs => R_gtr rfl rfl rfl) ?_)) | refine HL_skip rfl rfl rfl rfl ?_ | refine HL_skipU rfl rfl rfl ?_
          first | refine HL_val rfl (fun w hs => R_pick_t rfl rfl) ?_ | refine HL_val rfl (fun w hs => R_pick_f rfl rfl) ?_
          refine HL_tail ?_
          intro w hs
          refine RL_then ?_
          refine W_if_true rfl ?_
          refine W_seq ?_
          refine W_region ?_
          refine L_assign rfl rfl ?_
          refine RL_then ?_
          refine W_ret' ?_
          refine Ex_then_ret ?_
          refine Ex_block_ret ?_
          refine Ex_then_ret ?_
          refine Ex_loop_ret ?_
          refine Ex_block_ret ?_
          refine Ex_then_ret ?_
          refine Ex_done1 rfl rfl ?_
          exact ⟨_, rfl, _, rfl, hs, by simp, fun h => absurd (h.same i (by omega)) hw⟩
      · obtain rfl : k = i := by omega
        refine W_seq ?_
        refine W_region ?_
        first | refine L_lss rfl rfl rfl (dtrue (by omega)) ?_ | refine L_lss rfl rfl rfl (dfalse (by omega)) ?_ | refine L_lss rfl rfl rfl rfl ?_
        refine RL_then ?_
        refine W_seq ?_
        refine W_if_false rfl ?_
        refine W_exit' ?_
        refine Ex_then_exit ?_
        refine Ex_loop_exit ?_
        refine Ex_block_hit ?_
        refine Nx_then ?_
        refine W_seq ?_
        refine W_region ?_
        refine L_assign rfl rfl ?_
        refine RL_then ?_
        refine W_ret' ?_
        refine Ex_done1 rfl rfl ?_
        exact ⟨_, rfl, _, rfl, hs, fun _ => ⟨by omega, fun q hq => (hA q (by omega)).1, fun q hq => (hA q (by omega)).2.1, fun q j hq hj => (hA q (by omega)).2.2 j hj⟩, fun _ => rfl⟩
end Go.Proofs.Ytcfdmenmlemahaa
