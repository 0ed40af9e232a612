/-
  A part of the proof: what functions that the statement reaches do, or a plain law on what they do. Each theorem holds under its own premises alone.
-/
import Derived.Test.YtcfdmenmlemahaaTRM
namespace Go.Proofs.Ytcfdmenmlemahaa
open Go Go.Lk Go.Pr
theorem kept_ok (ax : Option Addr) (cx : Nat) (xs : List Value) (a : Option Addr) (k cp : Nat) (rows : List (List Int)) (rvs : List Value) (w0 : World) (hx : X77 w0 ax rows xs) (hr : RowsI w0 a rows rvs) (hk : rows.length = k) (hk2 : k ≤ 1000000) (hlen : ∀ i, i < k → (rows.getD i []).length ≤ 1000000) :
    Ret Try.prog 17 [.slice ax k cx, .slice a k cp] w0 fun v w' => v = .bool true ∧ HS w0 w' [] := by
  refine Ret.start fun w hs => ?_
  have hrl := hr.len
  have hxl := hx.len
  refine calls_of_W Try.func17 rfl rfl rfl ?_
  refine W_seq ?_
  refine W_region ?_
  refine L_assign rfl rfl ?_
  refine RL_then ?_
  refine W_seq ?_
  refine W_seq ?_
  refine W_region ?_
  refine L_move rfl rfl ?_
  refine L_len rfl Try.underlying22 rfl ?_
  refine L_move rfl rfl ?_
  refine RL_then ?_
  refine W_block ?_
  refine W_loop2 (fun (i : Nat) (w : World) => [(0, .slice ax k cx), (1, .slice a k cp), (8, .int .i64 k), (9, .int .i64 i)]) (fun (i : Nat) (w : World) => w) (fun (i : Nat) (w : World) => (i ≤ k) ∧ (HS w0 w [])) (fun (i : Nat) (w : World) => k - i) (0) (w) (is := [0, 1, 8, 9]) rfl rfl ?_ ?_
  · exact ⟨Nat.zero_le _, hs⟩
  · clear hs
    intro i w hI
    show W _ _ _ _ [(0, .slice ax k cx), (1, .slice a k cp), (8, .int .i64 k), (9, .int .i64 i)] w
    obtain ⟨hi, hs⟩ := hI
    by_cases hlt : i < k
    · obtain ⟨ai, ci, g1, g2, g3, g4⟩ := hr.row i (by omega)
      obtain ⟨gx, kx, k1, k2, k3⟩ := hx.row i (by omega)
      have hl := hlen i hlt
      obtain ⟨row, hrow⟩ : ∃ row, row = rows.getD i [] := ⟨_, rfl⟩
      rw [← hrow] at g1 g2 g3 g4 k1 k2 k3 hl
      obtain ⟨m, hm⟩ : ∃ m, m = row.length := ⟨_, rfl⟩
      rw [← hm] at g1 g2 g3 k1 k2 hl
      have h77 : (il (row ++ [77]))[m]? = some (.int .i64 77) := by rw [il_get (by simp; omega)]; simp [List.getD, hm]
      have hxj : ∀ j, j < m → (il (row ++ [77]))[j]? = some (.int .i64 (row.getD j 0)) := fun j hj => by rw [il_get (by simp; omega)]; simp only [List.getD]; rw [List.getElem?_append_left (by omega)]
      refine W_seq ?_
      refine W_region ?_
      first | refine L_lss rfl rfl rfl (dtrue (by omega)) ?_ | refine L_lss rfl rfl rfl (dfalse (by omega)) ?_ | refine L_lss rfl rfl rfl rfl ?_
      refine RL_then ?_
      refine W_seq ?_
      refine W_if_true rfl ?_
      refine W_skip' ?_
      refine Nx_then ?_
      refine W_seq ?_
      refine W_block ?_
      refine W_seq ?_
      refine W_region ?_
      refine L_move rfl rfl ?_
      refine L_assign rfl rfl ?_
      refine RL_then ?_
      refine W_seq ?_
      refine W_seq ?_
      refine W_pht [0, 1, 2, 5, 6, 7] [3, 4, 8, 9, 10, 11, 12, 13, 14, 15, 16, 17, 18, 19, 20, 21, 22, 23, 24, 25, 26, 27, 28, 29, 30, 31] [] (fun _ _ _ => False) Try.mixed (chkAll_of (by kernel_rfl)) (fun _ _ _ _ _ h => h) hs ?_
      refine PL_val rfl (fun w => R_move rfl) ?_
      refine PL_val rfl (fun w => R_move rfl) ?_
      refine PL_val rfl (fun w => R_idx1 Try.underlying22 Try.ti38 rfl rfl (by with_reducible first | exact natc_k _ | exact natc_a1 _ | exact natc_0 | exact natc_1 | exact natc_2 | exact natc_s1 _ (by omega) | exact natc_a2 _ | exact natc_add _ _ | exact natc_mul _ _ | exact natc (by omega)) (by omega) (by first | rfl | exact hx.sl.ao (by omega) | exact hr.sl.ao (by omega))) ?_
      refine PL_val rfl (fun w => R_move rfl) ?_
      refine PL_val rfl (fun w => R_move rfl) ?_
      refine PL_val rfl (fun w => R_idx1 Try.underlying22 Try.ti38 rfl rfl (by with_reducible first | exact natc_k _ | exact natc_a1 _ | exact natc_0 | exact natc_1 | exact natc_2 | exact natc_s1 _ (by omega) | exact natc_a2 _ | exact natc_add _ _ | exact natc_mul _ _ | exact natc (by omega)) (by omega) (by first | rfl | exact hx.sl.ao (by omega) | exact hr.sl.ao (by omega))) ?_
      refine PL_end ?_
      refine HL_val rfl (fun w hs => R_load Try.one38 rfl (by first | exact (hx.sl.old hs Own.nil).get k1 | exact (hr.sl.old hs Own.nil).get g1 | exact (k3.old hs Own.nil).get h77)) ?_
      refine HL_val rfl (fun w hs => R_len Try.underlying38 rfl) ?_
      refine HL_val rfl (fun w hs => R_load Try.one38 rfl (by first | exact (hx.sl.old hs Own.nil).get k1 | exact (hr.sl.old hs Own.nil).get g1 | exact (k3.old hs Own.nil).get h77)) ?_
      refine HL_val rfl (fun w hs => R_len Try.underlying38 rfl) ?_
      first | refine HL_val rfl (fun w hs => R_neq rfl rfl (dtrue (by omega))) ?_ | refine HL_val rfl (fun w hs => R_neq rfl rfl (dfalse (by omega))) ?_ | refine HL_val rfl (fun w hs => R_neq rfl rfl rfl) ?_
      refine HL_val rfl (fun w hs => R_move rfl) ?_
      first | (refine HL_want rfl rfl ?_; refine HL_val rfl (fun w hs => R_move rfl) ?_) | refine HL_skip rfl rfl rfl rfl ?_ | refine HL_skipU rfl rfl rfl ?_
      first | (refine HL_want rfl rfl ?_; refine HL_val rfl (fun w hs => R_move rfl) ?_) | refine HL_skip rfl rfl rfl rfl ?_ | refine HL_skipU rfl rfl rfl ?_
      first | (refine HL_want rfl rfl ?_; refine HL_val rfl (fun w hs => R_idx1 Try.underlying22 Try.ti38 rfl rfl (by with_reducible first | exact natc_k _ | exact natc_a1 _ | exact natc_0 | exact natc_1 | exact natc_2 | exact natc_s1 _ (by omega) | exact natc_a2 _ | exact natc_add _ _ | exact natc_mul _ _ | exact natc (by omega)) (by omega) (by first | rfl | exact hx.sl.ao (by omega) | exact hr.sl.ao (by omega))) ?_) | refine HL_skip rfl rfl rfl rfl ?_ | refine HL_skipU rfl rfl rfl ?_
      first | (refine HL_want rfl rfl ?_; refine HL_val rfl (fun w hs => R_load Try.one38 rfl (by first | exact (hx.sl.old hs Own.nil).get k1 | exact (hr.sl.old hs Own.nil).get g1 | exact (k3.old hs Own.nil).get h77)) ?_) | refine HL_skip rfl rfl rfl rfl ?_ | refine HL_skipU rfl rfl rfl ?_
      first | (refine HL_want rfl rfl ?_; refine HL_val rfl (fun w hs => R_move rfl) ?_) | refine HL_skip rfl rfl rfl rfl ?_ | refine HL_skipU rfl rfl rfl ?_
      first | (refine HL_want rfl rfl ?_; refine HL_val rfl (fun w hs => R_move rfl) ?_) | refine HL_skip rfl rfl rfl rfl ?_ | refine HL_skipU rfl rfl rfl ?_
      first | (refine HL_want rfl rfl ?_; refine HL_val rfl (fun w hs => R_idx1 Try.underlying22 Try.ti38 rfl rfl (by with_reducible first | exact natc_k _ | exact natc_a1 _ | exact natc_0 | exact natc_1 | exact natc_2 | exact natc_s1 _ (by omega) | exact natc_a2 _ | exact natc_add _ _ | exact natc_mul _ _ | exact natc (by omega)) (by omega) (by first | rfl | exact hx.sl.ao (by omega) | exact hr.sl.ao (by omega))) ?_) | refine HL_skip rfl rfl rfl rfl ?_ | refine HL_skipU rfl rfl rfl ?_
      first | (refine HL_want rfl rfl ?_; refine HL_val rfl (fun w hs => R_load Try.one38 rfl (by first | exact (hx.sl.old hs Own.nil).get k1 | exact (hr.sl.old hs Own.nil).get g1 | exact (k3.old hs Own.nil).get h77)) ?_) | refine HL_skip rfl rfl rfl rfl ?_ | refine HL_skipU rfl rfl rfl ?_
      first | (refine HL_want rfl rfl ?_; refine HL_val rfl (fun w hs => R_len Try.underlying38 rfl) ?_) | refine HL_skip rfl rfl rfl rfl ?_ | refine HL_skipU rfl rfl rfl ?_
      first | (refine HL_want rfl rfl ?_; (first | refine HL_val rfl (fun w hs => R_add rfl rfl (wrp_i64 (by omega))) ?_ | refine HL_val rfl (fun w hs => R_add rfl rfl rfl) ?_)) | refine HL_skip rfl rfl rfl rfl ?_ | refine HL_skipU rfl rfl rfl ?_
      first | (refine HL_want rfl rfl ?_; refine HL_val rfl (fun w hs => R_slice010 Try.underlying38 Try.ti2 rfl rfl (by with_reducible first | exact natc_k _ | exact natc_a1 _ | exact natc_0 | exact natc_1 | exact natc_2 | exact natc_s1 _ (by omega) | exact natc_a2 _ | exact natc_add _ _ | exact natc_mul _ _ | exact natc (by omega)) (by omega)) ?_) | refine HL_skip rfl rfl rfl rfl ?_ | refine HL_skipU rfl rfl rfl ?_
      first | (refine HL_want rfl rfl ?_; refine HL_val rfl (fun w hs => R_move rfl) ?_) | refine HL_skip rfl rfl rfl rfl ?_ | refine HL_skipU rfl rfl rfl ?_
      first | (refine HL_want rfl rfl ?_; refine HL_val rfl (fun w hs => R_move rfl) ?_) | refine HL_skip rfl rfl rfl rfl ?_ | refine HL_skipU rfl rfl rfl ?_
      first | (refine HL_want rfl rfl ?_; refine HL_val rfl (fun w hs => R_idx1 Try.underlying22 Try.ti38 rfl rfl (by with_reducible first | exact natc_k _ | exact natc_a1 _ | exact natc_0 | exact natc_1 | exact natc_2 | exact natc_s1 _ (by omega) | exact natc_a2 _ | exact natc_add _ _ | exact natc_mul _ _ | exact natc (by omega)) (by omega) (by first | rfl | exact hx.sl.ao (by omega) | exact hr.sl.ao (by omega))) ?_) | refine HL_skip rfl rfl rfl rfl ?_ | refine HL_skipU rfl rfl rfl ?_
      first | (refine HL_want rfl rfl ?_; refine HL_val rfl (fun w hs => R_load Try.one38 rfl (by first | exact (hx.sl.old hs Own.nil).get k1 | exact (hr.sl.old hs Own.nil).get g1 | exact (k3.old hs Own.nil).get h77)) ?_) | refine HL_skip rfl rfl rfl rfl ?_ | refine HL_skipU rfl rfl rfl ?_
      first | (refine HL_want rfl rfl ?_; refine HL_val rfl (fun w hs => R_len Try.underlying38 rfl) ?_) | refine HL_skip rfl rfl rfl rfl ?_ | refine HL_skipU rfl rfl rfl ?_
      first | (refine HL_want rfl rfl ?_; refine HL_val rfl (fun w hs => R_idx1 Try.underlying38 Try.ti2 rfl rfl (by with_reducible first | exact natc_k _ | exact natc_a1 _ | exact natc_0 | exact natc_1 | exact natc_2 | exact natc_s1 _ (by omega) | exact natc_a2 _ | exact natc_add _ _ | exact natc_mul _ _ | exact natc (by omega)) (by omega) (by first | rfl | exact hx.sl.ao (by omega) | exact hr.sl.ao (by omega))) ?_) | refine HL_skip rfl rfl rfl rfl ?_ | refine HL_skipU rfl rfl rfl ?_
      first | (refine HL_want rfl rfl ?_; refine HL_val rfl (fun w hs => R_load Try.one2 rfl (by first | exact (hx.sl.old hs Own.nil).get k1 | exact (hr.sl.old hs Own.nil).get g1 | exact (k3.old hs Own.nil).get h77)) ?_) | refine HL_skip rfl rfl rfl rfl ?_ | refine HL_skipU rfl rfl rfl ?_
      first | (refine HL_want rfl rfl ?_; (first | refine HL_val rfl (fun w hs => R_neq rfl rfl (dtrue (by omega))) ?_ | refine HL_val rfl (fun w hs => R_neq rfl rfl (dfalse (by omega))) ?_ | refine HL_val rfl (fun w hs => R_neq rfl rfl rfl) ?_)) | refine HL_skip rfl rfl rfl rfl ?_ | refine HL_skipU rfl rfl rfl ?_
      first | refine HL_val rfl (fun w hs => R_pick_t rfl rfl) ?_ | refine HL_val rfl (fun w hs => R_pick_f rfl rfl) ?_
      refine HL_tail ?_
      intro w hs
      refine RL_then ?_
      refine W_if_false rfl ?_
      refine W_skip' ?_
      refine Nx_then ?_
      refine W_seq ?_
      refine W_region ?_
      refine L_move rfl rfl ?_
      refine L_move rfl rfl ?_
      refine L_idx1 rfl Try.underlying22 Try.ti38 rfl rfl (by with_reducible first | exact natc_k _ | exact natc_a1 _ | exact natc_0 | exact natc_1 | exact natc_2 | exact natc_s1 _ (by omega) | exact natc_a2 _ | exact natc_add _ _ | exact natc_mul _ _ | exact natc (by omega)) (by omega) (by first | rfl | exact hx.sl.ao (by omega) | exact hr.sl.ao (by omega)) ?_
      refine L_load rfl Try.one38 rfl (by first | exact (hx.sl.old hs Own.nil).get k1 | exact (hr.sl.old hs Own.nil).get g1 | exact (k3.old hs Own.nil).get h77) ?_
      refine L_len rfl Try.underlying38 rfl ?_
      refine L_move rfl rfl ?_
      refine RL_then ?_
      refine W_block ?_
      refine W_loop2 (fun (j : Nat) (w : World) => [(0, .slice ax k cx), (1, .slice a k cp), (5, .int .i64 i), (8, .int .i64 k), (9, .int .i64 i), (48, .int .i64 m), (49, .int .i64 j)]) (fun (j : Nat) (w : World) => w) (fun (j : Nat) (w : World) => (j ≤ m) ∧ (HS w0 w [])) (fun (j : Nat) (w : World) => m - j) (0) (w) (is := [0, 1, 5, 8, 9, 48, 49]) rfl rfl ?_ ?_
      · exact ⟨Nat.zero_le _, hs⟩
      · clear hs
        intro j w hI
        show W _ _ _ _ [(0, .slice ax k cx), (1, .slice a k cp), (5, .int .i64 i), (8, .int .i64 k), (9, .int .i64 i), (48, .int .i64 m), (49, .int .i64 j)] w
        obtain ⟨hj, hs⟩ := hI
        by_cases hlt2 : j < m
        · skip
          refine W_seq ?_
          refine W_region ?_
          first | refine L_lss rfl rfl rfl (dtrue (by omega)) ?_ | refine L_lss rfl rfl rfl (dfalse (by omega)) ?_ | refine L_lss rfl rfl rfl rfl ?_
          refine RL_then ?_
          refine W_seq ?_
          refine W_if_true rfl ?_
          refine W_skip' ?_
          refine Nx_then ?_
          refine W_seq ?_
          refine W_block ?_
          refine W_seq ?_
          refine W_region ?_
          refine L_move rfl rfl ?_
          refine L_assign rfl rfl ?_
          refine RL_then ?_
          refine W_seq ?_
          refine W_pht [0, 1, 2, 4, 7, 8, 9, 11] [3, 5, 6, 10, 12, 13, 14] [] (fun _ _ _ => False) Try.mixed (chkAll_of (by kernel_rfl)) (fun _ _ _ _ _ h => h) hs ?_
          refine PL_val rfl (fun w => R_move rfl) ?_
          refine PL_val rfl (fun w => R_move rfl) ?_
          refine PL_val rfl (fun w => R_idx1 Try.underlying22 Try.ti38 rfl rfl (by with_reducible first | exact natc_k _ | exact natc_a1 _ | exact natc_0 | exact natc_1 | exact natc_2 | exact natc_s1 _ (by omega) | exact natc_a2 _ | exact natc_add _ _ | exact natc_mul _ _ | exact natc (by omega)) (by omega) (by first | rfl | exact hx.sl.ao (by omega) | exact hr.sl.ao (by omega) | exact g4.ao (by rw [il_length]; omega))) ?_
          refine PL_val rfl (fun w => R_move rfl) ?_
          refine PL_val rfl (fun w => R_move rfl) ?_
          refine PL_val rfl (fun w => R_move rfl) ?_
          refine PL_val rfl (fun w => R_idx1 Try.underlying22 Try.ti38 rfl rfl (by with_reducible first | exact natc_k _ | exact natc_a1 _ | exact natc_0 | exact natc_1 | exact natc_2 | exact natc_s1 _ (by omega) | exact natc_a2 _ | exact natc_add _ _ | exact natc_mul _ _ | exact natc (by omega)) (by omega) (by first | rfl | exact hx.sl.ao (by omega) | exact hr.sl.ao (by omega) | exact g4.ao (by rw [il_length]; omega))) ?_
          refine PL_val rfl (fun w => R_move rfl) ?_
          refine PL_end ?_
          refine HL_val rfl (fun w hs => R_load Try.one38 rfl (by first | exact (hx.sl.old hs Own.nil).get k1 | exact (hr.sl.old hs Own.nil).get g1 | exact (k3.old hs Own.nil).get (hxj j hlt2) | exact (g4.old hs Own.nil).get (il_get (by omega)))) ?_
          refine HL_val rfl (fun w hs => R_idx1 Try.underlying38 Try.ti2 rfl rfl (by with_reducible first | exact natc_k _ | exact natc_a1 _ | exact natc_0 | exact natc_1 | exact natc_2 | exact natc_s1 _ (by omega) | exact natc_a2 _ | exact natc_add _ _ | exact natc_mul _ _ | exact natc (by omega)) (by omega) (by first | rfl | exact hx.sl.ao (by omega) | exact hr.sl.ao (by omega) | exact g4.ao (by rw [il_length]; omega))) ?_
          refine HL_val rfl (fun w hs => R_load Try.one2 rfl (by first | exact (hx.sl.old hs Own.nil).get k1 | exact (hr.sl.old hs Own.nil).get g1 | exact (k3.old hs Own.nil).get (hxj j hlt2) | exact (g4.old hs Own.nil).get (il_get (by omega)))) ?_
          refine HL_val rfl (fun w hs => R_load Try.one38 rfl (by first | exact (hx.sl.old hs Own.nil).get k1 | exact (hr.sl.old hs Own.nil).get g1 | exact (k3.old hs Own.nil).get (hxj j hlt2) | exact (g4.old hs Own.nil).get (il_get (by omega)))) ?_
          refine HL_val rfl (fun w hs => R_idx1 Try.underlying38 Try.ti2 rfl rfl (by with_reducible first | exact natc_k _ | exact natc_a1 _ | exact natc_0 | exact natc_1 | exact natc_2 | exact natc_s1 _ (by omega) | exact natc_a2 _ | exact natc_add _ _ | exact natc_mul _ _ | exact natc (by omega)) (by omega) (by first | rfl | exact hx.sl.ao (by omega) | exact hr.sl.ao (by omega) | exact g4.ao (by rw [il_length]; omega))) ?_
          refine HL_val rfl (fun w hs => R_load Try.one2 rfl (by first | exact (hx.sl.old hs Own.nil).get k1 | exact (hr.sl.old hs Own.nil).get g1 | exact (k3.old hs Own.nil).get (hxj j hlt2) | exact (g4.old hs Own.nil).get (il_get (by omega)))) ?_
          first | refine HL_val rfl (fun w hs => R_neq rfl rfl (dtrue (by omega))) ?_ | refine HL_val rfl (fun w hs => R_neq rfl rfl (dfalse (by omega))) ?_ | refine HL_val rfl (fun w hs => R_neq rfl rfl rfl) ?_
          refine HL_tail ?_
          intro w hs
          refine RL_then ?_
          refine W_if_false rfl ?_
          refine W_skip' ?_
          refine Nx_block ?_
          refine Nx_then ?_
          refine W_region ?_
          first | refine L_add rfl rfl rfl (wrp_i64 (by omega)) ?_ | refine L_add rfl rfl rfl rfl ?_
          refine L_move rfl rfl ?_
          refine RL_nil' ?_
          refine Nx_loopP (j + 1, w) (is := [0, 1, 5, 8, 9, 48, 49]) (I' := (fun (j : Nat) (w : World) => (j ≤ m) ∧ (HS w0 w [])) (j + 1) (w)) rfl rfl rfl ?_ ?_
          · exact ⟨by omega, hs⟩
          · omega
        · obtain rfl : m = j := by omega
          refine W_seq ?_
          refine W_region ?_
          first | refine L_lss rfl rfl rfl (dtrue (by omega)) ?_ | refine L_lss rfl rfl rfl (dfalse (by omega)) ?_ | refine L_lss rfl rfl rfl rfl ?_
          refine RL_then ?_
          refine W_seq ?_
          refine W_if_false rfl ?_
          refine W_exit' ?_
          refine Ex_then_exit ?_
          refine Ex_loop_exit ?_
          refine Ex_block_hit ?_
          refine Nx_block ?_
          refine Nx_then ?_
          refine W_region ?_
          first | refine L_add rfl rfl rfl (wrp_i64 (by omega)) ?_ | refine L_add rfl rfl rfl rfl ?_
          refine L_move rfl rfl ?_
          refine RL_nil' ?_
          refine Nx_loopP (i + 1, w) (is := [0, 1, 8, 9]) (I' := (fun (i : Nat) (w : World) => (i ≤ k) ∧ (HS w0 w [])) (i + 1) (w)) rfl rfl rfl ?_ ?_
          · exact ⟨by omega, hs⟩
          · omega
    · obtain rfl : k = i := by omega
      refine W_seq ?_
      refine W_region ?_
      first | refine L_lss rfl rfl rfl (dtrue (by omega)) ?_ | refine L_lss rfl rfl rfl (dfalse (by omega)) ?_ | refine L_lss rfl rfl rfl rfl ?_
      refine RL_then ?_
      refine W_seq ?_
      refine W_if_false rfl ?_
      refine W_exit' ?_
      refine Ex_then_exit ?_
      refine Ex_loop_exit ?_
      refine Ex_block_hit ?_
      refine Nx_then ?_
      refine W_seq ?_
      refine W_region ?_
      refine L_assign rfl rfl ?_
      refine RL_then ?_
      refine W_ret' ?_
      refine Ex_done1 rfl rfl ?_
      exact ⟨_, rfl, rfl, hs⟩
end Go.Proofs.Ytcfdmenmlemahaa
