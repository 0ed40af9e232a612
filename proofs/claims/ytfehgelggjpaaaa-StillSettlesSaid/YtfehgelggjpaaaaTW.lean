/-
  A part of the proof: what functions that the statement reaches do, or a plain law on what they do. Each theorem holds under its own premises alone.
-/
import Derived.Test.YtfehgelggjpaaaaTT
namespace Go.Proofs.Ytfehgelggjpaaaa
open Go Go.Lk

theorem weights_none (order : Int) (w : World) (h : order < 0 ∨ 8 < order) : Ret Try.prog 8 [.int .i64 order] w fun v w' => v = .slice none 0 0 ∧ w' = w := by
  refine calls_of_W Try.func8 rfl rfl rfl ?_
  by_cases h1 : order < 0
  · refine W_seq ?_
    refine W_region ?_
    refine L_assign rfl rfl ?_
    refine RL_then ?_
    refine W_seq ?_
    refine W_seq ?_
    refine W_region ?_
    refine L_move rfl rfl ?_
    first | refine L_lss rfl rfl rfl (dtrue (by omega)) ?_ | refine L_lss rfl rfl rfl (dfalse (by omega)) ?_ | refine L_lss rfl rfl rfl rfl ?_
    refine L_move rfl rfl ?_
    first | (refine RL_want rfl rfl ?_; refine L_move rfl rfl ?_) | refine RL_skip rfl rfl rfl rfl ?_ | refine RL_skipU rfl rfl rfl ?_
    first | (refine RL_want rfl rfl ?_; (first | refine L_gtr rfl rfl rfl (dtrue (by omega)) ?_ | refine L_gtr rfl rfl rfl (dfalse (by omega)) ?_ | refine L_gtr rfl rfl rfl rfl ?_)) | refine RL_skip rfl rfl rfl rfl ?_ | refine RL_skipU rfl rfl rfl ?_
    first | refine L_pick_t rfl rfl rfl ?_ | refine L_pick_f rfl rfl rfl ?_
    refine RL_then ?_
    refine W_if_true rfl ?_
    refine W_seq ?_
    refine W_region ?_
    refine L_assign rfl rfl ?_
    refine RL_then ?_
    refine W_ret' ?_
    refine Ex_then_ret ?_
    refine Ex_done1 rfl rfl ?_
    exact ⟨_, rfl, rfl, rfl⟩
  · refine W_seq ?_
    refine W_region ?_
    refine L_assign rfl rfl ?_
    refine RL_then ?_
    refine W_seq ?_
    refine W_seq ?_
    refine W_region ?_
    refine L_move rfl rfl ?_
    first | refine L_lss rfl rfl rfl (dtrue (by omega)) ?_ | refine L_lss rfl rfl rfl (dfalse (by omega)) ?_ | refine L_lss rfl rfl rfl rfl ?_
    refine L_move rfl rfl ?_
    first | (refine RL_want rfl rfl ?_; refine L_move rfl rfl ?_) | refine RL_skip rfl rfl rfl rfl ?_ | refine RL_skipU rfl rfl rfl ?_
    first | (refine RL_want rfl rfl ?_; (first | refine L_gtr rfl rfl rfl (dtrue (by omega)) ?_ | refine L_gtr rfl rfl rfl (dfalse (by omega)) ?_ | refine L_gtr rfl rfl rfl rfl ?_)) | refine RL_skip rfl rfl rfl rfl ?_ | refine RL_skipU rfl rfl rfl ?_
    first | refine L_pick_t rfl rfl rfl ?_ | refine L_pick_f rfl rfl rfl ?_
    refine RL_then ?_
    refine W_if_true rfl ?_
    refine W_seq ?_
    refine W_region ?_
    refine L_assign rfl rfl ?_
    refine RL_then ?_
    refine W_ret' ?_
    refine Ex_then_ret ?_
    refine Ex_done1 rfl rfl ?_
    exact ⟨_, rfl, rfl, rfl⟩
def wIn (xs : List Int) (j : Nat) : List Int := xs.set j (IntKind.i64.wrap (xs.getD j 0 - xs.getD (j + 1) 0))
def wIter (xs : List Int) (j0 : Nat) : Nat → List Int
  | 0 => xs
  | s + 1 => wIn (wIter xs j0 s) (j0 + s)
def wOut (m : Nat) : Nat → List Int
  | 0 => (List.replicate (m + 1) 0).set m 1
  | o + 1 => wIter (wOut m o) (m - o - 1) (o + 1)
theorem wIter_len (xs : List Int) (j0 : Nat) : ∀ s, (wIter xs j0 s).length = xs.length
  | 0 => rfl
  | s + 1 => by simp [wIter, wIn, wIter_len xs j0 s]
theorem wOut_len (m : Nat) : ∀ o, (wOut m o).length = m + 1
  | 0 => by simp [wOut]
  | o + 1 => by rw [wOut, wIter_len, wOut_len m o]
theorem weights_some (m : Nat) (w0 : World) (h : m ≤ 8) : Ret Try.prog 8 [.int .i64 m] w0 fun v w' => ∃ b, v = .slice (some ⟨b, 0, none⟩) (m + 1) (m + 1) ∧ w0.heap.size ≤ b ∧ HS w0 w' [(b, Row 2 (il (wOut m m)))] := by
  refine Ret.start fun w hs => ?_
  refine calls_of_W Try.func8 rfl rfl rfl ?_
  refine W_seq ?_
  refine W_region ?_
  refine L_assign rfl rfl ?_
  refine RL_then ?_
  refine W_seq ?_
  refine W_seq ?_
  refine W_region ?_
  refine L_move rfl rfl ?_
  first | refine L_lss rfl rfl rfl (dtrue (by omega)) ?_ | refine L_lss rfl rfl rfl (dfalse (by omega)) ?_ | refine L_lss rfl rfl rfl rfl ?_
  refine L_move rfl rfl ?_
  first | (refine RL_want rfl rfl ?_; refine L_move rfl rfl ?_) | refine RL_skip rfl rfl rfl rfl ?_ | refine RL_skipU rfl rfl rfl ?_
  first | (refine RL_want rfl rfl ?_; (first | refine L_gtr rfl rfl rfl (dtrue (by omega)) ?_ | refine L_gtr rfl rfl rfl (dfalse (by omega)) ?_ | refine L_gtr rfl rfl rfl rfl ?_)) | refine RL_skip rfl rfl rfl rfl ?_ | refine RL_skipU rfl rfl rfl ?_
  first | refine L_pick_t rfl rfl rfl ?_ | refine L_pick_f rfl rfl rfl ?_
  refine RL_then ?_
  refine W_if_false rfl ?_
  refine W_skip' ?_
  refine Nx_then ?_
  refine W_seq ?_
  refine W_region ?_
  refine L_move rfl rfl ?_
  first | refine L_add rfl rfl rfl (wrp_i64 (by omega)) ?_ | refine L_add rfl rfl rfl rfl ?_
  refine L_make1 rfl hs Try.underlying22 Try.ti2 rfl rfl (by with_reducible first | exact natc_k _ | exact natc_a1 _ | exact natc_0 | exact natc_1 | exact natc_2 | exact natc_s1 _ (by omega) | exact natc_a2 _ | exact natc_add _ _ | exact natc_mul _ _ | exact natc (by omega)) (by with_reducible first | exact natc_k _ | exact natc_a1 _ | exact natc_0 | exact natc_1 | exact natc_2 | exact natc_s1 _ (by omega) | exact natc_a2 _ | exact natc_add _ _ | exact natc_mul _ _ | exact natc (by omega)) (by omega) (by omega) (by omega) rfl ?_
  intro b14 w hb14 hnb14 hs
  try dsimp only [List.set_cons_succ, List.set_cons_zero, List.cons_append, List.nil_append] at hs
  refine L_assign rfl rfl ?_
  refine RL_then ?_
  refine W_seq ?_
  refine W_region ?_
  refine L_move rfl rfl ?_
  refine L_move rfl rfl ?_
  refine L_idx1 rfl Try.underlying22 Try.ti2 rfl rfl (by with_reducible first | exact natc_k _ | exact natc_a1 _ | exact natc_0 | exact natc_1 | exact natc_2 | exact natc_s1 _ (by omega) | exact natc_a2 _ | exact natc_add _ _ | exact natc_mul _ _ | exact natc (by omega)) (by omega) rfl ?_
  refine L_store hs (i := 0) rfl Try.ti2 rfl rfl (by first | rfl | exact add_lit0 _ _) (by first | omega | (simp; done) | (simp; omega)) rfl ?_
  intro w hs
  try dsimp only [List.set_cons_succ, List.set_cons_zero, List.cons_append, List.nil_append] at hs
  refine RL_then ?_
  refine W_seq ?_
  refine W_seq ?_
  refine W_region ?_
  refine L_move rfl rfl ?_
  refine L_move rfl rfl ?_
  refine RL_then ?_
  refine W_block ?_
  rw [il_rep, il_set] at hs
  refine W_loop2 (fun (o : Nat) (w : World) => [(0, .int .i64 m), (3, .slice (some ⟨b14, 0, none⟩) (m + 1) (m + 1)), (18, .int .i64 m), (19, .int .i64 o)]) (fun (o : Nat) (w : World) => w) (fun (o : Nat) (w : World) => (o ≤ m) ∧ (HS w0 w [(b14, Row 2 (il (wOut m o)))])) (fun (o : Nat) (w : World) => m - o) (0) (w) (is := [0, 3, 18, 19]) rfl rfl ?_ ?_
  · exact ⟨Nat.zero_le _, hs⟩
  · intro o w hI
    show W _ _ _ _ [(0, .int .i64 m), (3, .slice (some ⟨b14, 0, none⟩) (m + 1) (m + 1)), (18, .int .i64 m), (19, .int .i64 o)] w
    obtain ⟨ho, hs⟩ := hI
    have hl := wOut_len m o
    by_cases hlt : o < m
    · refine W_seq ?_
      refine W_region ?_
      first | refine L_lss rfl rfl rfl (dtrue (by omega)) ?_ | refine L_lss rfl rfl rfl (dfalse (by omega)) ?_ | refine L_lss rfl rfl rfl rfl ?_
      refine RL_then ?_
      refine W_seq ?_
      refine W_if_true rfl ?_
      refine W_skip' ?_
      refine Nx_then ?_
      refine W_seq ?_
      refine W_block ?_
      refine W_seq ?_
      refine W_region ?_
      refine L_move rfl rfl ?_
      refine L_assign rfl rfl ?_
      refine RL_then ?_
      refine W_seq ?_
      refine W_region ?_
      refine L_move rfl rfl ?_
      refine L_move rfl rfl ?_
      first | refine L_sub rfl rfl rfl (wrp_i64 (by omega)) ?_ | refine L_sub rfl rfl rfl rfl ?_
      first | refine L_sub rfl rfl rfl (wrp_i64 (by omega)) ?_ | refine L_sub rfl rfl rfl rfl ?_
      refine L_assign rfl rfl ?_
      refine RL_then ?_
      refine W_block ?_
      refine W_set 5 (v' := .int .i64 ((m - o - 1 : Nat) : Int)) rfl (vint (by omega)) ?_
      refine W_loop2 (fun (s : Nat) (w : World) => [(0, .int .i64 m), (3, .slice (some ⟨b14, 0, none⟩) (m + 1) (m + 1)), (18, .int .i64 m), (19, .int .i64 o), (5, .int .i64 ((m - o - 1 + s : Nat) : Int))]) (fun (s : Nat) (w : World) => w) (fun (s : Nat) (w : World) => (s ≤ o + 1) ∧ (HS w0 w [(b14, Row 2 (il (wIter (wOut m o) (m - o - 1) s)))])) (fun (s : Nat) (w : World) => o + 1 - s) (0) (w) (is := [0, 3, 18, 19, 5]) rfl rfl ?_ ?_
      · exact ⟨Nat.zero_le _, hs⟩
      · intro s w hI
        show W _ _ _ _ [(0, .int .i64 m), (3, .slice (some ⟨b14, 0, none⟩) (m + 1) (m + 1)), (18, .int .i64 m), (19, .int .i64 o), (5, .int .i64 ((m - o - 1 + s : Nat) : Int))] w
        obtain ⟨hs1, hs⟩ := hI
        have hl2 := wIter_len (wOut m o) (m - o - 1) s
        by_cases hlt2 : s < o + 1
        · refine W_seq ?_
          refine W_seq ?_
          refine W_region ?_
          refine L_move rfl rfl ?_
          refine L_move rfl rfl ?_
          first | refine L_lss rfl rfl rfl (dtrue (by omega)) ?_ | refine L_lss rfl rfl rfl (dfalse (by omega)) ?_ | refine L_lss rfl rfl rfl rfl ?_
          refine RL_then ?_
          refine W_if_true rfl ?_
          refine W_skip' ?_
          refine Nx_then ?_
          refine W_seq ?_
          refine W_block ?_
          refine W_pht [0, 1, 2, 4, 5, 6, 7] [3, 8, 9, 10] [11] (fun _ _ _ => False) Try.mixed (by kernel_rfl) (fun _ _ _ _ _ h => h) hs ?_
          refine PL_val rfl (fun w => R_move rfl) ?_
          refine PL_val rfl (fun w => R_move rfl) ?_
          refine PL_val rfl (fun w => R_idx1 Try.underlying22 Try.ti2 rfl rfl (by with_reducible first | exact natc_k _ | exact natc_a1 _ | exact natc_0 | exact natc_1 | exact natc_2 | exact natc_s1 _ (by omega) | exact natc_a2 _ | exact natc_add _ _ | exact natc_mul _ _ | exact natc (by omega)) (by omega) rfl) ?_
          refine PL_val rfl (fun w => R_move rfl) ?_
          refine PL_val rfl (fun w => R_move rfl) ?_
          first | refine PL_val rfl (fun w => R_add rfl rfl (wrp_i64 (by omega))) ?_ | refine PL_val rfl (fun w => R_add rfl rfl rfl) ?_
          refine PL_val rfl (fun w => R_idx1 Try.underlying22 Try.ti2 rfl rfl (by with_reducible first | exact natc_k _ | exact natc_a1 _ | exact natc_0 | exact natc_1 | exact natc_2 | exact natc_s1 _ (by omega) | exact natc_a2 _ | exact natc_add _ _ | exact natc_mul _ _ | exact natc (by omega)) (by omega) rfl) ?_
          refine PL_end ?_
          refine HL_val rfl (fun w hs => R_load Try.one2 rfl (by exact hs.cellA (i := 0) rfl (il_get (by omega)))) ?_
          refine HL_val rfl (fun w hs => R_load Try.one2 rfl (by exact hs.cellA (i := 0) rfl (il_get (by omega)))) ?_
          first | refine HL_val rfl (fun w hs => R_sub rfl rfl (wrp_i64 (by omega))) ?_ | refine HL_val rfl (fun w hs => R_sub rfl rfl rfl) ?_
          refine HL_val rfl (fun w hs => R_idx1 Try.underlying22 Try.ti2 rfl rfl (by with_reducible first | exact natc_k _ | exact natc_a1 _ | exact natc_0 | exact natc_1 | exact natc_2 | exact natc_s1 _ (by omega) | exact natc_a2 _ | exact natc_add _ _ | exact natc_mul _ _ | exact natc (by omega)) (by omega) rfl) ?_
          refine HL_tail ?_
          intro w hs
          refine L_store hs (i := 0) rfl Try.ti2 rfl rfl (by first | rfl | exact add_lit0 _ _) (by first | omega | (simp; done) | (simp; omega)) rfl ?_
          intro w hs
          try dsimp only [List.set_cons_succ, List.set_cons_zero, List.cons_append, List.nil_append] at hs
          refine RL_nil' ?_
          refine Nx_block ?_
          refine Nx_then ?_
          refine W_region ?_
          refine L_move rfl rfl ?_
          first | refine L_add rfl rfl rfl (wrp_i64 (by omega)) ?_ | refine L_add rfl rfl rfl rfl ?_
          refine L_assign rfl rfl ?_
          refine RL_nil' ?_
          rw [il_set] at hs
          refine Nx_loopP (s + 1, w) (is := [0, 3, 18, 19, 5]) (I' := (fun (s : Nat) (w : World) => (s ≤ o + 1) ∧ (HS w0 w [(b14, Row 2 (il (wIter (wOut m o) (m - o - 1) s)))])) (s + 1) (w)) rfl rfl rfl ?_ ?_
          · exact ⟨by omega, hs⟩
          · omega
        · refine W_seq ?_
          refine W_seq ?_
          refine W_region ?_
          refine L_move rfl rfl ?_
          refine L_move rfl rfl ?_
          first | refine L_lss rfl rfl rfl (dtrue (by omega)) ?_ | refine L_lss rfl rfl rfl (dfalse (by omega)) ?_ | refine L_lss rfl rfl rfl rfl ?_
          refine RL_then ?_
          refine W_if_false rfl ?_
          refine W_exit' ?_
          refine Ex_then_exit ?_
          refine Ex_loop_exit ?_
          refine Ex_block_hit ?_
          refine Nx_block ?_
          refine Nx_then ?_
          refine W_region ?_
          first | refine L_add rfl rfl rfl (wrp_i64 (by omega)) ?_ | refine L_add rfl rfl rfl rfl ?_
          refine L_move rfl rfl ?_
          refine RL_nil' ?_
          obtain rfl : s = o + 1 := by omega
          refine Nx_loopP (o + 1, w) (is := [0, 3, 18, 19]) (I' := (fun (o : Nat) (w : World) => (o ≤ m) ∧ (HS w0 w [(b14, Row 2 (il (wOut m o)))])) (o + 1) (w)) rfl rfl rfl ?_ ?_
          · exact ⟨by omega, hs⟩
          · omega
    · refine W_seq ?_
      refine W_region ?_
      first | refine L_lss rfl rfl rfl (dtrue (by omega)) ?_ | refine L_lss rfl rfl rfl (dfalse (by omega)) ?_ | refine L_lss rfl rfl rfl rfl ?_
      refine RL_then ?_
      refine W_seq ?_
      refine W_if_false rfl ?_
      refine W_exit' ?_
      refine Ex_then_exit ?_
      refine Ex_loop_exit ?_
      refine Ex_block_hit ?_
      refine Nx_then ?_
      refine W_seq ?_
      refine W_region ?_
      refine L_move rfl rfl ?_
      refine L_assign rfl rfl ?_
      refine RL_then ?_
      refine W_ret' ?_
      refine Ex_done1 rfl rfl ?_
      obtain rfl : o = m := by omega
      exact ⟨_, rfl, b14, rfl, hb14, hs⟩
end Go.Proofs.Ytfehgelggjpaaaa
