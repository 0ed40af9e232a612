/-
  A part of the proof: what functions that the statement reaches do, or a plain law on what they do. Each theorem holds under its own premises alone.
-/
import Derived.Test.YtfehgelggjpaaaaTT
namespace Go.Proofs.Ytfehgelggjpaaaa
open Go Go.Lk
/-! ### Rows of complex numbers that came in -/
structure RowsC (w : World) (a : Option Addr) (rows : List (List (Nat × Nat))) (rvs : List Value) : Prop where
  sl : SlC w a rvs
  len : rvs.length = rows.length
  row : ∀ i, i < rows.length → ∃ ai ci, rvs[i]? = some (.slice ai (rows.getD i []).length ci) ∧ SlC w ai (cl (rows.getD i []))
theorem RowsC.old {w0 w : World} {L : List (Nat × Obj)} {a : Option Addr} {rows : List (List (Nat × Nat))} {rvs : List Value} (h : RowsC w0 a rows rvs) (hs : HS w0 w L) (ho : Own w0 L) : RowsC w a rows rvs :=
  ⟨h.sl.old hs ho, h.len, fun i hi => let ⟨ai, ci, h1, h2⟩ := h.row i hi; ⟨ai, ci, h1, h2.old hs ho⟩⟩
/-- 'table' of rows of one length within the bounds: nothing is wrong. -/
theorem table_ok (a : Option Addr) (c : Nat) (rows : List (List (Nat × Nat))) (rvs : List Value) (n : Nat) (w0 : World) (hr : RowsC w0 a rows rvs) (hn : ∀ i, i < rows.length → (rows.getD i []).length = n) (hk : rows.length ≤ 256) (hn2 : n ≤ 16384) (hall : rows.length * n ≤ 262144) :
    Ret Try.prog 23 [.slice a rows.length c] w0 fun v w' => v = .int .i64 0 ∧ HS w0 w' [] := by
  refine Ret.start fun w hs => ?_
  obtain ⟨k, hkk⟩ : ∃ k, k = rows.length := ⟨_, rfl⟩
  have hrl := hr.len
  rw [← hkk] at hk hall hn hrl ⊢
  refine calls_of_W Try.func23 rfl rfl rfl ?_
  refine W_seq ?_
  refine W_region ?_
  refine L_assign rfl rfl ?_
  refine RL_then ?_
  refine W_seq ?_
  refine W_seq ?_
  refine W_region ?_
  refine L_move rfl rfl ?_
  refine L_len rfl Try.underlying29 rfl ?_
  first | refine L_gtr rfl rfl rfl (dtrue (by omega)) ?_ | refine L_gtr rfl rfl rfl (dfalse (by omega)) ?_ | refine L_gtr rfl rfl rfl rfl ?_
  refine RL_then ?_
  refine W_if_false rfl ?_
  refine W_skip' ?_
  refine Nx_then ?_
  refine W_seq ?_
  refine W_region ?_
  refine L_assign rfl rfl ?_
  refine RL_then ?_
  refine W_seq ?_
  refine W_seq ?_
  refine W_region ?_
  refine L_move rfl rfl ?_
  refine L_len rfl Try.underlying29 rfl ?_
  refine L_move rfl rfl ?_
  refine RL_then ?_
  refine W_block ?_
  refine W_set 3 (v' := .int .i64 ((0 * n : Nat) : Int)) rfl (vint (by simp)) ?_
  refine W_loop2 (fun (i : Nat) (w : World) => [(0, .slice a k c), (3, .int .i64 ((i * n : Nat) : Int)), (11, .slice a k c), (12, .int .i64 k), (13, .int .i64 i)]) (fun (i : Nat) (w : World) => w) (fun (i : Nat) (w : World) => (i ≤ k) ∧ (HS w0 w [])) (fun (i : Nat) (w : World) => k - i) (0) (w) (is := [0, 3, 11, 12, 13]) rfl rfl ?_ ?_
  · exact ⟨Nat.zero_le _, hs⟩
  · intro i w hI
    show W _ _ _ _ [(0, .slice a k c), (3, .int .i64 ((i * n : Nat) : Int)), (11, .slice a k c), (12, .int .i64 k), (13, .int .i64 i)] w
    obtain ⟨hi, hs⟩ := hI
    by_cases hlt : i < k
    · obtain ⟨ai, ci, h1, h2⟩ := hr.row i (by omega)
      rw [hn i hlt] at h1
      have hb : (i + 1) * n ≤ 262144 := Nat.le_trans (Nat.mul_le_mul_right n (by omega)) hall
      rw [Nat.add_mul, Nat.one_mul] at hb
      refine W_seq ?_
      refine W_region ?_
      first | refine L_lss rfl rfl rfl (dtrue (by omega)) ?_ | refine L_lss rfl rfl rfl (dfalse (by omega)) ?_ | refine L_lss rfl rfl rfl rfl ?_
      refine RL_then ?_
      refine W_seq ?_
      refine W_if_true rfl ?_
      refine W_skip' ?_
      refine Nx_then ?_
      refine W_seq ?_
      refine W_block ?_
      refine W_seq ?_
      refine W_region ?_
      refine L_idx1 rfl Try.underlying29 Try.ti36 rfl rfl (by with_reducible first | exact natc_k _ | exact natc_a1 _ | exact natc_0 | exact natc_1 | exact natc_2 | exact natc_s1 _ (by omega) | exact natc_a2 _ | exact natc_add _ _ | exact natc_mul _ _ | exact natc (by omega)) (by omega) (hr.sl.ao (by omega)) ?_
      refine L_load rfl Try.one36 rfl (by exact hs.oldcell (hr.sl.get h1) (by simp)) ?_
      refine L_assign rfl rfl ?_
      refine RL_then ?_
      refine W_seq ?_
      refine W_seq ?_
      refine W_region ?_
      refine L_move rfl rfl ?_
      refine L_len rfl Try.underlying36 rfl ?_
      first | refine L_gtr rfl rfl rfl (dtrue (by omega)) ?_ | refine L_gtr rfl rfl rfl (dfalse (by omega)) ?_ | refine L_gtr rfl rfl rfl rfl ?_
      refine RL_then ?_
      refine W_if_false rfl ?_
      refine W_skip' ?_
      refine Nx_then ?_
      refine W_region ?_
      refine L_move rfl rfl ?_
      refine L_move rfl rfl ?_
      refine L_len rfl Try.underlying36 rfl ?_
      first | refine L_add rfl rfl rfl (wrp_i64 (by omega)) ?_ | refine L_add rfl rfl rfl rfl ?_
      refine L_assign rfl rfl ?_
      refine RL_nil' ?_
      refine Nx_block ?_
      refine Nx_then ?_
      refine W_region ?_
      first | refine L_add rfl rfl rfl (wrp_i64 (by omega)) ?_ | refine L_add rfl rfl rfl rfl ?_
      refine L_move rfl rfl ?_
      refine RL_nil' ?_
      refine Nx_set 3 (v' := .int .i64 (((i + 1) * n : Nat) : Int)) rfl (vint (by rw [Nat.add_mul]; omega)) ?_
      refine Nx_loopP (i + 1, w) (is := [0, 3, 11, 12, 13]) (I' := (fun (i : Nat) (w : World) => (i ≤ k) ∧ (HS w0 w [])) (i + 1) (w)) rfl rfl rfl ?_ ?_
      · exact ⟨by omega, hs⟩
      · omega
    · refine W_seq ?_
      refine W_region ?_
      first | refine L_lss rfl rfl rfl (dtrue (by omega)) ?_ | refine L_lss rfl rfl rfl (dfalse (by omega)) ?_ | refine L_lss rfl rfl rfl rfl ?_
      refine RL_then ?_
      refine W_seq ?_
      refine W_if_false rfl ?_
      obtain rfl : i = k := by omega
      refine W_exit' ?_
      refine Ex_then_exit ?_
      refine Ex_loop_exit ?_
      refine Ex_block_hit ?_
      refine Nx_then ?_
      refine W_seq ?_
      refine W_seq ?_
      refine W_region ?_
      refine L_move rfl rfl ?_
      first | refine L_gtr rfl rfl rfl (dtrue (by omega)) ?_ | refine L_gtr rfl rfl rfl (dfalse (by omega)) ?_ | refine L_gtr rfl rfl rfl rfl ?_
      refine RL_then ?_
      refine W_if_false rfl ?_
      refine W_skip' ?_
      refine Nx_then ?_
      refine W_seq ?_
      refine W_seq ?_
      refine W_region ?_
      refine L_move rfl rfl ?_
      refine L_len rfl Try.underlying29 rfl ?_
      refine L_move rfl rfl ?_
      refine RL_then ?_
      refine W_block ?_
      refine W_loop2 (fun (j : Nat) (w : World) => [(0, .slice a i c), (27, .slice a i c), (28, .int .i64 i), (29, .int .i64 j)]) (fun (j : Nat) (w : World) => w) (fun (j : Nat) (w : World) => (j ≤ i) ∧ (HS w0 w [])) (fun (j : Nat) (w : World) => i - j) (0) (w) (is := [0, 27, 28, 29]) rfl rfl ?_ ?_
      · exact ⟨Nat.zero_le _, hs⟩
      · intro j w hI
        show W _ _ _ _ [(0, .slice a i c), (27, .slice a i c), (28, .int .i64 i), (29, .int .i64 j)] w
        obtain ⟨hj, hs⟩ := hI
        by_cases hlt2 : j < i
        · obtain ⟨aj, cj, h1, h2⟩ := hr.row j (by omega)
          rw [hn j hlt2] at h1
          obtain ⟨a0, c0, h3, h4⟩ := hr.row 0 (by omega)
          rw [hn 0 (by omega)] at h3
          refine W_seq ?_
          refine W_region ?_
          first | refine L_lss rfl rfl rfl (dtrue (by omega)) ?_ | refine L_lss rfl rfl rfl (dfalse (by omega)) ?_ | refine L_lss rfl rfl rfl rfl ?_
          refine RL_then ?_
          refine W_seq ?_
          refine W_if_true rfl ?_
          refine W_skip' ?_
          refine Nx_then ?_
          refine W_seq ?_
          refine W_block ?_
          refine W_seq ?_
          refine W_region ?_
          refine L_idx1 rfl Try.underlying29 Try.ti36 rfl rfl (by with_reducible first | exact natc_k _ | exact natc_a1 _ | exact natc_0 | exact natc_1 | exact natc_2 | exact natc_s1 _ (by omega) | exact natc_a2 _ | exact natc_add _ _ | exact natc_mul _ _ | exact natc (by omega)) (by omega) (hr.sl.ao (by omega)) ?_
          refine L_load rfl Try.one36 rfl (by first | exact hs.oldcell (hr.sl.get h1) (by simp) | exact hs.oldcell (hr.sl.get h3) (by simp)) ?_
          refine L_assign rfl rfl ?_
          refine RL_then ?_
          refine W_seq ?_
          refine W_region ?_
          refine L_move rfl rfl ?_
          refine L_len rfl Try.underlying36 rfl ?_
          refine L_move rfl rfl ?_
          refine L_idx1 rfl Try.underlying29 Try.ti36 rfl rfl (by with_reducible first | exact natc_k _ | exact natc_a1 _ | exact natc_0 | exact natc_1 | exact natc_2 | exact natc_s1 _ (by omega) | exact natc_a2 _ | exact natc_add _ _ | exact natc_mul _ _ | exact natc (by omega)) (by omega) (hr.sl.ao (by omega)) ?_
          refine L_load rfl Try.one36 rfl (by first | exact hs.oldcell (hr.sl.get h1) (by simp) | exact hs.oldcell (hr.sl.get h3) (by simp)) ?_
          refine L_len rfl Try.underlying36 rfl ?_
          first | refine L_neq rfl rfl rfl (dtrue (by omega)) ?_ | refine L_neq rfl rfl rfl (dfalse (by omega)) ?_ | refine L_neq rfl rfl rfl rfl ?_
          refine RL_then ?_
          refine W_if_false rfl ?_
          refine W_skip' ?_
          refine Nx_block ?_
          refine Nx_then ?_
          refine W_region ?_
          first | refine L_add rfl rfl rfl (wrp_i64 (by omega)) ?_ | refine L_add rfl rfl rfl rfl ?_
          refine L_move rfl rfl ?_
          refine RL_nil' ?_
          refine Nx_loopP (j + 1, w) (is := [0, 27, 28, 29]) (I' := (fun (j : Nat) (w : World) => (j ≤ i) ∧ (HS w0 w [])) (j + 1) (w)) rfl rfl rfl ?_ ?_
          · exact ⟨by omega, hs⟩
          · omega
        · refine W_seq ?_
          refine W_region ?_
          first | refine L_lss rfl rfl rfl (dtrue (by omega)) ?_ | refine L_lss rfl rfl rfl (dfalse (by omega)) ?_ | refine L_lss rfl rfl rfl rfl ?_
          refine RL_then ?_
          refine W_seq ?_
          refine W_if_false rfl ?_
          refine W_exit' ?_
          refine Ex_then_exit ?_
          refine Ex_loop_exit ?_
          refine Ex_block_hit ?_
          refine Nx_then ?_
          refine W_seq ?_
          refine W_region ?_
          refine L_assign rfl rfl ?_
          refine RL_then ?_
          refine W_ret' ?_
          refine Ex_done1 rfl rfl ?_
          exact ⟨_, rfl, rfl, hs⟩
end Go.Proofs.Ytfehgelggjpaaaa
