/-
  A part of the proof: what functions that the statement reaches do, or a plain law on what they do. Each theorem holds under its own premises alone.
-/
import Derived.Test.YtfehgelggjpaaaaTW2
namespace Go.Proofs.Ytfehgelggjpaaaa
open Go Go.Lk
theorem weights_agree : ∀ m, m ≤ 8 → wOut m m = rSign m (rOut m) (m + 1) := by decide +kernel
def Wakes : Prop := ∀ w, Ret Try.prog 10 [] w fun v w' => v = .bool true ∧ HS w w' []
theorem weights_law_none (hwk : Wakes) (order : Int) (w0 : World) (h : order < 0 ∨ 8 < order) : Ret Try.prog 3 [.int .i64 order] w0 fun v w' => v = .bool true ∧ HS w0 w' [] := by
  refine Ret.start fun w hs => ?_
  refine calls_of_W Try.func3 rfl rfl rfl ?_
  refine W_seq ?_
  refine W_region ?_
  refine L_assign rfl rfl ?_
  refine RL_then ?_
  refine W_seq ?_
  refine W_region ?_
  refine L_move rfl rfl ?_
  refine L_call rfl Try.fun8 rfl (weights_none order w h) ?_
  rintro _ w' ⟨rfl, rfl⟩
  refine L_assign rfl rfl ?_
  refine RL_then ?_
  refine W_seq ?_
  refine W_region ?_
  refine L_move rfl rfl ?_
  refine L_call rfl Try.fun8 rfl (weights_none order w' h) ?_
  rintro _ w ⟨rfl, rfl⟩
  refine L_assign rfl rfl ?_
  refine RL_then ?_
  refine W_seq ?_
  refine W_region ?_
  refine L_move rfl rfl ?_
  refine L_call rfl Try.fun9 rfl (rweights_none order w h) ?_
  rintro _ w' ⟨rfl, rfl⟩
  refine L_assign rfl rfl ?_
  refine RL_then ?_
  refine W_seq ?_
  refine W_seq ?_
  refine W_region ?_
  refine L_move rfl rfl ?_
  refine L_len rfl Try.underlying22 rfl ?_
  refine L_move rfl rfl ?_
  refine L_len rfl Try.underlying22 rfl ?_
  first | refine L_neq rfl rfl rfl (dtrue (by omega)) ?_ | refine L_neq rfl rfl rfl (dfalse (by omega)) ?_ | refine L_neq rfl rfl rfl rfl ?_
  refine L_move rfl rfl ?_
  first | (refine RL_want rfl rfl ?_; refine L_move rfl rfl ?_) | refine RL_skip rfl rfl rfl rfl ?_ | refine RL_skipU rfl rfl rfl ?_
  first | (refine RL_want rfl rfl ?_; refine L_len rfl Try.underlying22 rfl ?_) | refine RL_skip rfl rfl rfl rfl ?_ | refine RL_skipU rfl rfl rfl ?_
  first | (refine RL_want rfl rfl ?_; refine L_move rfl rfl ?_) | refine RL_skip rfl rfl rfl rfl ?_ | refine RL_skipU rfl rfl rfl ?_
  first | (refine RL_want rfl rfl ?_; refine L_len rfl Try.underlying22 rfl ?_) | refine RL_skip rfl rfl rfl rfl ?_ | refine RL_skipU rfl rfl rfl ?_
  first | (refine RL_want rfl rfl ?_; (first | refine L_neq rfl rfl rfl (dtrue (by omega)) ?_ | refine L_neq rfl rfl rfl (dfalse (by omega)) ?_ | refine L_neq rfl rfl rfl rfl ?_)) | refine RL_skip rfl rfl rfl rfl ?_ | refine RL_skipU rfl rfl rfl ?_
  first | refine L_pick_t rfl rfl rfl ?_ | refine L_pick_f rfl rfl rfl ?_
  refine RL_then ?_
  refine W_if_false rfl ?_
  refine W_skip' ?_
  refine Nx_then ?_
  refine W_seq ?_
  refine W_seq ?_
  refine W_region ?_
  refine L_assign rfl rfl ?_
  refine RL_then ?_
  refine W_block ?_
  refine W_loop1 (fun (w : World) => [(5, .slice none 0 0), (6, .int .i64 0)]) (fun (w : World) => w) (fun (w : World) => (HS w0 w [])) (fun (w : World) => 0) (w') (is := [5, 6]) rfl rfl ?_ ?_
  · exact hs
  · intro w hI
    show W _ _ _ _ [(5, .slice none 0 0), (6, .int .i64 0)] w
    have hs : HS w0 w [] := hI
    refine W_seq ?_
    refine W_seq ?_
    refine W_region ?_
    refine L_move rfl rfl ?_
    refine L_move rfl rfl ?_
    refine L_len rfl Try.underlying22 rfl ?_
    first | refine L_lss rfl rfl rfl (dtrue (by omega)) ?_ | refine L_lss rfl rfl rfl (dfalse (by omega)) ?_ | refine L_lss rfl rfl rfl rfl ?_
    refine RL_then ?_
    refine W_if_false rfl ?_
    refine W_exit' ?_
    refine Ex_then_exit ?_
    refine Ex_loop_exit ?_
    refine Ex_block_hit ?_
    refine Nx_then ?_
    refine W_seq ?_
    refine W_seq ?_
    refine W_region ?_
    refine L_assign rfl rfl ?_
    refine RL_then ?_
    refine W_block ?_
    refine W_loop1 (fun (w : World) => [(5, .slice none 0 0), (7, .int .i64 0)]) (fun (w : World) => w) (fun (w : World) => (HS w0 w [])) (fun (w : World) => 0) (w) (is := [5, 7]) rfl rfl ?_ ?_
    · exact hs
    · intro w hI
      show W _ _ _ _ [(5, .slice none 0 0), (7, .int .i64 0)] w
      have hs : HS w0 w [] := hI
      refine W_seq ?_
      refine W_seq ?_
      refine W_region ?_
      refine L_move rfl rfl ?_
      refine L_move rfl rfl ?_
      refine L_len rfl Try.underlying22 rfl ?_
      first | refine L_lss rfl rfl rfl (dtrue (by omega)) ?_ | refine L_lss rfl rfl rfl (dfalse (by omega)) ?_ | refine L_lss rfl rfl rfl rfl ?_
      refine RL_then ?_
      refine W_if_false rfl ?_
      refine W_exit' ?_
      refine Ex_then_exit ?_
      refine Ex_loop_exit ?_
      refine Ex_block_hit ?_
      refine Nx_then ?_
      refine W_seq ?_
      refine W_region ?_
      refine L_call rfl Try.fun10 rfl (hwk w) ?_
      rintro _ w' ⟨rfl, hs'⟩
      refine L_assign rfl rfl ?_
      refine RL_then ?_
      refine W_ret' ?_
      refine Ex_done1 rfl rfl ?_
      exact ⟨_, rfl, rfl, hs.nil hs'⟩
theorem weights_law_some (hwk : Wakes) (m : Nat) (w0 : World) (h : m ≤ 8) : Ret Try.prog 3 [.int .i64 m] w0 fun v w' => v = .bool true ∧ HS w0 w' [] := by
  refine Ret.start fun w hs => ?_
  refine calls_of_W Try.func3 rfl rfl rfl ?_
  refine W_seq ?_
  refine W_region ?_
  refine L_assign rfl rfl ?_
  refine RL_then ?_
  refine W_seq ?_
  refine W_region ?_
  refine L_move rfl rfl ?_
  refine L_call rfl Try.fun8 rfl (weights_some m w h) ?_
  rintro _ w' ⟨ba, rfl, hba, hs'⟩
  obtain ⟨hs, hba⟩ := hs.callO hs' (Own.cons hba Own.nil)
  replace hba := hba.head
  refine L_assign rfl rfl ?_
  refine RL_then ?_
  refine W_seq ?_
  refine W_region ?_
  refine L_move rfl rfl ?_
  refine L_call rfl Try.fun8 rfl (weights_some m w' h) ?_
  rintro _ w ⟨bb, rfl, hbb, hs'⟩
  obtain ⟨hs, hbb⟩ := hs.callO hs' (Own.cons hbb Own.nil)
  replace hbb := hbb.head
  refine L_assign rfl rfl ?_
  refine RL_then ?_
  refine W_seq ?_
  refine W_region ?_
  refine L_move rfl rfl ?_
  refine L_call rfl Try.fun9 rfl (rweights_some m w h) ?_
  rintro v w ⟨M, hs', hbl⟩
  obtain ⟨g, cap, sp, rfl, rfl, hg, hc, hn⟩ := hbl.own_row (by omega)
  obtain ⟨hs, hg⟩ := hs.callO hs' (Own.cons hg Own.nil)
  replace hg := hg.head
  rw [← weights_agree m h] at hs
  obtain ⟨A, hA⟩ : ∃ A, A = wOut m m := ⟨_, rfl⟩
  have hl := wOut_len m m
  rw [← hA] at hs hl
  have hs : HS w0 w [(ba, Row 2 (il A)), (bb, Row 2 (il A)), (g, Row 2 (il A ++ sp))] := hs
  refine L_assign rfl rfl ?_
  refine RL_then ?_
  refine W_seq ?_
  refine W_seq ?_
  refine W_region ?_
  refine L_move rfl rfl ?_
  refine L_len rfl Try.underlying22 rfl ?_
  refine L_move rfl rfl ?_
  refine L_len rfl Try.underlying22 rfl ?_
  first | refine L_neq rfl rfl rfl (dtrue (by omega)) ?_ | refine L_neq rfl rfl rfl (dfalse (by omega)) ?_ | refine L_neq rfl rfl rfl rfl ?_
  refine L_move rfl rfl ?_
  first | (refine RL_want rfl rfl ?_; refine L_move rfl rfl ?_) | refine RL_skip rfl rfl rfl rfl ?_ | refine RL_skipU rfl rfl rfl ?_
  first | (refine RL_want rfl rfl ?_; refine L_len rfl Try.underlying22 rfl ?_) | refine RL_skip rfl rfl rfl rfl ?_ | refine RL_skipU rfl rfl rfl ?_
  first | (refine RL_want rfl rfl ?_; refine L_move rfl rfl ?_) | refine RL_skip rfl rfl rfl rfl ?_ | refine RL_skipU rfl rfl rfl ?_
  first | (refine RL_want rfl rfl ?_; refine L_len rfl Try.underlying22 rfl ?_) | refine RL_skip rfl rfl rfl rfl ?_ | refine RL_skipU rfl rfl rfl ?_
  first | (refine RL_want rfl rfl ?_; (first | refine L_neq rfl rfl rfl (dtrue (by omega)) ?_ | refine L_neq rfl rfl rfl (dfalse (by omega)) ?_ | refine L_neq rfl rfl rfl rfl ?_)) | refine RL_skip rfl rfl rfl rfl ?_ | refine RL_skipU rfl rfl rfl ?_
  first | refine L_pick_t rfl rfl rfl ?_ | refine L_pick_f rfl rfl rfl ?_
  refine RL_then ?_
  refine W_if_false rfl ?_
  refine W_skip' ?_
  refine Nx_then ?_
  refine W_seq ?_
  refine W_seq ?_
  refine W_region ?_
  refine L_assign rfl rfl ?_
  refine RL_then ?_
  refine W_block ?_
  refine W_loop3 (fun (i : Nat) (xs : List Int) (w : World) => [(3, .slice (some ⟨ba, 0, none⟩) (m + 1) (m + 1)), (4, .slice (some ⟨bb, 0, none⟩) (m + 1) (m + 1)), (5, .slice (some ⟨g, 0, none⟩) (m + 1) cap), (6, .int .i64 i)]) (fun (i : Nat) (xs : List Int) (w : World) => w) (fun (i : Nat) (xs : List Int) (w : World) => (i ≤ m + 1) ∧ (xs.length = m + 1) ∧ (∀ j, i ≤ j → xs.getD j 0 = A.getD j 0) ∧ (HS w0 w [(ba, Row 2 (il xs)), (bb, Row 2 (il A)), (g, Row 2 (il A ++ sp))])) (fun (i : Nat) (xs : List Int) (w : World) => m + 1 - i) (0) (A) (w) (is := [3, 4, 5, 6]) rfl rfl ?_ ?_
  · exact ⟨Nat.zero_le _, hl, fun _ _ => rfl, hs⟩
  · intro i xs w hI
    show W _ _ _ _ [(3, .slice (some ⟨ba, 0, none⟩) (m + 1) (m + 1)), (4, .slice (some ⟨bb, 0, none⟩) (m + 1) (m + 1)), (5, .slice (some ⟨g, 0, none⟩) (m + 1) cap), (6, .int .i64 i)] w
    obtain ⟨hi, hxl, hxs, hs⟩ := hI
    by_cases hlt : i < m + 1
    · refine W_seq ?_
      refine W_seq ?_
      refine W_region ?_
      refine L_move rfl rfl ?_
      refine L_move rfl rfl ?_
      refine L_len rfl Try.underlying22 rfl ?_
      first | refine L_lss rfl rfl rfl (dtrue (by omega)) ?_ | refine L_lss rfl rfl rfl (dfalse (by omega)) ?_ | refine L_lss rfl rfl rfl rfl ?_
      refine RL_then ?_
      refine W_if_true rfl ?_
      have hxi := hxs i (Nat.le_refl _)
      refine W_skip' ?_
      refine Nx_then ?_
      refine W_seq ?_
      refine W_block ?_
      refine W_seq ?_
      refine W_seq ?_
      refine W_pht [0, 1, 2, 4, 5, 6] [3, 7, 8, 9, 10, 11, 12, 13, 14, 15, 16, 17, 18, 19] [] (fun _ _ _ => False) Try.mixed (by kernel_rfl) (fun _ _ _ _ _ h => h) hs ?_
      refine PL_val rfl (fun w => R_move rfl) ?_
      refine PL_val rfl (fun w => R_move rfl) ?_
      refine PL_val rfl (fun w => R_idx1 Try.underlying22 Try.ti2 rfl rfl (by with_reducible first | exact natc_k _ | exact natc_a1 _ | exact natc_0 | exact natc_1 | exact natc_2 | exact natc_s1 _ (by omega) | exact natc_a2 _ | exact natc_add _ _ | exact natc_mul _ _ | exact natc (by omega)) (by omega) rfl) ?_
      refine PL_val rfl (fun w => R_move rfl) ?_
      refine PL_val rfl (fun w => R_move rfl) ?_
      refine PL_val rfl (fun w => R_idx1 Try.underlying22 Try.ti2 rfl rfl (by with_reducible first | exact natc_k _ | exact natc_a1 _ | exact natc_0 | exact natc_1 | exact natc_2 | exact natc_s1 _ (by omega) | exact natc_a2 _ | exact natc_add _ _ | exact natc_mul _ _ | exact natc (by omega)) (by omega) rfl) ?_
      refine PL_end ?_
      refine HL_val rfl (fun w hs => R_load Try.one2 rfl (by first | exact hs.cellA (i := 0) rfl (il_get (by omega)) | exact hs.cellA (i := 1) rfl (il_get (by omega)) | exact hs.cellA (i := 2) rfl (il_get' (by omega)))) ?_
      refine HL_val rfl (fun w hs => R_load Try.one2 rfl (by first | exact hs.cellA (i := 0) rfl (il_get (by omega)) | exact hs.cellA (i := 1) rfl (il_get (by omega)) | exact hs.cellA (i := 2) rfl (il_get' (by omega)))) ?_
      first | refine HL_val rfl (fun w hs => R_neq rfl rfl (dtrue (by omega))) ?_ | refine HL_val rfl (fun w hs => R_neq rfl rfl (dfalse (by omega))) ?_ | refine HL_val rfl (fun w hs => R_neq rfl rfl rfl) ?_
      refine HL_val rfl (fun w hs => R_move rfl) ?_
      first | (refine HL_want rfl rfl ?_; refine HL_val rfl (fun w hs => R_move rfl) ?_) | refine HL_skip rfl rfl rfl rfl ?_ | refine HL_skipU rfl rfl rfl ?_
      first | (refine HL_want rfl rfl ?_; refine HL_val rfl (fun w hs => R_move rfl) ?_) | refine HL_skip rfl rfl rfl rfl ?_ | refine HL_skipU rfl rfl rfl ?_
      first | (refine HL_want rfl rfl ?_; refine HL_val rfl (fun w hs => R_idx1 Try.underlying22 Try.ti2 rfl rfl (by with_reducible first | exact natc_k _ | exact natc_a1 _ | exact natc_0 | exact natc_1 | exact natc_2 | exact natc_s1 _ (by omega) | exact natc_a2 _ | exact natc_add _ _ | exact natc_mul _ _ | exact natc (by omega)) (by omega) rfl) ?_) | refine HL_skip rfl rfl rfl rfl ?_ | refine HL_skipU rfl rfl rfl ?_
      first | (refine HL_want rfl rfl ?_; refine HL_val rfl (fun w hs => R_load Try.one2 rfl (by first | exact hs.cellA (i := 0) rfl (il_get (by omega)) | exact hs.cellA (i := 1) rfl (il_get (by omega)) | exact hs.cellA (i := 2) rfl (il_get' (by omega)))) ?_) | refine HL_skip rfl rfl rfl rfl ?_ | refine HL_skipU rfl rfl rfl ?_
      first | (refine HL_want rfl rfl ?_; refine HL_val rfl (fun w hs => R_move rfl) ?_) | refine HL_skip rfl rfl rfl rfl ?_ | refine HL_skipU rfl rfl rfl ?_
      first | (refine HL_want rfl rfl ?_; refine HL_val rfl (fun w hs => R_move rfl) ?_) | refine HL_skip rfl rfl rfl rfl ?_ | refine HL_skipU rfl rfl rfl ?_
      first | (refine HL_want rfl rfl ?_; refine HL_val rfl (fun w hs => R_idx1 Try.underlying22 Try.ti2 rfl rfl (by with_reducible first | exact natc_k _ | exact natc_a1 _ | exact natc_0 | exact natc_1 | exact natc_2 | exact natc_s1 _ (by omega) | exact natc_a2 _ | exact natc_add _ _ | exact natc_mul _ _ | exact natc (by omega)) (by omega) rfl) ?_) | refine HL_skip rfl rfl rfl rfl ?_ | refine HL_skipU rfl rfl rfl ?_
      first | (refine HL_want rfl rfl ?_; refine HL_val rfl (fun w hs => R_load Try.one2 rfl (by first | exact hs.cellA (i := 0) rfl (il_get (by omega)) | exact hs.cellA (i := 1) rfl (il_get (by omega)) | exact hs.cellA (i := 2) rfl (il_get' (by omega)))) ?_) | refine HL_skip rfl rfl rfl rfl ?_ | refine HL_skipU rfl rfl rfl ?_
      first | (refine HL_want rfl rfl ?_; (first | refine HL_val rfl (fun w hs => R_neq rfl rfl (dtrue (by omega))) ?_ | refine HL_val rfl (fun w hs => R_neq rfl rfl (dfalse (by omega))) ?_ | refine HL_val rfl (fun w hs => R_neq rfl rfl rfl) ?_)) | refine HL_skip rfl rfl rfl rfl ?_ | refine HL_skipU rfl rfl rfl ?_
      first | refine HL_val rfl (fun w hs => R_pick_t rfl rfl) ?_ | refine HL_val rfl (fun w hs => R_pick_f rfl rfl) ?_
      refine HL_tail ?_
      intro w hs
      refine RL_then ?_
      refine W_if_false rfl ?_
      refine W_skip' ?_
      refine Nx_then ?_
      refine W_region ?_
      refine L_move rfl rfl ?_
      refine L_move rfl rfl ?_
      refine L_idx1 rfl Try.underlying22 Try.ti2 rfl rfl (by with_reducible first | exact natc_k _ | exact natc_a1 _ | exact natc_0 | exact natc_1 | exact natc_2 | exact natc_s1 _ (by omega) | exact natc_a2 _ | exact natc_add _ _ | exact natc_mul _ _ | exact natc (by omega)) (by omega) rfl ?_
      refine L_store hs (i := 0) rfl Try.ti2 rfl rfl (by first | rfl | exact add_lit0 _ _) (by first | omega | (simp; done) | (simp; omega)) rfl ?_
      intro w hs
      try dsimp only [List.set_cons_succ, List.set_cons_zero, List.cons_append, List.nil_append] at hs
      refine RL_nil' ?_
      refine Nx_block ?_
      refine Nx_then ?_
      refine W_region ?_
      refine L_move rfl rfl ?_
      first | refine L_add rfl rfl rfl (wrp_i64 (by omega)) ?_ | refine L_add rfl rfl rfl rfl ?_
      refine L_assign rfl rfl ?_
      refine RL_nil' ?_
      rw [il_set] at hs
      refine Nx_loopP (i + 1, xs.set i 99, w) (is := [3, 4, 5, 6]) (I' := (fun (i : Nat) (xs : List Int) (w : World) => (i ≤ m + 1) ∧ (xs.length = m + 1) ∧ (∀ j, i ≤ j → xs.getD j 0 = A.getD j 0) ∧ (HS w0 w [(ba, Row 2 (il xs)), (bb, Row 2 (il A)), (g, Row 2 (il A ++ sp))])) (i + 1) (xs.set i 99) (w)) rfl rfl rfl ?_ ?_
      · refine ⟨by omega, by simp [hxl], fun j hj => ?_, hs⟩
        rw [← hxs j (by omega)]
        simp [List.getD, List.getElem?_set, show ¬ i = j by omega]
      · omega
    · refine W_seq ?_
      refine W_seq ?_
      refine W_region ?_
      refine L_move rfl rfl ?_
      refine L_move rfl rfl ?_
      refine L_len rfl Try.underlying22 rfl ?_
      first | refine L_lss rfl rfl rfl (dtrue (by omega)) ?_ | refine L_lss rfl rfl rfl (dfalse (by omega)) ?_ | refine L_lss rfl rfl rfl rfl ?_
      refine RL_then ?_
      refine W_if_false rfl ?_
      refine W_exit' ?_
      refine Ex_then_exit ?_
      refine Ex_loop_exit ?_
      refine Ex_block_hit ?_
      refine Nx_then ?_
      refine W_seq ?_
      refine W_seq ?_
      refine W_region ?_
      refine L_assign rfl rfl ?_
      refine RL_then ?_
      refine W_block ?_
      refine W_loop2 (fun (i : Nat) (w : World) => [(4, .slice (some ⟨bb, 0, none⟩) (m + 1) (m + 1)), (5, .slice (some ⟨g, 0, none⟩) (m + 1) cap), (7, .int .i64 i)]) (fun (i : Nat) (w : World) => w) (fun (i : Nat) (w : World) => (i ≤ m + 1) ∧ (HS w0 w [(ba, Row 2 (il xs)), (bb, Row 2 (il A)), (g, Row 2 (il A ++ sp))])) (fun (i : Nat) (w : World) => m + 1 - i) (0) (w) (is := [4, 5, 7]) rfl rfl ?_ ?_
      · exact ⟨Nat.zero_le _, hs⟩
      · intro i w hI
        show W _ _ _ _ [(4, .slice (some ⟨bb, 0, none⟩) (m + 1) (m + 1)), (5, .slice (some ⟨g, 0, none⟩) (m + 1) cap), (7, .int .i64 i)] w
        obtain ⟨hi, hs⟩ := hI
        by_cases hlt : i < m + 1
        · refine W_seq ?_
          refine W_seq ?_
          refine W_region ?_
          refine L_move rfl rfl ?_
          refine L_move rfl rfl ?_
          refine L_len rfl Try.underlying22 rfl ?_
          first | refine L_lss rfl rfl rfl (dtrue (by omega)) ?_ | refine L_lss rfl rfl rfl (dfalse (by omega)) ?_ | refine L_lss rfl rfl rfl rfl ?_
          refine RL_then ?_
          refine W_if_true rfl ?_
          refine W_skip' ?_
          refine Nx_then ?_
          refine W_seq ?_
          refine W_block ?_
          refine W_seq ?_
          refine W_pht [0, 1, 2, 4, 5, 6] [3, 7, 8] [] (fun _ _ _ => False) Try.mixed (by kernel_rfl) (fun _ _ _ _ _ h => h) hs ?_
          refine PL_val rfl (fun w => R_move rfl) ?_
          refine PL_val rfl (fun w => R_move rfl) ?_
          refine PL_val rfl (fun w => R_idx1 Try.underlying22 Try.ti2 rfl rfl (by with_reducible first | exact natc_k _ | exact natc_a1 _ | exact natc_0 | exact natc_1 | exact natc_2 | exact natc_s1 _ (by omega) | exact natc_a2 _ | exact natc_add _ _ | exact natc_mul _ _ | exact natc (by omega)) (by omega) rfl) ?_
          refine PL_val rfl (fun w => R_move rfl) ?_
          refine PL_val rfl (fun w => R_move rfl) ?_
          refine PL_val rfl (fun w => R_idx1 Try.underlying22 Try.ti2 rfl rfl (by with_reducible first | exact natc_k _ | exact natc_a1 _ | exact natc_0 | exact natc_1 | exact natc_2 | exact natc_s1 _ (by omega) | exact natc_a2 _ | exact natc_add _ _ | exact natc_mul _ _ | exact natc (by omega)) (by omega) rfl) ?_
          refine PL_end ?_
          refine HL_val rfl (fun w hs => R_load Try.one2 rfl (by first | exact hs.cellA (i := 0) rfl (il_get (by omega)) | exact hs.cellA (i := 1) rfl (il_get (by omega)) | exact hs.cellA (i := 2) rfl (il_get' (by omega)))) ?_
          refine HL_val rfl (fun w hs => R_load Try.one2 rfl (by first | exact hs.cellA (i := 0) rfl (il_get (by omega)) | exact hs.cellA (i := 1) rfl (il_get (by omega)) | exact hs.cellA (i := 2) rfl (il_get' (by omega)))) ?_
          first | refine HL_val rfl (fun w hs => R_neq rfl rfl (dtrue (by omega))) ?_ | refine HL_val rfl (fun w hs => R_neq rfl rfl (dfalse (by omega))) ?_ | refine HL_val rfl (fun w hs => R_neq rfl rfl rfl) ?_
          refine HL_tail ?_
          intro w hs
          refine RL_then ?_
          refine W_if_false rfl ?_
          refine W_skip' ?_
          refine Nx_block ?_
          refine Nx_then ?_
          refine W_region ?_
          refine L_move rfl rfl ?_
          first | refine L_add rfl rfl rfl (wrp_i64 (by omega)) ?_ | refine L_add rfl rfl rfl rfl ?_
          refine L_assign rfl rfl ?_
          refine RL_nil' ?_
          refine Nx_loopP (i + 1, w) (is := [4, 5, 7]) (I' := (fun (i : Nat) (w : World) => (i ≤ m + 1) ∧ (HS w0 w [(ba, Row 2 (il xs)), (bb, Row 2 (il A)), (g, Row 2 (il A ++ sp))])) (i + 1) (w)) rfl rfl rfl ?_ ?_
          · exact ⟨by omega, hs⟩
          · omega
        · refine W_seq ?_
          refine W_seq ?_
          refine W_region ?_
          refine L_move rfl rfl ?_
          refine L_move rfl rfl ?_
          refine L_len rfl Try.underlying22 rfl ?_
          first | refine L_lss rfl rfl rfl (dtrue (by omega)) ?_ | refine L_lss rfl rfl rfl (dfalse (by omega)) ?_ | refine L_lss rfl rfl rfl rfl ?_
          refine RL_then ?_
          refine W_if_false rfl ?_
          refine W_exit' ?_
          refine Ex_then_exit ?_
          refine Ex_loop_exit ?_
          refine Ex_block_hit ?_
          refine Nx_then ?_
          refine W_seq ?_
          refine W_region ?_
          refine L_call rfl Try.fun10 rfl (hwk w) ?_
          rintro _ w' ⟨rfl, hs'⟩
          have hs := (hs.forget (Own.cons hba (Own.cons hbb (Own.cons hg Own.nil)))).nil hs'
          refine L_assign rfl rfl ?_
          refine RL_then ?_
          refine W_ret' ?_
          refine Ex_done1 rfl rfl ?_
          exact ⟨_, rfl, rfl, hs⟩
end Go.Proofs.Ytfehgelggjpaaaa
