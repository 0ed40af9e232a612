/-
  A part of the proof: what functions that the statement reaches do, or a plain law on what they do. Each theorem holds under its own premises alone.
-/
import Derived.Test.YtdllakfojligjaaTCG5
namespace Go.Proofs.Ytdllakfojligjaa
open Go Go.Lk Go.Pr
theorem first_ok (B c u v o h n : Nat) (C U V of has : List Int) (rows : Nat) (w0 : World) (hC : CostOk n C) (h1 : 1 ≤ n) (h2 : n ≤ 512) (hr : rows ≤ n) (hUl : U.length = n) (hVl : V.length = n) (hof : InR n of) (hhas : InR n has)
  (hbU : ∀ r, r < n → 0 ≤ gi U r ∧ gi U r ≤ BB) (hbV : ∀ j, j < n → -BB ≤ gi V j ∧ gi V j ≤ 0) (hPf : Pf n (cf n C) (gi U) (gi V) (toN of) (toN has))
  (hG : HS w0 w0 (GameL B c u v o h n C U V of has)) :
  Ret Try.prog 60 [.pointer (some ⟨B, 0, none⟩), .int .i64 rows] w0 fun _ w' => ∃ of' has', HS w0 w' (GameL B c u v o h n C U V of' has') ∧ InR n of' ∧ InR n has' ∧ Pf n (cf n C) (gi U) (gi V) (toN of') (toN has') ∧ LM n (cf n C) (gi U) (gi V) rows (toN has') := by
 have hs := hG
 have hCl := hC.len
 refine calls_of_W Try.func60 rfl rfl rfl ?_
 refine W_seq ?_
 refine W_region ?_
 refine L_move rfl rfl ?_
 refine L_move rfl rfl ?_
 refine RL_then ?_
 refine W_block ?_
 refine W_loop4 (fun (i : Nat) (of : List Int) (has : List Int) (w : World) => [(0, .pointer (some ⟨B, 0, none⟩)), (7, .int .i64 rows), (8, .int .i64 i)]) (fun (i : Nat) (of : List Int) (has : List Int) (w : World) => w) (fun (i : Nat) (of : List Int) (has : List Int) (w : World) => (i ≤ rows) ∧ (InR n of) ∧ (InR n has) ∧ (Pf n (cf n C) (gi U) (gi V) (toN of) (toN has)) ∧ (LM n (cf n C) (gi U) (gi V) i (toN has)) ∧ (HS w0 w (GameL B c u v o h n C U V of has))) (fun (i : Nat) (of : List Int) (has : List Int) (w : World) => rows - i) (0) (of) (has) (_) (is := [0, 7, 8]) rfl rfl ?_ ?_
 ·
  exact ⟨Nat.zero_le _, hof, hhas, hPf, LM.zero, hs⟩
 ·
  clear hs hG hof hhas hPf
  intro i of has w hI
  show W _ _ _ _ [(0, .pointer (some ⟨B, 0, none⟩)), (7, .int .i64 rows), (8, .int .i64 i)] w
  obtain ⟨hi, hof, hhas, hPf, hLM, hs⟩ := hI
  by_cases hlt : i < rows
  ·
   have hin : i < n := by omega
   have hhl := hhas.len
   have hBox : w.heap[B]? = some (Row 116 (GameR n c u v o h)) := hs.has (B, _) (by simp)
   obtain ⟨hgoe, hgon⟩ := hhas.nat hin
   refine W_seq ?_
   refine W_region ?_
   first | refine L_lss rfl rfl rfl (dtrue (by omega)) ?_ | refine L_lss rfl rfl rfl (dfalse (by omega)) ?_ | refine L_lss rfl rfl rfl rfl ?_
   refine RL_then ?_
   refine W_seq ?_
   refine W_if_true rfl ?_
   refine W_skip' ?_
   refine Nx_then ?_
   refine W_seq ?_
   refine W_cut3 (fun (of : List Int) (has : List Int) (w : World) => [(0, .pointer (some ⟨B, 0, none⟩)), (7, .int .i64 rows), (8, .int .i64 i)]) (fun (of : List Int) (has : List Int) (w : World) => w) (fun (of : List Int) (has : List Int) (w : World) => (InR n of) ∧ (InR n has) ∧ (Pf n (cf n C) (gi U) (gi V) (toN of) (toN has)) ∧ (LM n (cf n C) (gi U) (gi V) (i + 1) (toN has)) ∧ (HS w0 w (GameL B c u v o h n C U V of has))) ?_ ?_
   ·
    refine W_block ?_
    refine W_seq ?_
    refine W_region ?_
    refine L_move rfl rfl ?_
    refine L_assign rfl rfl ?_
    refine RL_then ?_
    refine W_seq ?_
    refine W_region ?_
    refine L_move rfl rfl ?_
    refine L_move rfl rfl ?_
    refine L_call rfl Try.fun58 rfl (row_ok B c u v o h n i w hBox h1 h2 hin) ?_
    rintro _ w' ⟨rfl, hs'⟩
    replace hs := hs.nil hs'
    clear hs' hBox
    refine L_assign rfl rfl ?_
    refine RL_then ?_
    refine W_seq ?_
    refine W_region ?_
    refine L_move rfl rfl ?_
    refine L_nilCheck rfl rfl ?_
    refine L_fieldAddr rfl (off := 5) Try.underlying116 rfl rfl Try.ti31 rfl ?_
    refine L_load rfl Try.one31 rfl (by first | exact hs.cellA (i := 5) rfl rfl | exact hs.cellA (i := 4) rfl (il_get (by omega))) ?_
    refine L_move rfl rfl ?_
    refine L_idx1 rfl Try.underlying31 Try.ti3 rfl rfl (by with_reducible first | exact natc_k _ | exact natc_a1 _ | exact natc_0 | exact natc_1 | exact natc_2 | exact natc_s1 _ (by omega) | exact natc_a2 _ | exact natc_add _ _ | exact natc_mul _ _ | exact natc (by omega)) (by omega) rfl ?_
    refine L_load rfl Try.one3 rfl (by first | exact hs.cellA (i := 5) rfl rfl | exact hs.cellA (i := 4) rfl (il_get (by omega))) ?_
    refine L_move rfl rfl ?_
    refine RL_then ?_
    refine W_block ?_
    rw [hgoe]
    refine W_loop2 (fun (j : Nat) (w : World) => [(0, .pointer (some ⟨B, 0, none⟩)), (4, .int .i64 i), (5, .slice (some ⟨c, i * n, none⟩) n n), (7, .int .i64 rows), (8, .int .i64 i), (20, .int .i64 (toN has i)), (21, .int .i64 j)]) (fun (j : Nat) (w : World) => w) (fun (j : Nat) (w : World) => (j ≤ toN has i) ∧ (Nb n (cf n C) (gi U) (gi V) i j (toN has)) ∧ (HS w0 w (GameL B c u v o h n C U V of has))) (fun (j : Nat) (w : World) => toN has i - j) (0) (w') (is := [0, 4, 5, 7, 8, 20, 21]) rfl rfl ?_ ?_
    ·
     exact ⟨Nat.zero_le _, Nb.zero, hs⟩
    ·
     clear hs
     intro j w hI
     show W _ _ _ _ [(0, .pointer (some ⟨B, 0, none⟩)), (4, .int .i64 i), (5, .slice (some ⟨c, i * n, none⟩) n n), (7, .int .i64 rows), (8, .int .i64 i), (20, .int .i64 (toN has i)), (21, .int .i64 j)] w
     obtain ⟨hj, hNb, hs⟩ := hI
     by_cases hlt2 : j < toN has i
     ·
      have hjn : j < n := by omega
      have hjc := idx_lt hin hjn
      have hcr : 0 ≤ C.getD (i * n + j) 0 ∧ C.getD (i * n + j) 0 ≤ 4503599627370496 := hC.rng i j hin hjn
      have hUr : 0 ≤ U.getD i 0 ∧ U.getD i 0 ≤ 4503599627370496 := hbU i hin
      have hVj : -4503599627370496 ≤ V.getD j 0 ∧ V.getD j 0 ≤ 0 := hbV j hjn
      by_cases htt : C.getD (i * n + j) 0 = U.getD i 0 + V.getD j 0
      ·
       refine W_seq ?_
       refine W_region ?_
       first | refine L_lss rfl rfl rfl (dtrue (by omega)) ?_ | refine L_lss rfl rfl rfl (dfalse (by omega)) ?_ | refine L_lss rfl rfl rfl rfl ?_
       refine RL_then ?_
       refine W_seq ?_
       refine W_if_true rfl ?_
       refine W_skip' ?_
       refine Nx_then ?_
       refine W_seq ?_
       refine W_block ?_
       refine W_seq ?_
       refine W_region ?_
       refine L_move rfl rfl ?_
       refine L_assign rfl rfl ?_
       refine RL_then ?_
       refine W_seq ?_
       refine W_pht [0, 1, 2, 4, 5, 6, 8, 11, 12, 13, 15] [3, 7, 9, 10, 14, 16, 17, 18, 19, 20, 21, 22, 23] [24, 25] (fun _ _ _ => False) Try.mixed (by kernel_rfl) (fun _ _ _ _ _ h => h) hs ?_
       refine PL_val rfl (fun w => R_move rfl) ?_
       refine PL_val rfl (fun w => R_move rfl) ?_
       refine PL_val rfl (fun w => R_idx1 Try.underlying69 Try.ti2 rfl rfl (by with_reducible first | exact natc_k _ | exact natc_a1 _ | exact natc_0 | exact natc_1 | exact natc_2 | exact natc_s1 _ (by omega) | exact natc_a2 _ | exact natc_add _ _ | exact natc_mul _ _ | exact natc (by omega)) (by omega) rfl) ?_
       refine PL_val rfl (fun w => R_move rfl) ?_
       refine PL_val rfl (fun w => R_nilCheck rfl) ?_
       refine PL_val rfl (fun w => R_fieldAddr (off := 2) Try.underlying116 rfl rfl Try.ti69 rfl) ?_
       refine PL_val rfl (fun w => R_move rfl) ?_
       refine PL_val rfl (fun w => R_move rfl) ?_
       refine PL_val rfl (fun w => R_nilCheck rfl) ?_
       refine PL_val rfl (fun w => R_fieldAddr (off := 3) Try.underlying116 rfl rfl Try.ti69 rfl) ?_
       refine PL_val rfl (fun w => R_move rfl) ?_
       refine PL_end ?_
       refine HL_val rfl (fun w hs => R_load Try.one2 rfl (by first | exact hs.cellA (i := 5) rfl rfl | exact hs.cellA (i := 1) rfl (il_get (by omega)) | exact hs.cellA (i := 2) rfl (il_get (by omega)) | (rw [Addr.add_lit]; exact hs.cell (i := 0) rfl (il_get (by omega))))) ?_
       refine HL_val rfl (fun w hs => R_load Try.one69 rfl (by first | exact hs.cellA (i := 5) rfl rfl | exact hs.cellA (i := 1) rfl (il_get (by omega)) | exact hs.cellA (i := 2) rfl (il_get (by omega)) | (rw [Addr.add_lit]; exact hs.cell (i := 0) rfl (il_get (by omega))))) ?_
       refine HL_val rfl (fun w hs => R_idx1 Try.underlying69 Try.ti2 rfl rfl (by with_reducible first | exact natc_k _ | exact natc_a1 _ | exact natc_0 | exact natc_1 | exact natc_2 | exact natc_s1 _ (by omega) | exact natc_a2 _ | exact natc_add _ _ | exact natc_mul _ _ | exact natc (by omega)) (by omega) rfl) ?_
       refine HL_val rfl (fun w hs => R_load Try.one2 rfl (by first | exact hs.cellA (i := 5) rfl rfl | exact hs.cellA (i := 1) rfl (il_get (by omega)) | exact hs.cellA (i := 2) rfl (il_get (by omega)) | (rw [Addr.add_lit]; exact hs.cell (i := 0) rfl (il_get (by omega))))) ?_
       refine HL_val rfl (fun w hs => R_load Try.one69 rfl (by first | exact hs.cellA (i := 5) rfl rfl | exact hs.cellA (i := 1) rfl (il_get (by omega)) | exact hs.cellA (i := 2) rfl (il_get (by omega)) | (rw [Addr.add_lit]; exact hs.cell (i := 0) rfl (il_get (by omega))))) ?_
       refine HL_val rfl (fun w hs => R_idx1 Try.underlying69 Try.ti2 rfl rfl (by with_reducible first | exact natc_k _ | exact natc_a1 _ | exact natc_0 | exact natc_1 | exact natc_2 | exact natc_s1 _ (by omega) | exact natc_a2 _ | exact natc_add _ _ | exact natc_mul _ _ | exact natc (by omega)) (by omega) rfl) ?_
       refine HL_val rfl (fun w hs => R_load Try.one2 rfl (by first | exact hs.cellA (i := 5) rfl rfl | exact hs.cellA (i := 1) rfl (il_get (by omega)) | exact hs.cellA (i := 2) rfl (il_get (by omega)) | (rw [Addr.add_lit]; exact hs.cell (i := 0) rfl (il_get (by omega))))) ?_
       first | refine HL_val rfl (fun w hs => R_add rfl rfl (wrp_i64 (by omega))) ?_ | refine HL_val rfl (fun w hs => R_add rfl rfl rfl) ?_
       first | refine HL_val rfl (fun w hs => R_eql rfl rfl (dtrue (by omega))) ?_ | refine HL_val rfl (fun w hs => R_eql rfl rfl (dfalse (by omega))) ?_ | refine HL_val rfl (fun w hs => R_eql rfl rfl rfl) ?_
       refine HL_val rfl (fun w hs => R_move rfl) ?_
       first | (refine HL_want rfl rfl ?_; refine HL_val rfl (fun w hs => R_move rfl) ?_) | refine HL_skip rfl rfl rfl rfl ?_ | refine HL_skipU rfl rfl rfl ?_
       first | (refine HL_want rfl rfl ?_; refine HL_val rfl (fun w hs => R_move rfl) ?_) | refine HL_skip rfl rfl rfl rfl ?_ | refine HL_skipU rfl rfl rfl ?_
       first | (refine HL_want rfl rfl ?_; refine HL_val rfl (fun w hs => R_move rfl) ?_) | refine HL_skip rfl rfl rfl rfl ?_ | refine HL_skipU rfl rfl rfl ?_
       refine HL_tail ?_
       intro w hs
       refine RL_want rfl rfl ?_
       refine L_call rfl Try.fun78 rfl (turned_ok B c u v o h n C U V of has i j _ hC h1 h2 hUl hVl hof hhas hbU hbV hPf hin hjn hlt2 htt (HS.named (fun p hp => hs.has p hp) hs.nodup)) ?_
       rintro _ w2 (⟨rfl, hs2, hno⟩ | ⟨rfl, of', has', hs2, o1, o2, o3, o4, o5⟩)
       ·
        replace hs := hs.callU (A := GameL B c u v o h n C U V of has) (U := GameL B c u v o h n C U V of has) (L2 := []) (N := []) rfl (by simpa using hs2) Own.nil
        rw [List.append_nil, List.append_nil] at hs
        first | refine L_pick_t rfl rfl rfl ?_ | refine L_pick_f rfl rfl rfl ?_
        refine RL_then ?_
        refine W_if_false rfl ?_
        refine W_skip' ?_
        refine Nx_block ?_
        refine Nx_then ?_
        refine W_region ?_
        first | refine L_add rfl rfl rfl (wrp_i64 (by omega)) ?_ | refine L_add rfl rfl rfl rfl ?_
        refine L_move rfl rfl ?_
        refine RL_nil' ?_
        refine Nx_loopP (j + 1, _) (is := [0, 4, 5, 7, 8, 20, 21]) (I' := (fun (j : Nat) (w : World) => (j ≤ toN has i) ∧ (Nb n (cf n C) (gi U) (gi V) i j (toN has)) ∧ (HS w0 w (GameL B c u v o h n C U V of has))) (j + 1) (_)) rfl rfl rfl ?_ ?_
        ·
         exact ⟨by omega, hNb.next hno, hs⟩
        ·
         omega
       ·
        replace hs := hs.callU (A := GameL B c u v o h n C U V of has) (U := GameL B c u v o h n C U V of' has') (L2 := []) (N := []) rfl (by simpa using hs2) Own.nil
        rw [List.append_nil, List.append_nil] at hs
        first | refine L_pick_t rfl rfl rfl ?_ | refine L_pick_f rfl rfl rfl ?_
        refine RL_then ?_
        refine W_if_true rfl ?_
        refine W_exit' ?_
        refine Ex_block_miss rfl ?_
        refine Ex_then_exit ?_
        refine Ex_loop_exit ?_
        refine Ex_block_hit ?_
        refine Nx_block ?_
        refine Nx_cutP (of', has', _) (is := [0, 7, 8]) (I' := (fun (of : List Int) (has : List Int) (w : World) => (InR n of) ∧ (InR n has) ∧ (Pf n (cf n C) (gi U) (gi V) (toN of) (toN has)) ∧ (LM n (cf n C) (gi U) (gi V) (i + 1) (toN has)) ∧ (HS w0 w (GameL B c u v o h n C U V of has))) (of') (has') (_)) rfl rfl rfl ?_
        exact ⟨o1, o2, o3, (hLM.congr o4).next (by rw [o5]; exact hNb.congr o4), hs⟩
      ·
       refine W_seq ?_
       refine W_region ?_
       first | refine L_lss rfl rfl rfl (dtrue (by omega)) ?_ | refine L_lss rfl rfl rfl (dfalse (by omega)) ?_ | refine L_lss rfl rfl rfl rfl ?_
       refine RL_then ?_
       refine W_seq ?_
       refine W_if_true rfl ?_
       refine W_skip' ?_
       refine Nx_then ?_
       refine W_seq ?_
       refine W_block ?_
       refine W_seq ?_
       refine W_region ?_
       refine L_move rfl rfl ?_
       refine L_assign rfl rfl ?_
       refine RL_then ?_
       refine W_seq ?_
       refine W_pht [0, 1, 2, 4, 5, 6, 8, 11, 12, 13, 15] [3, 7, 9, 10, 14, 16, 17, 18, 19, 20, 21, 22, 23] [24, 25] (fun _ _ _ => False) Try.mixed (by kernel_rfl) (fun _ _ _ _ _ h => h) hs ?_
       refine PL_val rfl (fun w => R_move rfl) ?_
       refine PL_val rfl (fun w => R_move rfl) ?_
       refine PL_val rfl (fun w => R_idx1 Try.underlying69 Try.ti2 rfl rfl (by with_reducible first | exact natc_k _ | exact natc_a1 _ | exact natc_0 | exact natc_1 | exact natc_2 | exact natc_s1 _ (by omega) | exact natc_a2 _ | exact natc_add _ _ | exact natc_mul _ _ | exact natc (by omega)) (by omega) rfl) ?_
       refine PL_val rfl (fun w => R_move rfl) ?_
       refine PL_val rfl (fun w => R_nilCheck rfl) ?_
       refine PL_val rfl (fun w => R_fieldAddr (off := 2) Try.underlying116 rfl rfl Try.ti69 rfl) ?_
       refine PL_val rfl (fun w => R_move rfl) ?_
       refine PL_val rfl (fun w => R_move rfl) ?_
       refine PL_val rfl (fun w => R_nilCheck rfl) ?_
       refine PL_val rfl (fun w => R_fieldAddr (off := 3) Try.underlying116 rfl rfl Try.ti69 rfl) ?_
       refine PL_val rfl (fun w => R_move rfl) ?_
       refine PL_end ?_
       refine HL_val rfl (fun w hs => R_load Try.one2 rfl (by first | exact hs.cellA (i := 5) rfl rfl | exact hs.cellA (i := 1) rfl (il_get (by omega)) | exact hs.cellA (i := 2) rfl (il_get (by omega)) | (rw [Addr.add_lit]; exact hs.cell (i := 0) rfl (il_get (by omega))))) ?_
       refine HL_val rfl (fun w hs => R_load Try.one69 rfl (by first | exact hs.cellA (i := 5) rfl rfl | exact hs.cellA (i := 1) rfl (il_get (by omega)) | exact hs.cellA (i := 2) rfl (il_get (by omega)) | (rw [Addr.add_lit]; exact hs.cell (i := 0) rfl (il_get (by omega))))) ?_
       refine HL_val rfl (fun w hs => R_idx1 Try.underlying69 Try.ti2 rfl rfl (by with_reducible first | exact natc_k _ | exact natc_a1 _ | exact natc_0 | exact natc_1 | exact natc_2 | exact natc_s1 _ (by omega) | exact natc_a2 _ | exact natc_add _ _ | exact natc_mul _ _ | exact natc (by omega)) (by omega) rfl) ?_
       refine HL_val rfl (fun w hs => R_load Try.one2 rfl (by first | exact hs.cellA (i := 5) rfl rfl | exact hs.cellA (i := 1) rfl (il_get (by omega)) | exact hs.cellA (i := 2) rfl (il_get (by omega)) | (rw [Addr.add_lit]; exact hs.cell (i := 0) rfl (il_get (by omega))))) ?_
       refine HL_val rfl (fun w hs => R_load Try.one69 rfl (by first | exact hs.cellA (i := 5) rfl rfl | exact hs.cellA (i := 1) rfl (il_get (by omega)) | exact hs.cellA (i := 2) rfl (il_get (by omega)) | (rw [Addr.add_lit]; exact hs.cell (i := 0) rfl (il_get (by omega))))) ?_
       refine HL_val rfl (fun w hs => R_idx1 Try.underlying69 Try.ti2 rfl rfl (by with_reducible first | exact natc_k _ | exact natc_a1 _ | exact natc_0 | exact natc_1 | exact natc_2 | exact natc_s1 _ (by omega) | exact natc_a2 _ | exact natc_add _ _ | exact natc_mul _ _ | exact natc (by omega)) (by omega) rfl) ?_
       refine HL_val rfl (fun w hs => R_load Try.one2 rfl (by first | exact hs.cellA (i := 5) rfl rfl | exact hs.cellA (i := 1) rfl (il_get (by omega)) | exact hs.cellA (i := 2) rfl (il_get (by omega)) | (rw [Addr.add_lit]; exact hs.cell (i := 0) rfl (il_get (by omega))))) ?_
       first | refine HL_val rfl (fun w hs => R_add rfl rfl (wrp_i64 (by omega))) ?_ | refine HL_val rfl (fun w hs => R_add rfl rfl rfl) ?_
       first | refine HL_val rfl (fun w hs => R_eql rfl rfl (dtrue (by omega))) ?_ | refine HL_val rfl (fun w hs => R_eql rfl rfl (dfalse (by omega))) ?_ | refine HL_val rfl (fun w hs => R_eql rfl rfl rfl) ?_
       refine HL_val rfl (fun w hs => R_move rfl) ?_
       first | (refine HL_want rfl rfl ?_; refine HL_val rfl (fun w hs => R_move rfl) ?_) | refine HL_skip rfl rfl rfl rfl ?_ | refine HL_skipU rfl rfl rfl ?_
       first | (refine HL_want rfl rfl ?_; refine HL_val rfl (fun w hs => R_move rfl) ?_) | refine HL_skip rfl rfl rfl rfl ?_ | refine HL_skipU rfl rfl rfl ?_
       first | (refine HL_want rfl rfl ?_; refine HL_val rfl (fun w hs => R_move rfl) ?_) | refine HL_skip rfl rfl rfl rfl ?_ | refine HL_skipU rfl rfl rfl ?_
       refine HL_tail ?_
       intro w hs
       first | refine RL_skip rfl rfl rfl rfl ?_ | refine RL_skipU rfl rfl rfl ?_
       first | refine L_pick_t rfl rfl rfl ?_ | refine L_pick_f rfl rfl rfl ?_
       refine RL_then ?_
       refine W_if_false rfl ?_
       refine W_skip' ?_
       refine Nx_block ?_
       refine Nx_then ?_
       refine W_region ?_
       first | refine L_add rfl rfl rfl (wrp_i64 (by omega)) ?_ | refine L_add rfl rfl rfl rfl ?_
       refine L_move rfl rfl ?_
       refine RL_nil' ?_
       refine Nx_loopP (j + 1, _) (is := [0, 4, 5, 7, 8, 20, 21]) (I' := (fun (j : Nat) (w : World) => (j ≤ toN has i) ∧ (Nb n (cf n C) (gi U) (gi V) i j (toN has)) ∧ (HS w0 w (GameL B c u v o h n C U V of has))) (j + 1) (_)) rfl rfl rfl ?_ ?_
       ·
        exact ⟨by omega, hNb.next (fun M hM _ he => htt (by have := hM.2 i hin; rw [he] at this; exact this)), hs⟩
       ·
        omega
     ·
      obtain hje : j = toN has i := by omega
      rw [hje] at hNb
      refine W_seq ?_
      refine W_region ?_
      first | refine L_lss rfl rfl rfl (dtrue (by omega)) ?_ | refine L_lss rfl rfl rfl (dfalse (by omega)) ?_ | refine L_lss rfl rfl rfl rfl ?_
      refine RL_then ?_
      refine W_seq ?_
      refine W_if_false rfl ?_
      refine W_exit' ?_
      refine Ex_then_exit ?_
      refine Ex_loop_exit ?_
      refine Ex_block_hit ?_
      refine Nx_block ?_
      refine Nx_cutP (of, has, w) (is := [0, 7, 8]) (I' := (fun (of : List Int) (has : List Int) (w : World) => (InR n of) ∧ (InR n has) ∧ (Pf n (cf n C) (gi U) (gi V) (toN of) (toN has)) ∧ (LM n (cf n C) (gi U) (gi V) (i + 1) (toN has)) ∧ (HS w0 w (GameL B c u v o h n C U V of has))) (of) (has) (w)) rfl rfl rfl ?_
      exact ⟨hof, hhas, hPf, hLM.next hNb, hs⟩
   ·
    clear hs hof hhas hPf hLM
    intro of has w hI
    show W _ _ _ _ [(0, .pointer (some ⟨B, 0, none⟩)), (7, .int .i64 rows), (8, .int .i64 i)] w
    obtain ⟨hof, hhas, hPf, hLM, hs⟩ := hI
    refine W_region ?_
    first | refine L_add rfl rfl rfl (wrp_i64 (by omega)) ?_ | refine L_add rfl rfl rfl rfl ?_
    refine L_move rfl rfl ?_
    refine RL_nil' ?_
    refine Nx_loopP (i + 1, of, has, w) (is := [0, 7, 8]) (I' := (fun (i : Nat) (of : List Int) (has : List Int) (w : World) => (i ≤ rows) ∧ (InR n of) ∧ (InR n has) ∧ (Pf n (cf n C) (gi U) (gi V) (toN of) (toN has)) ∧ (LM n (cf n C) (gi U) (gi V) i (toN has)) ∧ (HS w0 w (GameL B c u v o h n C U V of has))) (i + 1) (of) (has) (w)) rfl rfl rfl ?_ ?_
    ·
     exact ⟨by omega, hof, hhas, hPf, hLM, hs⟩
    ·
     omega
  ·
   obtain rfl : rows = i := by omega
   refine W_seq ?_
   refine W_region ?_
   first | refine L_lss rfl rfl rfl (dtrue (by omega)) ?_ | refine L_lss rfl rfl rfl (dfalse (by omega)) ?_ | refine L_lss rfl rfl rfl rfl ?_
   refine RL_then ?_
   refine W_seq ?_
   refine W_if_false rfl ?_
   refine W_exit' ?_
   refine Ex_then_exit ?_
   refine Ex_loop_exit ?_
   refine Ex_block_hit ?_
   refine Nx_done0 rfl ?_
   exact ⟨_, rfl, of, has, hs, hof, hhas, hPf, hLM⟩
end Go.Proofs.Ytdllakfojligjaa
