/-
  A part of the proof: what functions that the statement reaches do, or a plain law on what they do. Each theorem holds under its own premises alone.
-/
import Derived.Test.YtcfdmenmlemahaaTRG
namespace Go.Proofs.Ytcfdmenmlemahaa
open Go Go.Lk Go.Pr
set_option maxHeartbeats 8000000 in
theorem rfirst_ok (y : Ly) (n rows : Nat) (C : Nat → Nat → Int) (U V M R : List Int) (w0 : World) (hn2 : n ≤ 512) (hr : rows ≤ n) (hrd : RdS w0 y n C) (hG : HS w0 w0 (y.L U V M R)) (hUl : U.length = n) (hVl : V.length = n) (hM : InR n M) (hR : InR n R)
    (hbU : ∀ r, r < n → 0 ≤ gi U r ∧ gi U r ≤ BB) (hbV : ∀ j, j < n → -BB ≤ gi V j ∧ gi V j ≤ 0) (hPf : Pf n C (gi U) (gi V) (toN R) (toN M)) :
    Ret Try.prog 29 [.pointer (some ⟨y.B, 0, none⟩), .int .i64 rows] w0 fun _ w' => ∃ M' R', HS w0 w' (y.L U V M' R') ∧ InR n M' ∧ InR n R' ∧ Pf n C (gi U) (gi V) (toN R') (toN M') ∧ LM n C (gi U) (gi V) rows (toN M') := by
  have hs : HS w0 w0 (y.L U V M R ++ []) := by rw [List.append_nil]; exact hG
  clear hG
  refine calls_of_W Try.func29 rfl rfl rfl ?_
  refine W_seq ?_
  refine W_region ?_
  refine L_assign rfl rfl ?_
  refine RL_then ?_
  refine W_block ?_
  refine W_loop4 (fun (i : Nat) (M : List Int) (R : List Int) (w : World) => [(0, .pointer (some ⟨y.B, 0, none⟩)), (1, .int .i64 rows), (4, .int .i64 i)]) (fun (i : Nat) (M : List Int) (R : List Int) (w : World) => w) (fun (i : Nat) (M : List Int) (R : List Int) (w : World) => (i ≤ rows) ∧ (InR n M) ∧ (InR n R) ∧ (Pf n C (gi U) (gi V) (toN R) (toN M)) ∧ (LM n C (gi U) (gi V) i (toN M)) ∧ (HS w0 w (y.L U V M R ++ []))) (fun (i : Nat) (M : List Int) (R : List Int) (w : World) => rows - i) (0) (M) (R) (_) (is := [0, 1, 4]) rfl rfl ?_ ?_
  · exact ⟨Nat.zero_le _, hM, hR, hPf, LM.zero, hs⟩
  · clear hs hM hR hPf
    intro i M R w hI
    show W _ _ _ _ [(0, .pointer (some ⟨y.B, 0, none⟩)), (1, .int .i64 rows), (4, .int .i64 i)] w
    obtain ⟨hi, hM, hR, hPf, hLM, hs⟩ := hI
    by_cases hlt : i < rows
    · have hin : i < n := by omega
      refine W_seq ?_
      refine W_seq ?_
      refine W_region ?_
      refine L_move rfl rfl ?_
      refine L_move rfl rfl ?_
      first | refine L_lss rfl rfl rfl (dtrue (by omega)) ?_ | refine L_lss rfl rfl rfl (dfalse (by omega)) ?_ | refine L_lss rfl rfl rfl rfl ?_
      refine RL_then ?_
      refine W_if_true rfl ?_
      refine W_skip' ?_
      refine Nx_then ?_
      refine W_seq ?_
      refine W_cut3 (fun (M : List Int) (R : List Int) (w : World) => [(0, .pointer (some ⟨y.B, 0, none⟩)), (1, .int .i64 rows), (4, .int .i64 i)]) (fun (M : List Int) (R : List Int) (w : World) => w) (fun (M : List Int) (R : List Int) (w : World) => (InR n M) ∧ (InR n R) ∧ (Pf n C (gi U) (gi V) (toN R) (toN M)) ∧ (LM n C (gi U) (gi V) (i + 1) (toN M)) ∧ (HS w0 w (y.L U V M R ++ []))) ?_ ?_
      · refine W_block ?_
        refine W_seq ?_
        refine W_region ?_
        refine L_assign rfl rfl ?_
        refine RL_then ?_
        refine W_block ?_
        refine W_loop4 (fun (j : Nat) (M : List Int) (R : List Int) (w : World) => [(0, .pointer (some ⟨y.B, 0, none⟩)), (1, .int .i64 rows), (4, .int .i64 i), (5, .int .i64 j)]) (fun (j : Nat) (M : List Int) (R : List Int) (w : World) => w) (fun (j : Nat) (M : List Int) (R : List Int) (w : World) => (InR n M) ∧ (InR n R) ∧ (Pf n C (gi U) (gi V) (toN R) (toN M)) ∧ (LM n C (gi U) (gi V) i (toN M)) ∧ ((j ≤ toN M i ∧ Nb n C (gi U) (gi V) i j (toN M)) ∨ (j = toN M i + 1 ∧ Nb n C (gi U) (gi V) i (toN M i) (toN M))) ∧ (HS w0 w (y.L U V M R ++ []))) (fun (j : Nat) (M : List Int) (R : List Int) (w : World) => n + 1 - j) (0) (M) (R) (w) (is := [0, 1, 4, 5]) rfl rfl ?_ ?_
        · exact ⟨hM, hR, hPf, hLM, .inl ⟨Nat.zero_le _, Nb.zero⟩, hs⟩
        · clear hs hM hR hPf hLM
          intro j M R w hI
          show W _ _ _ _ [(0, .pointer (some ⟨y.B, 0, none⟩)), (1, .int .i64 rows), (4, .int .i64 i), (5, .int .i64 j)] w
          obtain ⟨hM, hR, hPf, hLM, hNb, hs⟩ := hI
          have hMl := hM.len
          have hRl := hR.len
          obtain ⟨hMe, hMn⟩ := hM.nat hin
          by_cases hlt2 : j < toN M i
          · obtain ⟨hj0, hNb⟩ : j ≤ toN M i ∧ Nb n C (gi U) (gi V) i j (toN M) := hNb.resolve_right (by omega)
            have hjn : j < n := by omega
            obtain ⟨hRe, hRn⟩ := hR.nat hjn
            refine W_seq ?_
            refine W_seq ?_
            refine W_region ?_
            refine L_move rfl rfl ?_
            refine L_move rfl rfl ?_
            refine L_nilCheck rfl rfl ?_
            refine L_fieldAddr rfl (off := 4) Try.underlying56 rfl rfl Try.ti25 rfl ?_
            refine L_load rfl Try.one25 rfl (by first | exact RdS.at hs Own.nil (hrd.bx rfl) hrd.nb | exact hs.cellA (i := 2) rfl (il_get' (by omega)) | exact hs.cellA (i := 3) rfl (il_get' (by omega))) ?_
            refine L_move rfl rfl ?_
            refine L_idx1 rfl Try.underlying25 Try.ti3 rfl rfl (by with_reducible first | exact natc_k _ | exact natc_a1 _ | exact natc_0 | exact natc_1 | exact natc_2 | exact natc_s1 _ (by omega) | exact natc_a2 _ | exact natc_add _ _ | exact natc_mul _ _ | exact natc (by omega)) (by omega) rfl ?_
            refine L_load rfl Try.one3 rfl (by first | exact RdS.at hs Own.nil (hrd.bx rfl) hrd.nb | exact hs.cellA (i := 2) rfl (il_get' (by omega)) | exact hs.cellA (i := 3) rfl (il_get' (by omega))) ?_
            rw [hMe]
            first | refine L_lss rfl rfl rfl (dtrue (by omega)) ?_ | refine L_lss rfl rfl rfl (dfalse (by omega)) ?_ | refine L_lss rfl rfl rfl rfl ?_
            refine RL_then ?_
            refine W_if_true rfl ?_
            refine W_skip' ?_
            refine Nx_then ?_
            refine W_seq ?_
            refine W_block ?_
            refine W_seq ?_
            refine W_seq ?_
            refine W_region ?_
            refine L_move rfl rfl ?_
            refine L_move rfl rfl ?_
            refine L_move rfl rfl ?_
            refine L_call rfl Try.fun33 rfl (tight_ok y n i j C U V M R [] w0 w Own.nil hrd hs hin hjn hUl hVl hbU hbV) ?_
            rintro _ w1 ⟨rfl, hs⟩
            by_cases htt : C i j = gi U i + gi V j
            · rw [decide_eq_true htt]
              refine L_not rfl rfl ?_
              refine RL_then ?_
              refine W_if_false rfl ?_
              refine W_skip' ?_
              refine Nx_then ?_
              refine W_seq ?_
              refine W_region ?_
              refine L_move rfl rfl ?_
              refine L_nilCheck rfl rfl ?_
              refine L_fieldAddr rfl (off := 0) Try.underlying56 rfl rfl Try.ti3 rfl ?_
              refine L_load rfl Try.one3 rfl (by first | exact RdS.at hs Own.nil (hrd.bx rfl) hrd.nb | exact hs.cellA (i := 2) rfl (il_get' (by omega)) | exact hs.cellA (i := 3) rfl (il_get' (by omega))) ?_
              refine L_make1 (c := n) rfl hs Try.underlying31 Try.ti4 rfl rfl rfl rfl (Nat.le_refl _) (by omega) (by omega) rfl ?_
              intro gs w hgs _ hs
              rw [List.append_nil, bls_rep] at hs
              have hO : ∀ {S : List Bool}, Own w0 [(gs, Row 4 (bls S))] := Own.cons hgs Own.nil
              refine L_assign rfl rfl ?_
              refine RL_then ?_
              refine W_seq ?_
              refine W_pht [0, 1, 2, 3, 5, 8, 9, 10, 12, 15, 16] [4, 6, 7, 11, 13, 14] [17, 18] (fun _ _ _ => False) Try.mixed (chkAll_of (by kernel_rfl)) (fun _ _ _ _ _ h => h) hs ?_
              refine PL_val rfl (fun w => R_move rfl) ?_
              refine PL_val rfl (fun w => R_move rfl) ?_
              refine PL_val rfl (fun w => R_nilCheck rfl) ?_
              refine PL_val rfl (fun w => R_fieldAddr (off := 5) Try.underlying56 rfl rfl Try.ti25 rfl) ?_
              refine PL_val rfl (fun w => R_move rfl) ?_
              refine PL_val rfl (fun w => R_move rfl) ?_
              refine PL_val rfl (fun w => R_nilCheck rfl) ?_
              refine PL_val rfl (fun w => R_fieldAddr (off := 4) Try.underlying56 rfl rfl Try.ti25 rfl) ?_
              refine PL_val rfl (fun w => R_move rfl) ?_
              refine PL_val rfl (fun w => R_move rfl) ?_
              refine PL_val rfl (fun w => R_move rfl) ?_
              refine PL_end ?_
              refine HL_val rfl (fun w hs => R_load Try.one25 rfl (by first | exact RdS.at hs hO (hrd.bx rfl) hrd.nb | exact hs.cellA (i := 2) rfl (il_get' (by omega)) | exact hs.cellA (i := 3) rfl (il_get' (by omega)))) ?_
              refine HL_val rfl (fun w hs => R_idx1 Try.underlying25 Try.ti3 rfl rfl (by with_reducible first | exact natc_k _ | exact natc_a1 _ | exact natc_0 | exact natc_1 | exact natc_2 | exact natc_s1 _ (by omega) | exact natc_a2 _ | exact natc_add _ _ | exact natc_mul _ _ | exact natc (by omega)) (by omega) rfl) ?_
              refine HL_val rfl (fun w hs => R_load Try.one3 rfl (by first | exact RdS.at hs hO (hrd.bx rfl) hrd.nb | exact hs.cellA (i := 2) rfl (il_get' (by omega)) | exact hs.cellA (i := 3) rfl (il_get' (by omega)))) ?_
              refine HL_val rfl (fun w hs => R_load Try.one25 rfl (by first | exact RdS.at hs hO (hrd.bx rfl) hrd.nb | exact hs.cellA (i := 2) rfl (il_get' (by omega)) | exact hs.cellA (i := 3) rfl (il_get' (by omega)))) ?_
              refine HL_val rfl (fun w hs => R_idx1 Try.underlying25 Try.ti3 rfl rfl (by with_reducible first | exact natc_k _ | exact natc_a1 _ | exact natc_0 | exact natc_1 | exact natc_2 | exact natc_s1 _ (by omega) | exact natc_a2 _ | exact natc_add _ _ | exact natc_mul _ _ | exact natc (by omega)) (by omega) rfl) ?_
              refine HL_val rfl (fun w hs => R_load Try.one3 rfl (by first | exact RdS.at hs hO (hrd.bx rfl) hrd.nb | exact hs.cellA (i := 2) rfl (il_get' (by omega)) | exact hs.cellA (i := 3) rfl (il_get' (by omega)))) ?_
              refine HL_tail ?_
              intro w hs
              rw [hRe, hMe]
              refine L_call rfl Try.fun34 rfl (away_ok hgs hrd hn2 hin hUl hVl hM hR hbU hbV hPf (toN M i) rfl n (List.replicate n false) (toN R j) w (Nat.le_trans List.count_le_length (by simp)) (by simp) (fun q hq => by simp only [gbo, List.getD, List.getElem?_replicate] at hq; split at hq <;> simp at hq) hRn hs) ?_
              rintro _ w2 (⟨rfl, S', hs, hS', hS'r, hCl⟩ | ⟨rfl, S', M', R', hs, hM', hR', hn', hRot, hk'⟩)
              · have hno : ∀ K, TB n C (gi U) (gi V) K → (∀ q, q < i → K q = toN M q) → K i ≠ j := fun K hK hlow => by
                  refine hPf.no_turn hin hjn (fun k => gbo S' (toN R k) = true ∨ toN R k < i) ?_ ?_ ?_ hK hlow
                  · rcases hS'r with h5 | h5
                    · exact .inl h5
                    · right
                      rcases Nat.lt_or_ge (toN R j) i with h6 | h6
                      · exact h6
                      · have h7 : toN R j = i := by omega
                        have := (hPf.oh j hjn).2
                        rw [h7] at this; omega
                  · rw [(hPf.ho i hin).2]
                    rintro (h5 | h5)
                    · exact absurd (hS'.low i h5) (Nat.lt_irrefl i)
                    · omega
                  · intro k hk hRk hik m hm ht
                    have h5 : gbo S' (toN R k) = true := hRk.resolve_right (by omega)
                    by_cases hmk : m = toN M (toN R k)
                    · rw [hmk, (hPf.oh k hk).2]; exact .inl h5
                    · obtain ⟨h6, h7⟩ := hCl (toN R k) (hPf.oh k hk).1 h5 (by
                        show (List.replicate n false).getD _ false = false
                        simp only [List.getD, List.getElem?_replicate]; split <;> rfl) m hm ht hmk
                      rcases h7 with h7 | h7
                      · exact .inl h7
                      · right
                        rcases Nat.lt_or_ge (toN R m) i with h8 | h8
                        · exact h8
                        · have h9 : toN R m = i := by omega
                          exact absurd (by rw [← h9, (hPf.oh m hm).2]) h6
                refine L_assign rfl rfl ?_
                refine RL_then ?_
                refine W_seq ?_
                refine W_region ?_
                refine L_move rfl rfl ?_
                refine RL_then ?_
                refine W_if_false rfl ?_
                refine W_skip' ?_
                refine Nx_block ?_
                refine Nx_then ?_
                refine W_region ?_
                refine L_move rfl rfl ?_
                first | refine L_add rfl rfl rfl (wrp_i64 (by omega)) ?_ | refine L_add rfl rfl rfl rfl ?_
                refine L_assign rfl rfl ?_
                refine RL_nil' ?_
                refine Nx_loopP (j + 1, M, R, w2) (is := [0, 1, 4, 5]) (I' := (fun (j : Nat) (M : List Int) (R : List Int) (w : World) => (InR n M) ∧ (InR n R) ∧ (Pf n C (gi U) (gi V) (toN R) (toN M)) ∧ (LM n C (gi U) (gi V) i (toN M)) ∧ ((j ≤ toN M i ∧ Nb n C (gi U) (gi V) i j (toN M)) ∨ (j = toN M i + 1 ∧ Nb n C (gi U) (gi V) i (toN M i) (toN M))) ∧ (HS w0 w (y.L U V M R ++ []))) (j + 1) (M) (R) (w2)) rfl rfl rfl ?_ ?_
                · exact ⟨hM, hR, hPf, hLM, .inl ⟨by omega, hNb.next hno⟩, by rw [List.append_nil]; exact hs.dropR hO⟩
                · omega
              · have hMl' := hM'.len
                have hRl' := hR'.len
                rw [(hPf.oh j hjn).2] at hRot
                obtain ⟨q1, q2, q3⟩ := hM'.set hin hjn
                obtain ⟨o1, o2, o3⟩ := hR'.set hjn hin
                have hfin := hRot.fin hPf.feas hin hjn htt o2 o3 q2 q3
                have hlow : ∀ q, q < i → toN (M'.set i (j : Int)) q = toN M q := fun q hq => by rw [q3 q (by omega)]; exact hRot.low q hq
                refine L_assign rfl rfl ?_
                refine RL_then ?_
                refine W_seq ?_
                refine W_region ?_
                refine L_move rfl rfl ?_
                refine RL_then ?_
                refine W_if_true rfl ?_
                refine W_seq ?_
                refine W_region ?_
                refine L_move rfl rfl ?_
                refine L_nilCheck rfl rfl ?_
                refine L_fieldAddr rfl (off := 4) Try.underlying56 rfl rfl Try.ti25 rfl ?_
                refine L_load rfl Try.one25 rfl (by first | exact RdS.at hs hO (hrd.bx rfl) hrd.nb | exact hs.cellA (i := 2) rfl (il_get' (by omega)) | exact hs.cellA (i := 3) rfl (il_get' (by omega))) ?_
                refine L_move rfl rfl ?_
                refine L_move rfl rfl ?_
                refine L_idx1 rfl Try.underlying25 Try.ti3 rfl rfl (by with_reducible first | exact natc_k _ | exact natc_a1 _ | exact natc_0 | exact natc_1 | exact natc_2 | exact natc_s1 _ (by omega) | exact natc_a2 _ | exact natc_add _ _ | exact natc_mul _ _ | exact natc (by omega)) (by omega) rfl ?_
                refine L_store hs (i := 2) rfl Try.ti3 rfl rfl (by first | rfl | exact add_lit0 _ _ | exact Addr.add_lit ..) (by simp; omega) rfl ?_
                intro w hs
                try dsimp only [List.set_cons_succ, List.set_cons_zero, List.cons_append, List.nil_append] at hs
                refine RL_then ?_
                refine W_region ?_
                rw [il_set' _ _ _ _ (by omega)] at hs
                refine L_move rfl rfl ?_
                refine L_nilCheck rfl rfl ?_
                refine L_fieldAddr rfl (off := 5) Try.underlying56 rfl rfl Try.ti25 rfl ?_
                refine L_load rfl Try.one25 rfl (by first | exact RdS.at hs hO (hrd.bx rfl) hrd.nb | exact hs.cellA (i := 2) rfl (il_get' (by omega)) | exact hs.cellA (i := 3) rfl (il_get' (by omega))) ?_
                refine L_move rfl rfl ?_
                refine L_move rfl rfl ?_
                refine L_idx1 rfl Try.underlying25 Try.ti3 rfl rfl (by with_reducible first | exact natc_k _ | exact natc_a1 _ | exact natc_0 | exact natc_1 | exact natc_2 | exact natc_s1 _ (by omega) | exact natc_a2 _ | exact natc_add _ _ | exact natc_mul _ _ | exact natc (by omega)) (by omega) rfl ?_
                refine L_store hs (i := 3) rfl Try.ti3 rfl rfl (by first | rfl | exact add_lit0 _ _ | exact Addr.add_lit ..) (by simp; omega) rfl ?_
                intro w hs
                try dsimp only [List.set_cons_succ, List.set_cons_zero, List.cons_append, List.nil_append] at hs
                refine RL_nil' ?_
                refine Nx_block ?_
                refine Nx_then ?_
                refine W_region ?_
                refine L_move rfl rfl ?_
                first | refine L_add rfl rfl rfl (wrp_i64 (by omega)) ?_ | refine L_add rfl rfl rfl rfl ?_
                refine L_assign rfl rfl ?_
                refine RL_nil' ?_
                rw [il_set' _ _ _ _ (by omega)] at hs
                refine Nx_loopP (j + 1, M'.set i (j : Int), R'.set j (i : Int), w) (is := [0, 1, 4, 5]) (I' := (fun (j : Nat) (M : List Int) (R : List Int) (w : World) => (InR n M) ∧ (InR n R) ∧ (Pf n C (gi U) (gi V) (toN R) (toN M)) ∧ (LM n C (gi U) (gi V) i (toN M)) ∧ ((j ≤ toN M i ∧ Nb n C (gi U) (gi V) i j (toN M)) ∨ (j = toN M i + 1 ∧ Nb n C (gi U) (gi V) i (toN M i) (toN M))) ∧ (HS w0 w (y.L U V M R ++ []))) (j + 1) (M'.set i (j : Int)) (R'.set j (i : Int)) (w)) rfl rfl rfl ?_ ?_
                · exact ⟨q1, o1, hfin, hLM.congr hlow, .inr ⟨by rw [q2], by rw [q2]; exact hNb.congr hlow⟩, by rw [List.append_nil]; exact hs.dropR hO⟩
                · omega
            · rw [decide_eq_false htt]
              refine L_not rfl rfl ?_
              refine RL_then ?_
              refine W_if_true rfl ?_
              refine W_exit' ?_
              refine Ex_then_exit ?_
              refine Ex_block_hit ?_
              refine Nx_then ?_
              refine W_region ?_
              refine L_move rfl rfl ?_
              first | refine L_add rfl rfl rfl (wrp_i64 (by omega)) ?_ | refine L_add rfl rfl rfl rfl ?_
              refine L_assign rfl rfl ?_
              refine RL_nil' ?_
              refine Nx_loopP (j + 1, M, R, w1) (is := [0, 1, 4, 5]) (I' := (fun (j : Nat) (M : List Int) (R : List Int) (w : World) => (InR n M) ∧ (InR n R) ∧ (Pf n C (gi U) (gi V) (toN R) (toN M)) ∧ (LM n C (gi U) (gi V) i (toN M)) ∧ ((j ≤ toN M i ∧ Nb n C (gi U) (gi V) i j (toN M)) ∨ (j = toN M i + 1 ∧ Nb n C (gi U) (gi V) i (toN M i) (toN M))) ∧ (HS w0 w (y.L U V M R ++ []))) (j + 1) (M) (R) (w1)) rfl rfl rfl ?_ ?_
              · exact ⟨hM, hR, hPf, hLM, .inl ⟨by omega, hNb.next (fun K hK _ he => htt (by have := hK.2 i hin; rw [he] at this; exact this))⟩, hs⟩
              · omega
          · have hNb' : Nb n C (gi U) (gi V) i (toN M i) (toN M) := by
              rcases hNb with ⟨h5, h6⟩ | ⟨_, h6⟩
              · rw [show j = toN M i by omega] at h6; exact h6
              · exact h6
            refine W_seq ?_
            refine W_seq ?_
            refine W_region ?_
            refine L_move rfl rfl ?_
            refine L_move rfl rfl ?_
            refine L_nilCheck rfl rfl ?_
            refine L_fieldAddr rfl (off := 4) Try.underlying56 rfl rfl Try.ti25 rfl ?_
            refine L_load rfl Try.one25 rfl (by first | exact RdS.at hs Own.nil (hrd.bx rfl) hrd.nb | exact hs.cellA (i := 2) rfl (il_get' (by omega))) ?_
            refine L_move rfl rfl ?_
            refine L_idx1 rfl Try.underlying25 Try.ti3 rfl rfl (by with_reducible first | exact natc_k _ | exact natc_a1 _ | exact natc_0 | exact natc_1 | exact natc_2 | exact natc_s1 _ (by omega) | exact natc_a2 _ | exact natc_add _ _ | exact natc_mul _ _ | exact natc (by omega)) (by omega) rfl ?_
            refine L_load rfl Try.one3 rfl (by first | exact RdS.at hs Own.nil (hrd.bx rfl) hrd.nb | exact hs.cellA (i := 2) rfl (il_get' (by omega))) ?_
            rw [hMe]
            first | refine L_lss rfl rfl rfl (dtrue (by omega)) ?_ | refine L_lss rfl rfl rfl (dfalse (by omega)) ?_ | refine L_lss rfl rfl rfl rfl ?_
            refine RL_then ?_
            refine W_if_false rfl ?_
            refine W_exit' ?_
            refine Ex_then_exit ?_
            refine Ex_loop_exit ?_
            refine Ex_block_hit ?_
            refine Nx_block ?_
            refine Nx_cutP (M, R, w) (is := [0, 1, 4]) (I' := (fun (M : List Int) (R : List Int) (w : World) => (InR n M) ∧ (InR n R) ∧ (Pf n C (gi U) (gi V) (toN R) (toN M)) ∧ (LM n C (gi U) (gi V) (i + 1) (toN M)) ∧ (HS w0 w (y.L U V M R ++ []))) (M) (R) (w)) rfl rfl rfl ?_
            exact ⟨hM, hR, hPf, hLM.next hNb', hs⟩
      · clear hs hM hR hPf hLM
        intro M R w hI
        show W _ _ _ _ [(0, .pointer (some ⟨y.B, 0, none⟩)), (1, .int .i64 rows), (4, .int .i64 i)] w
        obtain ⟨hM, hR, hPf, hLM, hs⟩ := hI
        refine W_region ?_
        refine L_move rfl rfl ?_
        first | refine L_add rfl rfl rfl (wrp_i64 (by omega)) ?_ | refine L_add rfl rfl rfl rfl ?_
        refine L_assign rfl rfl ?_
        refine RL_nil' ?_
        refine Nx_loopP (i + 1, M, R, w) (is := [0, 1, 4]) (I' := (fun (i : Nat) (M : List Int) (R : List Int) (w : World) => (i ≤ rows) ∧ (InR n M) ∧ (InR n R) ∧ (Pf n C (gi U) (gi V) (toN R) (toN M)) ∧ (LM n C (gi U) (gi V) i (toN M)) ∧ (HS w0 w (y.L U V M R ++ []))) (i + 1) (M) (R) (w)) rfl rfl rfl ?_ ?_
        · exact ⟨by omega, hM, hR, hPf, hLM, hs⟩
        · omega
    · obtain rfl : rows = i := by omega
      refine W_seq ?_
      refine W_seq ?_
      refine W_region ?_
      refine L_move rfl rfl ?_
      refine L_move rfl rfl ?_
      first | refine L_lss rfl rfl rfl (dtrue (by omega)) ?_ | refine L_lss rfl rfl rfl (dfalse (by omega)) ?_ | refine L_lss rfl rfl rfl rfl ?_
      refine RL_then ?_
      refine W_if_false rfl ?_
      refine W_exit' ?_
      refine Ex_then_exit ?_
      refine Ex_loop_exit ?_
      refine Ex_block_hit ?_
      refine Nx_done0 rfl ?_
      exact ⟨_, rfl, M, R, by rw [List.append_nil] at hs; exact hs, hM, hR, hPf, hLM⟩
end Go.Proofs.Ytcfdmenmlemahaa
