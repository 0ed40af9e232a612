/-
  A part of the proof: what functions that the statement reaches do, or a plain law on what they do. Each theorem holds under its own premises alone.
-/
import Derived.Test.YtcfdmenmlemahaaTRK
namespace Go.Proofs.Ytcfdmenmlemahaa
open Go Go.Lk Go.Pr
set_option maxHeartbeats 16000000 in
theorem rmost_ok (a : Option Addr) (k cp : Nat) (rows : List (List Int)) (rvs : List Value) (w0 : World) (hr : RowsI w0 a rows rvs) (hk : rows.length = k) (hk63 : k ≤ 17592186043904) :
    Ret Try.prog 18 [.slice a k cp] w0 fun v w' => ∃ v1 N ms cnt t e, v = .tuple #[v1, .int .i64 cnt, .int .i64 t, .int .i64 e] ∧ HS w0 w' N ∧ Bl w0 3 1 v1 ms.length (il ms) N ∧ MostAns rows ms cnt t e := by
  refine Ret.start fun w hs => ?_
  have hrl := hr.len
  refine calls_of_W Try.func18 rfl rfl rfl ?_
  refine W_seq ?_
  refine W_region ?_
  refine L_assign rfl rfl ?_
  refine L_assign rfl rfl ?_
  refine L_assign rfl rfl ?_
  refine L_assign rfl rfl ?_
  refine RL_then ?_
  refine W_seq ?_
  refine W_region ?_
  refine L_move rfl rfl ?_
  refine L_call rfl Try.fun27 rfl (rcheck_ok a k cp rows rvs w (hr.old hs Own.nil) hk hk63) ?_
  rintro _ w1 ⟨rfl, hs'⟩
  replace hs := hs.nil hs'
  clear hs'
  by_cases he0 : chk rows ≠ 0
  · refine L_assign rfl rfl ?_
    refine RL_then ?_
    refine W_seq ?_
    refine W_seq ?_
    refine W_region ?_
    refine L_move rfl rfl ?_
    first | refine L_neq rfl rfl rfl (dtrue (by omega)) ?_ | refine L_neq rfl rfl rfl (dfalse (by omega)) ?_ | refine L_neq rfl rfl rfl rfl ?_
    refine RL_then ?_
    refine W_if_true rfl ?_
    refine W_seq ?_
    refine W_region ?_
    refine L_move rfl rfl ?_
    refine L_assign rfl rfl ?_
    refine L_assign rfl rfl ?_
    refine L_assign rfl rfl ?_
    refine L_assign rfl rfl ?_
    refine RL_then ?_
    refine W_ret' ?_
    refine Ex_then_ret ?_
    refine Ex_done4 rfl rfl rfl rfl rfl ?_
    exact ⟨_, rfl, _, [], [], _, _, _, rfl, hs, Bl.nil, .inl ⟨.inl he0, rfl, rfl, rfl, rfl⟩⟩
  · rw [Classical.not_not] at he0
    rw [he0]
    by_cases hk0 : k = 0
    · refine L_assign rfl rfl ?_
      refine RL_then ?_
      refine W_seq ?_
      refine W_seq ?_
      refine W_region ?_
      refine L_move rfl rfl ?_
      first | refine L_neq rfl rfl rfl (dtrue (by omega)) ?_ | refine L_neq rfl rfl rfl (dfalse (by omega)) ?_ | refine L_neq rfl rfl rfl rfl ?_
      refine RL_then ?_
      refine W_if_false rfl ?_
      refine W_skip' ?_
      refine Nx_then ?_
      refine W_seq ?_
      refine W_seq ?_
      refine W_region ?_
      refine L_move rfl rfl ?_
      refine L_len rfl Try.underlying22 rfl ?_
      first | refine L_eql rfl rfl rfl (dtrue (by omega)) ?_ | refine L_eql rfl rfl rfl (dfalse (by omega)) ?_ | refine L_eql rfl rfl rfl rfl ?_
      refine RL_then ?_
      refine W_if_true rfl ?_
      refine W_seq ?_
      refine W_region ?_
      refine L_assign rfl rfl ?_
      refine L_assign rfl rfl ?_
      refine L_assign rfl rfl ?_
      refine L_assign rfl rfl ?_
      refine RL_then ?_
      refine W_ret' ?_
      refine Ex_then_ret ?_
      refine Ex_done4 rfl rfl rfl rfl rfl ?_
      exact ⟨_, rfl, _, [], [], _, _, _, rfl, hs, Bl.nil, .inl ⟨.inr (by omega), rfl, rfl, rfl, he0.symm⟩⟩
    · have hF := fine_of_chk he0
      obtain ⟨a0, c0, k1, k2, k3, k4⟩ := hr.row 0 (by omega)
      obtain ⟨m, hm⟩ : ∃ m, m = (rows.getD 0 []).length := ⟨_, rfl⟩
      have hm256 : m ≤ 256 := by rw [hm]; exact hF.wid 0 (by omega)
      have hk256 := hF.len
      rw [← hm] at k1 k2 k3
      obtain ⟨n, hn⟩ : ∃ n, n = m + k := ⟨_, rfl⟩
      have hcel : ∀ r j, r < rows.length → j < m → el rows r j ≤ 1099511627776 := fun r j hr hj => hF.cost r j hr (by rw [hF.same r hr]; show j < (rows.getD 0 []).length; omega)
      refine L_assign rfl rfl ?_
      refine RL_then ?_
      refine W_seq ?_
      refine W_seq ?_
      refine W_region ?_
      refine L_move rfl rfl ?_
      first | refine L_neq rfl rfl rfl (dtrue (by omega)) ?_ | refine L_neq rfl rfl rfl (dfalse (by omega)) ?_ | refine L_neq rfl rfl rfl rfl ?_
      refine RL_then ?_
      refine W_if_false rfl ?_
      refine W_skip' ?_
      refine Nx_then ?_
      refine W_seq ?_
      refine W_seq ?_
      refine W_region ?_
      refine L_move rfl rfl ?_
      refine L_len rfl Try.underlying22 rfl ?_
      first | refine L_eql rfl rfl rfl (dtrue (by omega)) ?_ | refine L_eql rfl rfl rfl (dfalse (by omega)) ?_ | refine L_eql rfl rfl rfl rfl ?_
      refine RL_then ?_
      refine W_if_false rfl ?_
      refine W_skip' ?_
      refine Nx_then ?_
      refine W_seq ?_
      refine W_region ?_
      refine L_move rfl rfl ?_
      refine L_idx1 rfl Try.underlying22 Try.ti38 rfl rfl natc_0 (by omega) (hr.sl.ao (by omega)) ?_
      skip
      refine L_load rfl Try.one38 rfl ((hr.sl.old hs Own.nil).get k1) ?_
      refine L_len rfl Try.underlying38 rfl ?_
      refine L_assign rfl rfl ?_
      refine RL_then ?_
      refine W_seq ?_
      refine W_region ?_
      refine L_assign rfl rfl ?_
      refine RL_then ?_
      refine W_seq ?_
      refine W_seq ?_
      refine W_region ?_
      refine L_assign rfl rfl ?_
      refine RL_then ?_
      refine W_block ?_
      refine W_loop7 (fun (i : Nat) (v8 : Value) (vs : List Value) (rs : List (List Int)) (Mo : List (Nat × Obj)) (Ms : List (Nat × Obj)) (w : World) => [(0, .slice a k cp), (7, .int .i64 m), (8, v8), (9, .int .i64 i)]) (fun (i : Nat) (v8 : Value) (vs : List Value) (rs : List (List Int)) (Mo : List (Nat × Obj)) (Ms : List (Nat × Obj)) (w : World) => w) (fun (i : Nat) (v8 : Value) (vs : List Value) (rs : List (List Int)) (Mo : List (Nat × Obj)) (Ms : List (Nat × Obj)) (w : World) => (i ≤ k) ∧ (HS w0 w (Mo ++ Ms)) ∧ (Bl w0 38 1 v8 i vs Mo) ∧ (RB (pB w0) vs rs Ms) ∧ (rs.length = i) ∧ (∀ r, r < i → (rs.getD r []).length = n ∧ ∀ j, j < n → el rs r j = msC rows m r j)) (fun (i : Nat) (v8 : Value) (vs : List Value) (rs : List (List Int)) (Mo : List (Nat × Obj)) (Ms : List (Nat × Obj)) (w : World) => k - i) (0) (.slice none 0 0) ([]) ([]) ([]) ([]) (w1) (is := [0, 7, 8, 9]) rfl rfl ?_ ?_
      · exact ⟨Nat.zero_le _, hs, Bl.nil, .nil, rfl, fun _ h => absurd h (Nat.not_lt_zero _)⟩
      · clear hs
        intro i v8 vs rs Mo Ms w hI
        show W _ _ _ _ [(0, .slice a k cp), (7, .int .i64 m), (8, v8), (9, .int .i64 i)] w
        obtain ⟨hi, hs, hbo, hrb, hrl2, hrs⟩ := hI
        have hOos : Own w0 (Mo ++ Ms) := hbo.own.app hrb.own
        by_cases hlt : i < k
        · obtain ⟨ai, ci, g1, g2, g3, g4⟩ := hr.row i (by omega)
          have hwi : (rows.getD i []).length = m := by rw [hm]; exact hF.same i (by omega)
          rw [hwi] at g1 g2 g3
          refine W_seq ?_
          refine W_seq ?_
          refine W_region ?_
          refine L_move rfl rfl ?_
          refine L_move rfl rfl ?_
          refine L_len rfl Try.underlying22 rfl ?_
          first | refine L_lss rfl rfl rfl (dtrue (by omega)) ?_ | refine L_lss rfl rfl rfl (dfalse (by omega)) ?_ | refine L_lss rfl rfl rfl rfl ?_
          refine RL_then ?_
          refine W_if_true rfl ?_
          refine W_skip' ?_
          refine Nx_then ?_
          refine W_seq ?_
          refine W_block ?_
          refine W_seq ?_
          refine W_region ?_
          refine L_assign rfl rfl ?_
          refine RL_then ?_
          refine W_seq ?_
          refine W_seq ?_
          refine W_region ?_
          refine L_assign rfl rfl ?_
          refine RL_then ?_
          refine W_block ?_
          refine W_loop5 (fun (j : Nat) (v9 : Value) (T : List Int) (M9 : List (Nat × Obj)) (w : World) => [(0, .slice a k cp), (7, .int .i64 m), (8, v8), (9, .int .i64 i), (10, v9), (11, .int .i64 j)]) (fun (j : Nat) (v9 : Value) (T : List Int) (M9 : List (Nat × Obj)) (w : World) => w) (fun (j : Nat) (v9 : Value) (T : List Int) (M9 : List (Nat × Obj)) (w : World) => (j ≤ n) ∧ (T.length = j) ∧ (∀ z, z < j → gi T z = msC rows m i z) ∧ (Bl w0 2 1 v9 j (il T) M9) ∧ (HS w0 w ((Mo ++ Ms) ++ M9))) (fun (j : Nat) (v9 : Value) (T : List Int) (M9 : List (Nat × Obj)) (w : World) => n - j) (0) (.slice none 0 0) ([]) ([]) (w) (is := [0, 7, 8, 9, 10, 11]) rfl rfl ?_ ?_
          · exact ⟨Nat.zero_le _, rfl, fun _ h => absurd h (Nat.not_lt_zero _), Bl.nil, by simpa using hs⟩
          · clear hs
            intro j v9 T M9 w hI
            show W _ _ _ _ [(0, .slice a k cp), (7, .int .i64 m), (8, v8), (9, .int .i64 i), (10, v9), (11, .int .i64 j)] w
            obtain ⟨hj, hTl, hT, hb9, hs⟩ := hI
            by_cases hlt2 : j < n
            · have hls : msC rows m i j = if j = m + i then 562949953421312 else if m ≤ j ∨ el rows i j < 0 then 4503599627370496 else el rows i j := by unfold msC; rw [if_pos (by omega)]
              have hT' : ∀ x, x = msC rows m i j → ∀ z, z < j + 1 → gi (T ++ [x]) z = msC rows m i z := fun x hx z hz => by
                show (T ++ [x]).getD z 0 = _
                simp only [List.getD]
                by_cases hzj : z < j
                · rw [List.getElem?_append_left (by omega)]; exact hT z hzj
                · obtain rfl : z = j := by omega
                  rw [List.getElem?_append_right (by omega), hTl, Nat.sub_self, ← hx]; rfl
              by_cases hja : j = m + i
              · refine W_seq ?_
                refine W_seq ?_
                refine W_region ?_
                refine L_move rfl rfl ?_
                refine L_move rfl rfl ?_
                refine L_move rfl rfl ?_
                refine L_len rfl Try.underlying22 rfl ?_
                first | refine L_add rfl rfl rfl (wrp_i64 (by omega)) ?_ | refine L_add rfl rfl rfl rfl ?_
                first | refine L_lss rfl rfl rfl (dtrue (by omega)) ?_ | refine L_lss rfl rfl rfl (dfalse (by omega)) ?_ | refine L_lss rfl rfl rfl rfl ?_
                refine RL_then ?_
                refine W_if_true rfl ?_
                refine W_skip' ?_
                refine Nx_then ?_
                refine W_seq ?_
                refine W_block ?_
                refine W_seq ?_
                refine W_region ?_
                refine L_assign rfl rfl ?_
                refine RL_then ?_
                refine W_seq ?_
                refine W_seq ?_
                refine W_region ?_
                refine L_move rfl rfl ?_
                refine L_move rfl rfl ?_
                first | refine L_lss rfl rfl rfl (dtrue (by omega)) ?_ | refine L_lss rfl rfl rfl (dfalse (by omega)) ?_ | refine L_lss rfl rfl rfl rfl ?_
                refine L_move rfl rfl ?_
                first | (refine RL_want rfl rfl ?_; refine L_move rfl rfl ?_) | refine RL_skip rfl rfl rfl rfl ?_ | refine RL_skipU rfl rfl rfl ?_
                first | (refine RL_want rfl rfl ?_; refine L_move rfl rfl ?_) | refine RL_skip rfl rfl rfl rfl ?_ | refine RL_skipU rfl rfl rfl ?_
                first | (refine RL_want rfl rfl ?_; refine L_idx1 rfl Try.underlying22 Try.ti38 rfl rfl (by with_reducible first | exact natc_k _ | exact natc_a1 _ | exact natc_0 | exact natc_1 | exact natc_2 | exact natc_s1 _ (by omega) | exact natc_a2 _ | exact natc_add _ _ | exact natc_mul _ _ | exact natc (by omega)) (by omega) rfl ?_) | refine RL_skip rfl rfl rfl rfl ?_ | refine RL_skipU rfl rfl rfl ?_
                first | (refine RL_want rfl rfl ?_; refine L_load rfl Try.one38 rfl (by first | exact hs.cell (i := 0) rfl rfl) ?_) | refine RL_skip rfl rfl rfl rfl ?_ | refine RL_skipU rfl rfl rfl ?_
                first | (refine RL_want rfl rfl ?_; refine L_move rfl rfl ?_) | refine RL_skip rfl rfl rfl rfl ?_ | refine RL_skipU rfl rfl rfl ?_
                first | (refine RL_want rfl rfl ?_; refine L_idx1 rfl Try.underlying38 Try.ti2 rfl rfl (by with_reducible first | exact natc_k _ | exact natc_a1 _ | exact natc_0 | exact natc_1 | exact natc_2 | exact natc_s1 _ (by omega) | exact natc_a2 _ | exact natc_add _ _ | exact natc_mul _ _ | exact natc (by omega)) (by omega) rfl ?_) | refine RL_skip rfl rfl rfl rfl ?_ | refine RL_skipU rfl rfl rfl ?_
                first | (refine RL_want rfl rfl ?_; refine L_load rfl Try.one2 rfl (by first | exact hs.cell (i := 0) rfl rfl) ?_) | refine RL_skip rfl rfl rfl rfl ?_ | refine RL_skipU rfl rfl rfl ?_
                first | (refine RL_want rfl rfl ?_; (first | refine L_geq rfl rfl rfl (dtrue (by omega)) ?_ | refine L_geq rfl rfl rfl (dfalse (by omega)) ?_ | refine L_geq rfl rfl rfl rfl ?_)) | refine RL_skip rfl rfl rfl rfl ?_ | refine RL_skipU rfl rfl rfl ?_
                first | refine L_pick_t rfl rfl rfl ?_ | refine L_pick_f rfl rfl rfl ?_
                refine RL_then ?_
                refine W_if_false rfl ?_
                refine W_skip' ?_
                refine Nx_then ?_
                refine W_seq ?_
                refine W_seq ?_
                refine W_region ?_
                refine L_move rfl rfl ?_
                refine L_move rfl rfl ?_
                refine L_move rfl rfl ?_
                first | refine L_add rfl rfl rfl (wrp_i64 (by omega)) ?_ | refine L_add rfl rfl rfl rfl ?_
                first | refine L_eql rfl rfl rfl (dtrue (by omega)) ?_ | refine L_eql rfl rfl rfl (dfalse (by omega)) ?_ | refine L_eql rfl rfl rfl rfl ?_
                refine RL_then ?_
                refine W_if_true rfl ?_
                refine W_region ?_
                refine L_assign rfl rfl ?_
                refine RL_then ?_
                refine W_region ?_
                refine L_move rfl rfl ?_
                refine L_move rfl rfl ?_
                refine L_buildSlice1 rfl hs Try.underlying38 Try.ti2 rfl (by decide) rfl rfl ?_
                intro b72 w hb72 hnb72 hs
                simp only [List.map_cons, List.map_nil] at hs
                try dsimp only [List.set_cons_succ, List.set_cons_zero, List.cons_append, List.nil_append] at hs
                refine L_appendT (L := Mo ++ Ms) (M := M9) rfl Try.underlying38 Try.ti2 rfl hs (by assumption) hb9 rfl rfl rfl (by simp [Value.oneCell']) (by omega) (by omega) ?_
                intro v9' w M9' hs hb9'
                rw [il_snoc] at hb9'
                refine L_assign rfl rfl ?_
                refine RL_nil' ?_
                refine Nx_block ?_
                refine Nx_then ?_
                refine W_region ?_
                refine L_move rfl rfl ?_
                first | refine L_add rfl rfl rfl (wrp_i64 (by omega)) ?_ | refine L_add rfl rfl rfl rfl ?_
                refine L_assign rfl rfl ?_
                refine RL_nil' ?_
                refine Nx_loopP (j + 1, v9', T ++ [562949953421312], M9', w) (is := [0, 7, 8, 9, 10, 11]) (I' := (fun (j : Nat) (v9 : Value) (T : List Int) (M9 : List (Nat × Obj)) (w : World) => (j ≤ n) ∧ (T.length = j) ∧ (∀ z, z < j → gi T z = msC rows m i z) ∧ (Bl w0 2 1 v9 j (il T) M9) ∧ (HS w0 w ((Mo ++ Ms) ++ M9))) (j + 1) (v9') (T ++ [562949953421312]) (M9') (w)) rfl rfl rfl ?_ ?_
                · exact ⟨by omega, by simp [hTl], hT' _ (by rw [hls, if_pos hja]), hb9', hs⟩
                · omega
              · by_cases hjm : m ≤ j
                · refine W_seq ?_
                  refine W_seq ?_
                  refine W_region ?_
                  refine L_move rfl rfl ?_
                  refine L_move rfl rfl ?_
                  refine L_move rfl rfl ?_
                  refine L_len rfl Try.underlying22 rfl ?_
                  first | refine L_add rfl rfl rfl (wrp_i64 (by omega)) ?_ | refine L_add rfl rfl rfl rfl ?_
                  first | refine L_lss rfl rfl rfl (dtrue (by omega)) ?_ | refine L_lss rfl rfl rfl (dfalse (by omega)) ?_ | refine L_lss rfl rfl rfl rfl ?_
                  refine RL_then ?_
                  refine W_if_true rfl ?_
                  refine W_skip' ?_
                  refine Nx_then ?_
                  refine W_seq ?_
                  refine W_block ?_
                  refine W_seq ?_
                  refine W_region ?_
                  refine L_assign rfl rfl ?_
                  refine RL_then ?_
                  refine W_seq ?_
                  refine W_seq ?_
                  refine W_region ?_
                  refine L_move rfl rfl ?_
                  refine L_move rfl rfl ?_
                  first | refine L_lss rfl rfl rfl (dtrue (by omega)) ?_ | refine L_lss rfl rfl rfl (dfalse (by omega)) ?_ | refine L_lss rfl rfl rfl rfl ?_
                  refine L_move rfl rfl ?_
                  first | (refine RL_want rfl rfl ?_; refine L_move rfl rfl ?_) | refine RL_skip rfl rfl rfl rfl ?_ | refine RL_skipU rfl rfl rfl ?_
                  first | (refine RL_want rfl rfl ?_; refine L_move rfl rfl ?_) | refine RL_skip rfl rfl rfl rfl ?_ | refine RL_skipU rfl rfl rfl ?_
                  first | (refine RL_want rfl rfl ?_; refine L_idx1 rfl Try.underlying22 Try.ti38 rfl rfl (by with_reducible first | exact natc_k _ | exact natc_a1 _ | exact natc_0 | exact natc_1 | exact natc_2 | exact natc_s1 _ (by omega) | exact natc_a2 _ | exact natc_add _ _ | exact natc_mul _ _ | exact natc (by omega)) (by omega) rfl ?_) | refine RL_skip rfl rfl rfl rfl ?_ | refine RL_skipU rfl rfl rfl ?_
                  first | (refine RL_want rfl rfl ?_; refine L_load rfl Try.one38 rfl (by first | exact hs.cell (i := 0) rfl rfl) ?_) | refine RL_skip rfl rfl rfl rfl ?_ | refine RL_skipU rfl rfl rfl ?_
                  first | (refine RL_want rfl rfl ?_; refine L_move rfl rfl ?_) | refine RL_skip rfl rfl rfl rfl ?_ | refine RL_skipU rfl rfl rfl ?_
                  first | (refine RL_want rfl rfl ?_; refine L_idx1 rfl Try.underlying38 Try.ti2 rfl rfl (by with_reducible first | exact natc_k _ | exact natc_a1 _ | exact natc_0 | exact natc_1 | exact natc_2 | exact natc_s1 _ (by omega) | exact natc_a2 _ | exact natc_add _ _ | exact natc_mul _ _ | exact natc (by omega)) (by omega) rfl ?_) | refine RL_skip rfl rfl rfl rfl ?_ | refine RL_skipU rfl rfl rfl ?_
                  first | (refine RL_want rfl rfl ?_; refine L_load rfl Try.one2 rfl (by first | exact hs.cell (i := 0) rfl rfl) ?_) | refine RL_skip rfl rfl rfl rfl ?_ | refine RL_skipU rfl rfl rfl ?_
                  first | (refine RL_want rfl rfl ?_; (first | refine L_geq rfl rfl rfl (dtrue (by omega)) ?_ | refine L_geq rfl rfl rfl (dfalse (by omega)) ?_ | refine L_geq rfl rfl rfl rfl ?_)) | refine RL_skip rfl rfl rfl rfl ?_ | refine RL_skipU rfl rfl rfl ?_
                  first | refine L_pick_t rfl rfl rfl ?_ | refine L_pick_f rfl rfl rfl ?_
                  refine RL_then ?_
                  refine W_if_false rfl ?_
                  refine W_skip' ?_
                  refine Nx_then ?_
                  refine W_seq ?_
                  refine W_seq ?_
                  refine W_region ?_
                  refine L_move rfl rfl ?_
                  refine L_move rfl rfl ?_
                  refine L_move rfl rfl ?_
                  first | refine L_add rfl rfl rfl (wrp_i64 (by omega)) ?_ | refine L_add rfl rfl rfl rfl ?_
                  first | refine L_eql rfl rfl rfl (dtrue (by omega)) ?_ | refine L_eql rfl rfl rfl (dfalse (by omega)) ?_ | refine L_eql rfl rfl rfl rfl ?_
                  refine RL_then ?_
                  refine W_if_false rfl ?_
                  refine W_skip' ?_
                  refine Nx_then ?_
                  refine W_region ?_
                  refine L_move rfl rfl ?_
                  refine L_move rfl rfl ?_
                  refine L_buildSlice1 rfl hs Try.underlying38 Try.ti2 rfl (by decide) rfl rfl ?_
                  intro b72 w hb72 hnb72 hs
                  simp only [List.map_cons, List.map_nil] at hs
                  try dsimp only [List.set_cons_succ, List.set_cons_zero, List.cons_append, List.nil_append] at hs
                  refine L_appendT (L := Mo ++ Ms) (M := M9) rfl Try.underlying38 Try.ti2 rfl hs (by assumption) hb9 rfl rfl rfl (by simp [Value.oneCell']) (by omega) (by omega) ?_
                  intro v9' w M9' hs hb9'
                  rw [il_snoc] at hb9'
                  refine L_assign rfl rfl ?_
                  refine RL_nil' ?_
                  refine Nx_block ?_
                  refine Nx_then ?_
                  refine W_region ?_
                  refine L_move rfl rfl ?_
                  first | refine L_add rfl rfl rfl (wrp_i64 (by omega)) ?_ | refine L_add rfl rfl rfl rfl ?_
                  refine L_assign rfl rfl ?_
                  refine RL_nil' ?_
                  refine Nx_loopP (j + 1, v9', T ++ [4503599627370496], M9', w) (is := [0, 7, 8, 9, 10, 11]) (I' := (fun (j : Nat) (v9 : Value) (T : List Int) (M9 : List (Nat × Obj)) (w : World) => (j ≤ n) ∧ (T.length = j) ∧ (∀ z, z < j → gi T z = msC rows m i z) ∧ (Bl w0 2 1 v9 j (il T) M9) ∧ (HS w0 w ((Mo ++ Ms) ++ M9))) (j + 1) (v9') (T ++ [4503599627370496]) (M9') (w)) rfl rfl rfl ?_ ?_
                  · exact ⟨by omega, by simp [hTl], hT' _ (by rw [hls, if_neg hja, if_pos (.inl hjm)]), hb9', hs⟩
                  · omega
                · skip
                  by_cases hneg : (rows.getD i []).getD j 0 < 0
                  · refine W_seq ?_
                    refine W_seq ?_
                    refine W_region ?_
                    refine L_move rfl rfl ?_
                    refine L_move rfl rfl ?_
                    refine L_move rfl rfl ?_
                    refine L_len rfl Try.underlying22 rfl ?_
                    first | refine L_add rfl rfl rfl (wrp_i64 (by omega)) ?_ | refine L_add rfl rfl rfl rfl ?_
                    first | refine L_lss rfl rfl rfl (dtrue (by omega)) ?_ | refine L_lss rfl rfl rfl (dfalse (by omega)) ?_ | refine L_lss rfl rfl rfl rfl ?_
                    refine RL_then ?_
                    refine W_if_true rfl ?_
                    refine W_skip' ?_
                    refine Nx_then ?_
                    refine W_seq ?_
                    refine W_block ?_
                    refine W_seq ?_
                    refine W_region ?_
                    refine L_assign rfl rfl ?_
                    refine RL_then ?_
                    refine W_seq ?_
                    refine W_seq ?_
                    refine W_region ?_
                    refine L_move rfl rfl ?_
                    refine L_move rfl rfl ?_
                    first | refine L_lss rfl rfl rfl (dtrue (by omega)) ?_ | refine L_lss rfl rfl rfl (dfalse (by omega)) ?_ | refine L_lss rfl rfl rfl rfl ?_
                    refine L_move rfl rfl ?_
                    first | (refine RL_want rfl rfl ?_; refine L_move rfl rfl ?_) | refine RL_skip rfl rfl rfl rfl ?_ | refine RL_skipU rfl rfl rfl ?_
                    first | (refine RL_want rfl rfl ?_; refine L_move rfl rfl ?_) | refine RL_skip rfl rfl rfl rfl ?_ | refine RL_skipU rfl rfl rfl ?_
                    first | (refine RL_want rfl rfl ?_; refine L_idx1 rfl Try.underlying22 Try.ti38 rfl rfl (by with_reducible first | exact natc_k _ | exact natc_a1 _ | exact natc_0 | exact natc_1 | exact natc_2 | exact natc_s1 _ (by omega) | exact natc_a2 _ | exact natc_add _ _ | exact natc_mul _ _ | exact natc (by omega)) (by omega) (by first | rfl | exact hr.sl.ao (by omega) | exact g4.ao (by rw [il_length]; omega)) ?_) | refine RL_skip rfl rfl rfl rfl ?_ | refine RL_skipU rfl rfl rfl ?_
                    first | (refine RL_want rfl rfl ?_; refine L_load rfl Try.one38 rfl (by first | exact (hr.sl.old hs (hOos.app hb9.own)).get g1 | exact (g4.old hs (hOos.app hb9.own)).get (il_get (by omega))) ?_) | refine RL_skip rfl rfl rfl rfl ?_ | refine RL_skipU rfl rfl rfl ?_
                    first | (refine RL_want rfl rfl ?_; refine L_move rfl rfl ?_) | refine RL_skip rfl rfl rfl rfl ?_ | refine RL_skipU rfl rfl rfl ?_
                    first | (refine RL_want rfl rfl ?_; refine L_idx1 rfl Try.underlying38 Try.ti2 rfl rfl (by with_reducible first | exact natc_k _ | exact natc_a1 _ | exact natc_0 | exact natc_1 | exact natc_2 | exact natc_s1 _ (by omega) | exact natc_a2 _ | exact natc_add _ _ | exact natc_mul _ _ | exact natc (by omega)) (by omega) (by first | rfl | exact hr.sl.ao (by omega) | exact g4.ao (by rw [il_length]; omega)) ?_) | refine RL_skip rfl rfl rfl rfl ?_ | refine RL_skipU rfl rfl rfl ?_
                    first | (refine RL_want rfl rfl ?_; refine L_load rfl Try.one2 rfl (by first | exact (hr.sl.old hs (hOos.app hb9.own)).get g1 | exact (g4.old hs (hOos.app hb9.own)).get (il_get (by omega))) ?_) | refine RL_skip rfl rfl rfl rfl ?_ | refine RL_skipU rfl rfl rfl ?_
                    first | (refine RL_want rfl rfl ?_; (first | refine L_geq rfl rfl rfl (dtrue (by omega)) ?_ | refine L_geq rfl rfl rfl (dfalse (by omega)) ?_ | refine L_geq rfl rfl rfl rfl ?_)) | refine RL_skip rfl rfl rfl rfl ?_ | refine RL_skipU rfl rfl rfl ?_
                    first | refine L_pick_t rfl rfl rfl ?_ | refine L_pick_f rfl rfl rfl ?_
                    refine RL_then ?_
                    refine W_if_false rfl ?_
                    refine W_skip' ?_
                    refine Nx_then ?_
                    refine W_seq ?_
                    refine W_seq ?_
                    refine W_region ?_
                    refine L_move rfl rfl ?_
                    refine L_move rfl rfl ?_
                    refine L_move rfl rfl ?_
                    first | refine L_add rfl rfl rfl (wrp_i64 (by omega)) ?_ | refine L_add rfl rfl rfl rfl ?_
                    first | refine L_eql rfl rfl rfl (dtrue (by omega)) ?_ | refine L_eql rfl rfl rfl (dfalse (by omega)) ?_ | refine L_eql rfl rfl rfl rfl ?_
                    refine RL_then ?_
                    refine W_if_false rfl ?_
                    refine W_skip' ?_
                    refine Nx_then ?_
                    refine W_region ?_
                    refine L_move rfl rfl ?_
                    refine L_move rfl rfl ?_
                    refine L_buildSlice1 rfl hs Try.underlying38 Try.ti2 rfl (by decide) rfl rfl ?_
                    intro b72 w hb72 hnb72 hs
                    simp only [List.map_cons, List.map_nil] at hs
                    try dsimp only [List.set_cons_succ, List.set_cons_zero, List.cons_append, List.nil_append] at hs
                    refine L_appendT (L := Mo ++ Ms) (M := M9) rfl Try.underlying38 Try.ti2 rfl hs (by assumption) hb9 rfl rfl rfl (by simp [Value.oneCell']) (by omega) (by omega) ?_
                    intro v9' w M9' hs hb9'
                    rw [il_snoc] at hb9'
                    refine L_assign rfl rfl ?_
                    refine RL_nil' ?_
                    refine Nx_block ?_
                    refine Nx_then ?_
                    refine W_region ?_
                    refine L_move rfl rfl ?_
                    first | refine L_add rfl rfl rfl (wrp_i64 (by omega)) ?_ | refine L_add rfl rfl rfl rfl ?_
                    refine L_assign rfl rfl ?_
                    refine RL_nil' ?_
                    refine Nx_loopP (j + 1, v9', T ++ [4503599627370496], M9', w) (is := [0, 7, 8, 9, 10, 11]) (I' := (fun (j : Nat) (v9 : Value) (T : List Int) (M9 : List (Nat × Obj)) (w : World) => (j ≤ n) ∧ (T.length = j) ∧ (∀ z, z < j → gi T z = msC rows m i z) ∧ (Bl w0 2 1 v9 j (il T) M9) ∧ (HS w0 w ((Mo ++ Ms) ++ M9))) (j + 1) (v9') (T ++ [4503599627370496]) (M9') (w)) rfl rfl rfl ?_ ?_
                    · exact ⟨by omega, by simp [hTl], hT' _ (by rw [hls, if_neg hja, if_pos (.inr hneg)]), hb9', hs⟩
                    · omega
                  · refine W_seq ?_
                    refine W_seq ?_
                    refine W_region ?_
                    refine L_move rfl rfl ?_
                    refine L_move rfl rfl ?_
                    refine L_move rfl rfl ?_
                    refine L_len rfl Try.underlying22 rfl ?_
                    first | refine L_add rfl rfl rfl (wrp_i64 (by omega)) ?_ | refine L_add rfl rfl rfl rfl ?_
                    first | refine L_lss rfl rfl rfl (dtrue (by omega)) ?_ | refine L_lss rfl rfl rfl (dfalse (by omega)) ?_ | refine L_lss rfl rfl rfl rfl ?_
                    refine RL_then ?_
                    refine W_if_true rfl ?_
                    refine W_skip' ?_
                    refine Nx_then ?_
                    refine W_seq ?_
                    refine W_block ?_
                    refine W_seq ?_
                    refine W_region ?_
                    refine L_assign rfl rfl ?_
                    refine RL_then ?_
                    refine W_seq ?_
                    refine W_seq ?_
                    refine W_region ?_
                    refine L_move rfl rfl ?_
                    refine L_move rfl rfl ?_
                    first | refine L_lss rfl rfl rfl (dtrue (by omega)) ?_ | refine L_lss rfl rfl rfl (dfalse (by omega)) ?_ | refine L_lss rfl rfl rfl rfl ?_
                    refine L_move rfl rfl ?_
                    first | (refine RL_want rfl rfl ?_; refine L_move rfl rfl ?_) | refine RL_skip rfl rfl rfl rfl ?_ | refine RL_skipU rfl rfl rfl ?_
                    first | (refine RL_want rfl rfl ?_; refine L_move rfl rfl ?_) | refine RL_skip rfl rfl rfl rfl ?_ | refine RL_skipU rfl rfl rfl ?_
                    first | (refine RL_want rfl rfl ?_; refine L_idx1 rfl Try.underlying22 Try.ti38 rfl rfl (by with_reducible first | exact natc_k _ | exact natc_a1 _ | exact natc_0 | exact natc_1 | exact natc_2 | exact natc_s1 _ (by omega) | exact natc_a2 _ | exact natc_add _ _ | exact natc_mul _ _ | exact natc (by omega)) (by omega) (by first | rfl | exact hr.sl.ao (by omega) | exact g4.ao (by rw [il_length]; omega)) ?_) | refine RL_skip rfl rfl rfl rfl ?_ | refine RL_skipU rfl rfl rfl ?_
                    first | (refine RL_want rfl rfl ?_; refine L_load rfl Try.one38 rfl (by first | exact (hr.sl.old hs (hOos.app hb9.own)).get g1 | exact (g4.old hs (hOos.app hb9.own)).get (il_get (by omega))) ?_) | refine RL_skip rfl rfl rfl rfl ?_ | refine RL_skipU rfl rfl rfl ?_
                    first | (refine RL_want rfl rfl ?_; refine L_move rfl rfl ?_) | refine RL_skip rfl rfl rfl rfl ?_ | refine RL_skipU rfl rfl rfl ?_
                    first | (refine RL_want rfl rfl ?_; refine L_idx1 rfl Try.underlying38 Try.ti2 rfl rfl (by with_reducible first | exact natc_k _ | exact natc_a1 _ | exact natc_0 | exact natc_1 | exact natc_2 | exact natc_s1 _ (by omega) | exact natc_a2 _ | exact natc_add _ _ | exact natc_mul _ _ | exact natc (by omega)) (by omega) (by first | rfl | exact hr.sl.ao (by omega) | exact g4.ao (by rw [il_length]; omega)) ?_) | refine RL_skip rfl rfl rfl rfl ?_ | refine RL_skipU rfl rfl rfl ?_
                    first | (refine RL_want rfl rfl ?_; refine L_load rfl Try.one2 rfl (by first | exact (hr.sl.old hs (hOos.app hb9.own)).get g1 | exact (g4.old hs (hOos.app hb9.own)).get (il_get (by omega))) ?_) | refine RL_skip rfl rfl rfl rfl ?_ | refine RL_skipU rfl rfl rfl ?_
                    first | (refine RL_want rfl rfl ?_; (first | refine L_geq rfl rfl rfl (dtrue (by omega)) ?_ | refine L_geq rfl rfl rfl (dfalse (by omega)) ?_ | refine L_geq rfl rfl rfl rfl ?_)) | refine RL_skip rfl rfl rfl rfl ?_ | refine RL_skipU rfl rfl rfl ?_
                    first | refine L_pick_t rfl rfl rfl ?_ | refine L_pick_f rfl rfl rfl ?_
                    refine RL_then ?_
                    refine W_if_true rfl ?_
                    refine W_region ?_
                    refine L_move rfl rfl ?_
                    refine L_move rfl rfl ?_
                    refine L_idx1 rfl Try.underlying22 Try.ti38 rfl rfl (by with_reducible first | exact natc_k _ | exact natc_a1 _ | exact natc_0 | exact natc_1 | exact natc_2 | exact natc_s1 _ (by omega) | exact natc_a2 _ | exact natc_add _ _ | exact natc_mul _ _ | exact natc (by omega)) (by omega) (by first | rfl | exact hr.sl.ao (by omega) | exact g4.ao (by rw [il_length]; omega)) ?_
                    refine L_load rfl Try.one38 rfl (by first | exact (hr.sl.old hs (hOos.app hb9.own)).get g1 | exact (g4.old hs (hOos.app hb9.own)).get (il_get (by omega))) ?_
                    refine L_move rfl rfl ?_
                    refine L_idx1 rfl Try.underlying38 Try.ti2 rfl rfl (by with_reducible first | exact natc_k _ | exact natc_a1 _ | exact natc_0 | exact natc_1 | exact natc_2 | exact natc_s1 _ (by omega) | exact natc_a2 _ | exact natc_add _ _ | exact natc_mul _ _ | exact natc (by omega)) (by omega) (by first | rfl | exact hr.sl.ao (by omega) | exact g4.ao (by rw [il_length]; omega)) ?_
                    refine L_load rfl Try.one2 rfl (by first | exact (hr.sl.old hs (hOos.app hb9.own)).get g1 | exact (g4.old hs (hOos.app hb9.own)).get (il_get (by omega))) ?_
                    refine L_assign rfl rfl ?_
                    refine RL_then ?_
                    refine W_seq ?_
                    refine W_seq ?_
                    refine W_region ?_
                    refine L_move rfl rfl ?_
                    refine L_move rfl rfl ?_
                    refine L_move rfl rfl ?_
                    first | refine L_add rfl rfl rfl (wrp_i64 (by omega)) ?_ | refine L_add rfl rfl rfl rfl ?_
                    first | refine L_eql rfl rfl rfl (dtrue (by omega)) ?_ | refine L_eql rfl rfl rfl (dfalse (by omega)) ?_ | refine L_eql rfl rfl rfl rfl ?_
                    refine RL_then ?_
                    refine W_if_false rfl ?_
                    refine W_skip' ?_
                    refine Nx_then ?_
                    refine W_region ?_
                    refine L_move rfl rfl ?_
                    refine L_move rfl rfl ?_
                    refine L_buildSlice1 rfl hs Try.underlying38 Try.ti2 rfl (by decide) rfl rfl ?_
                    intro b72 w hb72 hnb72 hs
                    simp only [List.map_cons, List.map_nil] at hs
                    try dsimp only [List.set_cons_succ, List.set_cons_zero, List.cons_append, List.nil_append] at hs
                    refine L_appendT (L := Mo ++ Ms) (M := M9) rfl Try.underlying38 Try.ti2 rfl hs (by assumption) hb9 rfl rfl rfl (by simp [Value.oneCell']) (by omega) (by omega) ?_
                    intro v9' w M9' hs hb9'
                    rw [il_snoc] at hb9'
                    refine L_assign rfl rfl ?_
                    refine RL_nil' ?_
                    refine Nx_block ?_
                    refine Nx_then ?_
                    refine W_region ?_
                    refine L_move rfl rfl ?_
                    first | refine L_add rfl rfl rfl (wrp_i64 (by omega)) ?_ | refine L_add rfl rfl rfl rfl ?_
                    refine L_assign rfl rfl ?_
                    refine RL_nil' ?_
                    refine Nx_loopP (j + 1, v9', T ++ [(rows.getD i []).getD j 0], M9', w) (is := [0, 7, 8, 9, 10, 11]) (I' := (fun (j : Nat) (v9 : Value) (T : List Int) (M9 : List (Nat × Obj)) (w : World) => (j ≤ n) ∧ (T.length = j) ∧ (∀ z, z < j → gi T z = msC rows m i z) ∧ (Bl w0 2 1 v9 j (il T) M9) ∧ (HS w0 w ((Mo ++ Ms) ++ M9))) (j + 1) (v9') (T ++ [(rows.getD i []).getD j 0]) (M9') (w)) rfl rfl rfl ?_ ?_
                    · exact ⟨by omega, by simp [hTl], hT' _ (by rw [hls, if_neg hja, if_neg (fun h => by rcases h with h | h; omega; exact hneg h)]), hb9', hs⟩
                    · omega
            · have hjn : j = n := by omega
              rw [hjn] at hTl hT hb9
              obtain ⟨q9, c9, hv9, _⟩ := hb9.slice
              subst hv9
              replace hs : HS w0 w ((Ms ++ M9) ++ Mo) := hs.mem_perm (by rw [List.append_assoc]; exact List.perm_append_comm)
              refine W_seq ?_
              refine W_seq ?_
              refine W_region ?_
              refine L_move rfl rfl ?_
              refine L_move rfl rfl ?_
              refine L_move rfl rfl ?_
              refine L_len rfl Try.underlying22 rfl ?_
              first | refine L_add rfl rfl rfl (wrp_i64 (by omega)) ?_ | refine L_add rfl rfl rfl rfl ?_
              first | refine L_lss rfl rfl rfl (dtrue (by omega)) ?_ | refine L_lss rfl rfl rfl (dfalse (by omega)) ?_ | refine L_lss rfl rfl rfl rfl ?_
              refine RL_then ?_
              refine W_if_false rfl ?_
              refine W_exit' ?_
              refine Ex_then_exit ?_
              refine Ex_loop_exit ?_
              refine Ex_block_hit ?_
              refine Nx_then ?_
              refine W_region ?_
              refine L_move rfl rfl ?_
              refine L_move rfl rfl ?_
              refine L_buildSlice1 rfl hs Try.underlying22 Try.ti38 rfl (by decide) rfl rfl ?_
              intro b76 w hb76 hnb76 hs
              simp only [List.map_cons, List.map_nil] at hs
              try dsimp only [List.set_cons_succ, List.set_cons_zero, List.cons_append, List.nil_append] at hs
              refine L_appendT (L := Ms ++ M9) (M := Mo) rfl Try.underlying22 Try.ti38 rfl hs (by assumption) hbo rfl rfl rfl (by simp [Value.oneCell']) (by omega) (by omega) ?_
              intro v7' w Mo' hs hbo'
              have hp9 : pB w0 (.slice q9 n c9) T M9 := by show Bl _ _ _ _ _ _ _; rw [hTl]; exact hb9
              replace hs : HS w0 w (Mo' ++ (Ms ++ M9)) := hs.mem_perm List.perm_append_comm
              refine L_assign rfl rfl ?_
              refine RL_nil' ?_
              refine Nx_block ?_
              refine Nx_then ?_
              refine W_region ?_
              refine L_move rfl rfl ?_
              first | refine L_add rfl rfl rfl (wrp_i64 (by omega)) ?_ | refine L_add rfl rfl rfl rfl ?_
              refine L_assign rfl rfl ?_
              refine RL_nil' ?_
              refine Nx_loopP (i + 1, v7', vs ++ [.slice q9 n c9], rs ++ [T], Mo', Ms ++ M9, w) (is := [0, 7, 8, 9]) (I' := (fun (i : Nat) (v8 : Value) (vs : List Value) (rs : List (List Int)) (Mo : List (Nat × Obj)) (Ms : List (Nat × Obj)) (w : World) => (i ≤ k) ∧ (HS w0 w (Mo ++ Ms)) ∧ (Bl w0 38 1 v8 i vs Mo) ∧ (RB (pB w0) vs rs Ms) ∧ (rs.length = i) ∧ (∀ r, r < i → (rs.getD r []).length = n ∧ ∀ j, j < n → el rs r j = msC rows m r j)) (i + 1) (v7') (vs ++ [.slice q9 n c9]) (rs ++ [T]) (Mo') (Ms ++ M9) (w)) rfl rfl rfl ?_ ?_
              · refine ⟨by omega, hs, hbo', hrb.snoc hp9, by simp [hrl2], fun r hr => ?_⟩
                by_cases hri : r < i
                · have e : (rs ++ [T]).getD r [] = rs.getD r [] := by simp only [List.getD]; rw [List.getElem?_append_left (by omega)]
                  obtain ⟨h5, h6⟩ := hrs r hri
                  exact ⟨by rw [e]; exact h5, fun j hj => by show ((rs ++ [T]).getD r []).getD j 0 = _; rw [e]; exact h6 j hj⟩
                · obtain rfl : i = r := by omega
                  have e : (rs ++ [T]).getD i [] = T := by simp only [List.getD]; rw [List.getElem?_append_right (by omega), hrl2, Nat.sub_self]; rfl
                  exact ⟨by rw [e]; exact hTl, fun j hj => by show ((rs ++ [T]).getD i []).getD j 0 = _; rw [e]; exact hT j hj⟩
              · omega
        · have hki : i = k := by omega
          rw [hki] at hrl2 hrs hbo
          obtain ⟨a7, c7, hv8, hc7⟩ := hbo.slice
          subst hv8
          have hC' : ∀ r q, r < n → q < n → sqC rs r q = msC rows m r q := fun r q hr hq => by
            unfold sqC
            by_cases h5 : r < rs.length
            · rw [if_pos h5]; exact (hrs r (by omega)).2 q hq
            · unfold msC; rw [if_neg h5, if_neg (by omega)]
          have hCr : ∀ r q, r < n → q < n → 0 ≤ sqC rs r q ∧ sqC rs r q ≤ 4503599627370496 := fun r q hr hq => by
            rw [hC' r q hr hq]
            exact msC_rng hcel
          have hRI : RowsI w a7 rs vs := hrb.rowsI hs (hbo.slc (L := Ms) (hs.mem_perm List.perm_append_comm)) (fun i hi => by rw [(hrs i (by omega)).1]; omega)
          refine W_seq ?_
          refine W_seq ?_
          refine W_region ?_
          refine L_move rfl rfl ?_
          refine L_move rfl rfl ?_
          refine L_len rfl Try.underlying22 rfl ?_
          first | refine L_lss rfl rfl rfl (dtrue (by omega)) ?_ | refine L_lss rfl rfl rfl (dfalse (by omega)) ?_ | refine L_lss rfl rfl rfl rfl ?_
          refine RL_then ?_
          refine W_if_false rfl ?_
          refine W_exit' ?_
          refine Ex_then_exit ?_
          refine Ex_loop_exit ?_
          refine Ex_block_hit ?_
          refine Nx_then ?_
          refine W_seq ?_
          refine W_region ?_
          refine L_move rfl rfl ?_
          refine L_move rfl rfl ?_
          refine L_move rfl rfl ?_
          refine L_len rfl Try.underlying22 rfl ?_
          first | refine L_add rfl rfl rfl (wrp_i64 (by omega)) ?_ | refine L_add rfl rfl rfl rfl ?_
          rw [show ((m : Int) + (k : Int)) = ((n : Nat) : Int) by omega]
          refine L_call rfl Try.fun28 rfl (square_ok a7 k c7 n rs vs w hRI hrl2 (by omega) (by omega) (fun i hi => (hrs i hi).1) hCr) ?_
          rintro _ w2 ⟨y, U, V, M, R, rfl, hs2, hOy, hrd, hUl, hVl, hMl, hRl, hSq, hMa, hbU, hbV⟩
          have hsz := hs.size
          replace hs := hs.call hs2 hOy
          replace hs : HS w0 w2 (y.L U V M R ++ (Mo ++ Ms)) := hs.mem_perm List.perm_append_comm
          have hOy0 := hOy.le hsz
          clear hs2 hOy hsz
          obtain ⟨hPf, hhr⟩ := hSq.pf (has := gi M) (fun j hj => hMa.inv j hj (hSq.all j hj).1)
          have hM : InR n M := ⟨hMl, hhr⟩
          have hR : InR n R := ⟨hRl, hSq.all⟩
          refine L_assign rfl rfl ?_
          refine RL_then ?_
          refine W_seq ?_
          refine W_region ?_
          refine L_move rfl rfl ?_
          refine L_move rfl rfl ?_
          refine L_len rfl Try.underlying22 rfl ?_
          refine L_call rfl Try.fun29 rfl (rfirst_ok y n k (sqC rs) U V M R w2 (by omega) (by omega) hrd (HS.named (fun p hp => hs.has p (List.mem_append_left _ hp)) (by have := hs.nodup; rw [List.map_append, List.nodup_append] at this; exact this.1)) hUl hVl hM hR hbU hbV hPf) ?_
          rintro _ w3 ⟨M', R', hs3, hM', hR', hPf', hLM⟩
          have hBest : Best n k (msC rows m) (toN M') := Best.congr (hPf'.best hLM) hC'
          have hreal : ∀ q, q < k → (toN M' q < m → 0 ≤ el rows q (toN M' q)) ∧ (m ≤ toN M' q → toN M' q = m + q) := fun q hq => most_real (rows := rows) (n := m) hcel (m := k) (by rw [hk, ← hn]; exact hBest) (by omega)
          have hs0 := hs
          obtain hs : HS w2 w3 (y.L U V M' R' ++ []) := by rw [List.append_nil]; exact hs3
          have hfin : ∀ {w : World} {N : List (Nat × Obj)}, HS w2 w (y.L U V M' R' ++ N) → Own w2 N → HS w0 w N := fun {w N} h hN => by
            have h1 := hs0.callU (A := y.L U V M R) (U := y.L U V M' R') (L2 := Mo ++ Ms) (N := N) rfl h hN
            exact HS.dropL h1 ((Ly.own hOy0).app hOos)
          have hhl := hM'.len
          clear hPf' hLM hPf hR' hs3 hSq hMa hhr
          refine RL_then ?_
          refine W_seq ?_
          refine W_region ?_
          refine L_assign rfl rfl ?_
          refine RL_then ?_
          refine W_seq ?_
          refine W_region ?_
          refine L_assign rfl rfl ?_
          refine RL_then ?_
          refine W_seq ?_
          refine W_region ?_
          refine L_assign rfl rfl ?_
          refine RL_then ?_
          refine W_seq ?_
          refine W_seq ?_
          refine W_region ?_
          refine L_assign rfl rfl ?_
          refine RL_then ?_
          refine W_block ?_
          refine W_loop7 (fun (i : Nat) (v1 : Value) (ms : List Int) (N : List (Nat × Obj)) (cnt : Int) (t : Int) (w : World) => [(0, .slice a k cp), (7, .int .i64 m), (13, .pointer (some ⟨y.B, 0, none⟩)), (14, v1), (15, .int .i64 cnt), (16, .int .i64 t), (17, .int .i64 i)]) (fun (i : Nat) (v1 : Value) (ms : List Int) (N : List (Nat × Obj)) (cnt : Int) (t : Int) (w : World) => w) (fun (i : Nat) (v1 : Value) (ms : List Int) (N : List (Nat × Obj)) (cnt : Int) (t : Int) (w : World) => (i ≤ k) ∧ (ms = (List.range i).map (fun q => if toN M' q < m then (toN M' q : Int) else -1)) ∧ (cnt = tot i (fun q => if toN M' q < m then 1 else 0)) ∧ (t = tot i (fun q => if toN M' q < m then el rows q (toN M' q) else 0)) ∧ (0 ≤ t ∧ t ≤ i * 1099511627776) ∧ (0 ≤ cnt ∧ cnt ≤ i) ∧ (Bl w2 3 1 v1 i (il ms) N) ∧ (HS w2 w (y.L U V M' R' ++ N))) (fun (i : Nat) (v1 : Value) (ms : List Int) (N : List (Nat × Obj)) (cnt : Int) (t : Int) (w : World) => k - i) (0) (.slice none 0 0) ([]) ([]) (0) (0) (w3) (is := [0, 7, 13, 14, 15, 16, 17]) rfl rfl ?_ ?_
          · exact ⟨Nat.zero_le _, rfl, rfl, rfl, ⟨by omega, by omega⟩, ⟨by omega, by omega⟩, Bl.nil, hs⟩
          · clear hs hki
            intro i v1 ms N cnt t w hI
            show W _ _ _ _ [(0, .slice a k cp), (7, .int .i64 m), (13, .pointer (some ⟨y.B, 0, none⟩)), (14, v1), (15, .int .i64 cnt), (16, .int .i64 t), (17, .int .i64 i)] w
            obtain ⟨hi, hms, hcnt, ht, htb, hcb, hbl, hs⟩ := hI
            have hsz0 := hs0.size
            by_cases hlt : i < k
            · have hin : i < n := by omega
              obtain ⟨ai, ci, g1, g2, g3, g4⟩ := hr.row i (by omega)
              have hwi : (rows.getD i []).length = m := by rw [hm]; exact hF.same i (by omega)
              rw [hwi] at g1 g2 g3
              obtain ⟨hje, hjn⟩ := hM'.nat hin
              have hreali := hreal i hlt
              obtain ⟨j, hj⟩ : ∃ j, j = toN M' i := ⟨_, rfl⟩
              rw [← hj] at hje hjn hreali
              refine W_seq ?_
              refine W_seq ?_
              refine W_region ?_
              refine L_move rfl rfl ?_
              refine L_move rfl rfl ?_
              refine L_len rfl Try.underlying22 rfl ?_
              first | refine L_lss rfl rfl rfl (dtrue (by omega)) ?_ | refine L_lss rfl rfl rfl (dfalse (by omega)) ?_ | refine L_lss rfl rfl rfl rfl ?_
              refine RL_then ?_
              refine W_if_true rfl ?_
              refine W_skip' ?_
              refine Nx_then ?_
              refine W_seq ?_
              refine W_block ?_
              refine W_seq ?_
              refine W_region ?_
              refine L_move rfl rfl ?_
              refine L_nilCheck rfl rfl ?_
              refine L_fieldAddr rfl (off := 4) Try.underlying56 rfl rfl Try.ti25 rfl ?_
              refine L_load rfl Try.one25 rfl (by first | exact RdS.at hs hbl.own (hrd.bx rfl) hrd.nb | exact hs.cellA (i := 2) rfl (il_get' (by omega)) | exact (hr.sl.old (hfin hs hbl.own) (hbl.own.le hsz0)).get g1 | exact (g4.old (hfin hs hbl.own) (hbl.own.le hsz0)).get (il_get (by omega))) ?_
              refine L_move rfl rfl ?_
              refine L_idx1 rfl Try.underlying25 Try.ti3 rfl rfl (by with_reducible first | exact natc_k _ | exact natc_a1 _ | exact natc_0 | exact natc_1 | exact natc_2 | exact natc_s1 _ (by omega) | exact natc_a2 _ | exact natc_add _ _ | exact natc_mul _ _ | exact natc (by omega)) (by omega) (by first | rfl | exact hr.sl.ao (by omega) | exact g4.ao (by rw [il_length]; omega)) ?_
              refine L_load rfl Try.one3 rfl (by first | exact RdS.at hs hbl.own (hrd.bx rfl) hrd.nb | exact hs.cellA (i := 2) rfl (il_get' (by omega)) | exact (hr.sl.old (hfin hs hbl.own) (hbl.own.le hsz0)).get g1 | exact (g4.old (hfin hs hbl.own) (hbl.own.le hsz0)).get (il_get (by omega))) ?_
              refine L_assign rfl rfl ?_
              refine RL_then ?_
              refine W_seq ?_
              refine W_seq ?_
              refine W_region ?_
              rw [hje]
              by_cases hjm : m ≤ j
              · refine L_move rfl rfl ?_
                refine L_move rfl rfl ?_
                first | refine L_geq rfl rfl rfl (dtrue (by omega)) ?_ | refine L_geq rfl rfl rfl (dfalse (by omega)) ?_ | refine L_geq rfl rfl rfl rfl ?_
                refine RL_then ?_
                refine W_if_true rfl ?_
                refine W_seq ?_
                refine W_region ?_
                refine L_move rfl rfl ?_
                refine L_buildSlice1 rfl hs Try.underlying25 Try.ti3 rfl (by decide) rfl rfl ?_
                intro b105 w hb105 hnb105 hs
                simp only [List.map_cons, List.map_nil] at hs
                try dsimp only [List.set_cons_succ, List.set_cons_zero, List.cons_append, List.nil_append] at hs
                refine L_appendT rfl Try.underlying25 Try.ti3 rfl (L := y.L U V M' R') hs (by assumption) hbl rfl rfl rfl (by simp [Value.oneCell'] ) (by omega) (by omega) ?_
                intro v106 w M106 hs hbl
                refine L_assign rfl rfl ?_
                refine RL_then ?_
                refine W_exit' ?_
                refine Ex_then_exit ?_
                refine Ex_block_hit ?_
                refine Nx_then ?_
                refine W_region ?_
                refine L_move rfl rfl ?_
                first | refine L_add rfl rfl rfl (wrp_i64 (by omega)) ?_ | refine L_add rfl rfl rfl rfl ?_
                refine L_assign rfl rfl ?_
                refine RL_nil' ?_
                rw [show il ms ++ [Value.int IntKind.i64 (-1)] = il (ms ++ [-1]) from il_snoc ms (-1)] at hbl
                refine Nx_loopP (i + 1, v106, ms ++ [-1], M106, cnt, t, _) (is := [0, 7, 13, 14, 15, 16, 17]) (I' := (fun (i : Nat) (v1 : Value) (ms : List Int) (N : List (Nat × Obj)) (cnt : Int) (t : Int) (w : World) => (i ≤ k) ∧ (ms = (List.range i).map (fun q => if toN M' q < m then (toN M' q : Int) else -1)) ∧ (cnt = tot i (fun q => if toN M' q < m then 1 else 0)) ∧ (t = tot i (fun q => if toN M' q < m then el rows q (toN M' q) else 0)) ∧ (0 ≤ t ∧ t ≤ i * 1099511627776) ∧ (0 ≤ cnt ∧ cnt ≤ i) ∧ (Bl w2 3 1 v1 i (il ms) N) ∧ (HS w2 w (y.L U V M' R' ++ N))) (i + 1) (v106) (ms ++ [-1]) (M106) (cnt) (t) (_)) rfl rfl rfl ?_ ?_
                · refine ⟨by omega, by rw [List.range_succ, List.map_append, ← hms, List.map_cons, List.map_nil, ← hj, if_neg (by omega)], ?_, ?_, ⟨by omega, by omega⟩, ⟨by omega, by omega⟩, hbl, hs⟩
                  · rw [hcnt]; simp only [tot]; rw [← hj, if_neg (by omega)]; omega
                  · rw [ht]; simp only [tot]; rw [← hj, if_neg (by omega)]; omega
                · omega
              · have hel : (rows.getD i []).getD j 0 ≤ 1099511627776 := hcel i j (by omega) (by omega)
                have hel0 : 0 ≤ (rows.getD i []).getD j 0 := hreali.1 (by omega)
                refine L_move rfl rfl ?_
                refine L_move rfl rfl ?_
                first | refine L_geq rfl rfl rfl (dtrue (by omega)) ?_ | refine L_geq rfl rfl rfl (dfalse (by omega)) ?_ | refine L_geq rfl rfl rfl rfl ?_
                refine RL_then ?_
                refine W_if_false rfl ?_
                refine W_skip' ?_
                refine Nx_then ?_
                refine W_seq ?_
                refine W_region ?_
                refine L_move rfl rfl ?_
                refine L_move rfl rfl ?_
                refine L_buildSlice1 rfl hs Try.underlying25 Try.ti3 rfl (by decide) rfl rfl ?_
                intro b109 w hb109 hnb109 hs
                simp only [List.map_cons, List.map_nil] at hs
                try dsimp only [List.set_cons_succ, List.set_cons_zero, List.cons_append, List.nil_append] at hs
                refine L_appendT rfl Try.underlying25 Try.ti3 rfl (L := y.L U V M' R') hs (by assumption) hbl rfl rfl rfl (by simp [Value.oneCell'] ) (by omega) (by omega) ?_
                intro v110 w M110 hs hbl
                refine L_assign rfl rfl ?_
                refine RL_then ?_
                refine W_seq ?_
                refine W_region ?_
                refine L_move rfl rfl ?_
                first | refine L_add rfl rfl rfl (wrp_i64 (by omega)) ?_ | refine L_add rfl rfl rfl rfl ?_
                refine L_assign rfl rfl ?_
                refine RL_then ?_
                refine W_region ?_
                refine L_move rfl rfl ?_
                refine L_move rfl rfl ?_
                refine L_move rfl rfl ?_
                refine L_idx1 rfl Try.underlying22 Try.ti38 rfl rfl (by with_reducible first | exact natc_k _ | exact natc_a1 _ | exact natc_0 | exact natc_1 | exact natc_2 | exact natc_s1 _ (by omega) | exact natc_a2 _ | exact natc_add _ _ | exact natc_mul _ _ | exact natc (by omega)) (by omega) (by first | rfl | exact hr.sl.ao (by omega) | exact g4.ao (by rw [il_length]; omega)) ?_
                refine L_load rfl Try.one38 rfl (by first | exact RdS.at hs hbl.own (hrd.bx rfl) hrd.nb | exact hs.cellA (i := 2) rfl (il_get' (by omega)) | exact (hr.sl.old (hfin hs hbl.own) (hbl.own.le hsz0)).get g1 | exact (g4.old (hfin hs hbl.own) (hbl.own.le hsz0)).get (il_get (by omega))) ?_
                refine L_move rfl rfl ?_
                refine L_idx1 rfl Try.underlying38 Try.ti2 rfl rfl (by with_reducible first | exact natc_k _ | exact natc_a1 _ | exact natc_0 | exact natc_1 | exact natc_2 | exact natc_s1 _ (by omega) | exact natc_a2 _ | exact natc_add _ _ | exact natc_mul _ _ | exact natc (by omega)) (by omega) (by first | rfl | exact hr.sl.ao (by omega) | exact g4.ao (by rw [il_length]; omega)) ?_
                refine L_load rfl Try.one2 rfl (by first | exact RdS.at hs hbl.own (hrd.bx rfl) hrd.nb | exact hs.cellA (i := 2) rfl (il_get' (by omega)) | exact (hr.sl.old (hfin hs hbl.own) (hbl.own.le hsz0)).get g1 | exact (g4.old (hfin hs hbl.own) (hbl.own.le hsz0)).get (il_get (by omega))) ?_
                first | refine L_add rfl rfl rfl (wrp_i64 (by omega)) ?_ | refine L_add rfl rfl rfl rfl ?_
                refine L_assign rfl rfl ?_
                refine RL_nil' ?_
                refine Nx_block ?_
                refine Nx_then ?_
                refine W_region ?_
                refine L_move rfl rfl ?_
                first | refine L_add rfl rfl rfl (wrp_i64 (by omega)) ?_ | refine L_add rfl rfl rfl rfl ?_
                refine L_assign rfl rfl ?_
                refine RL_nil' ?_
                rw [il_snoc] at hbl
                refine Nx_loopP (i + 1, v110, ms ++ [(j : Int)], M110, cnt + 1, t + (rows.getD i []).getD j 0, _) (is := [0, 7, 13, 14, 15, 16, 17]) (I' := (fun (i : Nat) (v1 : Value) (ms : List Int) (N : List (Nat × Obj)) (cnt : Int) (t : Int) (w : World) => (i ≤ k) ∧ (ms = (List.range i).map (fun q => if toN M' q < m then (toN M' q : Int) else -1)) ∧ (cnt = tot i (fun q => if toN M' q < m then 1 else 0)) ∧ (t = tot i (fun q => if toN M' q < m then el rows q (toN M' q) else 0)) ∧ (0 ≤ t ∧ t ≤ i * 1099511627776) ∧ (0 ≤ cnt ∧ cnt ≤ i) ∧ (Bl w2 3 1 v1 i (il ms) N) ∧ (HS w2 w (y.L U V M' R' ++ N))) (i + 1) (v110) (ms ++ [(j : Int)]) (M110) (cnt + 1) (t + (rows.getD i []).getD j 0) (_)) rfl rfl rfl ?_ ?_
                · refine ⟨by omega, by rw [List.range_succ, List.map_append, ← hms, List.map_cons, List.map_nil, ← hj, if_pos (by omega)], ?_, ?_, ⟨by omega, by omega⟩, ⟨by omega, by omega⟩, hbl, hs⟩
                  · rw [hcnt]; simp only [tot]; rw [← hj, if_pos (by omega)]
                  · rw [ht]; simp only [tot]; rw [← hj, if_pos (by omega)]
                · omega
            · obtain rfl : k = i := by omega
              refine W_seq ?_
              refine W_seq ?_
              refine W_region ?_
              refine L_move rfl rfl ?_
              refine L_move rfl rfl ?_
              refine L_len rfl Try.underlying22 rfl ?_
              first | refine L_lss rfl rfl rfl (dtrue (by omega)) ?_ | refine L_lss rfl rfl rfl (dfalse (by omega)) ?_ | refine L_lss rfl rfl rfl rfl ?_
              refine RL_then ?_
              refine W_if_false rfl ?_
              refine W_exit' ?_
              refine Ex_then_exit ?_
              refine Ex_loop_exit ?_
              refine Ex_block_hit ?_
              refine Nx_then ?_
              refine W_seq ?_
              refine W_region ?_
              refine L_move rfl rfl ?_
              refine L_move rfl rfl ?_
              refine L_move rfl rfl ?_
              refine L_assign rfl rfl ?_
              refine L_assign rfl rfl ?_
              refine L_assign rfl rfl ?_
              refine L_assign rfl rfl ?_
              refine RL_then ?_
              refine W_ret' ?_
              refine Ex_done4 rfl rfl rfl rfl rfl ?_
              have hml : ms.length = k := by rw [hms]; simp
              refine ⟨_, rfl, v1, N, ms, cnt, t, 0, rfl, hfin hs hbl.own, by rw [hml]; exact hbl.mono hs0.size, .inr ⟨he0, by omega, toN M', ?_, ?_, ?_, ?_, rfl⟩⟩
              · rw [show wid rows 0 = m from hm.symm, hk, ← hn]; exact hBest
              · rw [show wid rows 0 = m from hm.symm, hk]; exact hms
              · rw [show wid rows 0 = m from hm.symm, hk]; exact hcnt
              · rw [show wid rows 0 = m from hm.symm, hk]; exact ht
end Go.Proofs.Ytcfdmenmlemahaa
