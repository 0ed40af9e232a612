/-
  A part of the proof: what functions that the statement reaches do, or a plain law on what they do. Each theorem holds under its own premises alone.
-/
import Derived.Test.YtcfdmenmlemahaaTRJ
namespace Go.Proofs.Ytcfdmenmlemahaa
open Go Go.Lk Go.Pr
theorem Ly.own {w0 : World} {y : Ly} {U V M R U' V' M' R' : List Int} (h : Own w0 (y.L U V M R)) : Own w0 (y.L U' V' M' R') :=
  Own.cons (h (y.u, Row 2 (il U ++ y.su)) (by simp)) (Own.cons (h (y.v, Row 2 (il V ++ y.sv)) (by simp)) (Own.cons (h (y.m, Row 3 (il M ++ y.sm)) (by simp)) (Own.cons (h (y.o, Row 3 (il R ++ y.so)) (by simp)) Own.nil)))
set_option maxHeartbeats 16000000 in
theorem rleast_ok (a : Option Addr) (k cp : Nat) (rows : List (List Int)) (rvs : List Value) (w0 : World) (hr : RowsI w0 a rows rvs) (hk : rows.length = k) (hk63 : k ≤ 17592186043904) :
    Ret Try.prog 16 [.slice a k cp] w0 fun v w' => ∃ v1 N ms t e, v = .tuple #[v1, .int .i64 t, .int .i64 e] ∧ HS w0 w' N ∧ Bl w0 3 1 v1 ms.length (il ms) N ∧ LeastAns rows ms t e := by
  refine Ret.start fun w hs => ?_
  have hrl := hr.len
  refine calls_of_W Try.func16 rfl rfl rfl ?_
  refine W_seq ?_
  refine W_region ?_
  refine L_assign rfl rfl ?_
  refine L_assign rfl rfl ?_
  refine L_assign rfl rfl ?_
  refine RL_then ?_
  refine W_seq ?_
  refine W_region ?_
  refine L_move rfl rfl ?_
  refine L_call rfl Try.fun27 rfl (rcheck_ok a k cp rows rvs w (hr.old hs Own.nil) hk hk63) ?_
  rintro _ w1 ⟨rfl, hs'⟩
  replace hs := hs.nil hs'
  clear hs'
  by_cases he0 : chk rows ≠ 0
  · refine L_assign rfl rfl ?_
    refine RL_then ?_
    refine W_seq ?_
    refine W_seq ?_
    refine W_region ?_
    refine L_move rfl rfl ?_
    first | refine L_neq rfl rfl rfl (dtrue (by omega)) ?_ | refine L_neq rfl rfl rfl (dfalse (by omega)) ?_ | refine L_neq rfl rfl rfl rfl ?_
    refine RL_then ?_
    refine W_if_true rfl ?_
    refine W_seq ?_
    refine W_region ?_
    refine L_move rfl rfl ?_
    refine L_assign rfl rfl ?_
    refine L_assign rfl rfl ?_
    refine L_assign rfl rfl ?_
    refine RL_then ?_
    refine W_ret' ?_
    refine Ex_then_ret ?_
    refine Ex_done3 rfl rfl rfl rfl ?_
    exact ⟨_, rfl, _, [], [], _, _, rfl, hs, Bl.nil, .inl ⟨.inl he0, rfl, rfl, rfl⟩⟩
  · rw [Classical.not_not] at he0
    rw [he0]
    by_cases hk0 : k = 0
    · refine L_assign rfl rfl ?_
      refine RL_then ?_
      refine W_seq ?_
      refine W_seq ?_
      refine W_region ?_
      refine L_move rfl rfl ?_
      first | refine L_neq rfl rfl rfl (dtrue (by omega)) ?_ | refine L_neq rfl rfl rfl (dfalse (by omega)) ?_ | refine L_neq rfl rfl rfl rfl ?_
      refine RL_then ?_
      refine W_if_false rfl ?_
      refine W_skip' ?_
      refine Nx_then ?_
      refine W_seq ?_
      refine W_seq ?_
      refine W_region ?_
      refine L_move rfl rfl ?_
      refine L_len rfl Try.underlying22 rfl ?_
      first | refine L_eql rfl rfl rfl (dtrue (by omega)) ?_ | refine L_eql rfl rfl rfl (dfalse (by omega)) ?_ | refine L_eql rfl rfl rfl rfl ?_
      refine RL_then ?_
      refine W_if_true rfl ?_
      refine W_seq ?_
      refine W_region ?_
      refine L_assign rfl rfl ?_
      refine L_assign rfl rfl ?_
      refine L_assign rfl rfl ?_
      refine RL_then ?_
      refine W_ret' ?_
      refine Ex_then_ret ?_
      refine Ex_done3 rfl rfl rfl rfl ?_
      exact ⟨_, rfl, _, [], [], _, _, rfl, hs, Bl.nil, .inl ⟨.inr (by omega), rfl, rfl, he0.symm⟩⟩
    · have hF := fine_of_chk he0
      obtain ⟨a0, c0, k1, k2, k3, k4⟩ := hr.row 0 (by omega)
      obtain ⟨n, hn⟩ : ∃ n, n = (rows.getD 0 []).length := ⟨_, rfl⟩
      have hn256 : n ≤ 256 := by rw [hn]; exact hF.wid 0 (by omega)
      have hk256 := hF.len
      rw [← hn] at k1 k2 k3
      refine L_assign rfl rfl ?_
      refine RL_then ?_
      refine W_seq ?_
      refine W_seq ?_
      refine W_region ?_
      refine L_move rfl rfl ?_
      first | refine L_neq rfl rfl rfl (dtrue (by omega)) ?_ | refine L_neq rfl rfl rfl (dfalse (by omega)) ?_ | refine L_neq rfl rfl rfl rfl ?_
      refine RL_then ?_
      refine W_if_false rfl ?_
      refine W_skip' ?_
      refine Nx_then ?_
      refine W_seq ?_
      refine W_seq ?_
      refine W_region ?_
      refine L_move rfl rfl ?_
      refine L_len rfl Try.underlying22 rfl ?_
      first | refine L_eql rfl rfl rfl (dtrue (by omega)) ?_ | refine L_eql rfl rfl rfl (dfalse (by omega)) ?_ | refine L_eql rfl rfl rfl rfl ?_
      refine RL_then ?_
      refine W_if_false rfl ?_
      refine W_skip' ?_
      refine Nx_then ?_
      refine W_seq ?_
      refine W_region ?_
      refine L_move rfl rfl ?_
      refine L_idx1 rfl Try.underlying22 Try.ti38 rfl rfl natc_0 (by omega) (hr.sl.ao (by omega)) ?_
      skip
      refine L_load rfl Try.one38 rfl ((hr.sl.old hs Own.nil).get k1) ?_
      by_cases hnk : n < k
      · refine L_len rfl Try.underlying38 rfl ?_
        refine L_assign rfl rfl ?_
        refine RL_then ?_
        refine W_seq ?_
        refine W_seq ?_
        refine W_region ?_
        refine L_move rfl rfl ?_
        refine L_move rfl rfl ?_
        refine L_len rfl Try.underlying22 rfl ?_
        first | refine L_lss rfl rfl rfl (dtrue (by omega)) ?_ | refine L_lss rfl rfl rfl (dfalse (by omega)) ?_ | refine L_lss rfl rfl rfl rfl ?_
        refine RL_then ?_
        refine W_if_true rfl ?_
        refine W_seq ?_
        refine W_region ?_
        refine L_assign rfl rfl ?_
        refine L_assign rfl rfl ?_
        refine L_assign rfl rfl ?_
        refine RL_then ?_
        refine W_ret' ?_
        refine Ex_then_ret ?_
        refine Ex_done3 rfl rfl rfl rfl ?_
        exact ⟨_, rfl, _, [], [], _, _, rfl, hs, Bl.nil, .inr (.inl ⟨he0, by omega, by show (rows.getD 0 []).length < _; omega, rfl, rfl, rfl⟩)⟩
      · refine L_len rfl Try.underlying38 rfl ?_
        refine L_assign rfl rfl ?_
        refine RL_then ?_
        refine W_seq ?_
        refine W_seq ?_
        refine W_region ?_
        refine L_move rfl rfl ?_
        refine L_move rfl rfl ?_
        refine L_len rfl Try.underlying22 rfl ?_
        first | refine L_lss rfl rfl rfl (dtrue (by omega)) ?_ | refine L_lss rfl rfl rfl (dfalse (by omega)) ?_ | refine L_lss rfl rfl rfl rfl ?_
        refine RL_then ?_
        refine W_if_false rfl ?_
        refine W_skip' ?_
        refine Nx_then ?_
        refine W_seq ?_
        refine W_region ?_
        refine L_assign rfl rfl ?_
        refine RL_then ?_
        refine W_seq ?_
        refine W_seq ?_
        refine W_region ?_
        refine L_assign rfl rfl ?_
        refine RL_then ?_
        refine W_block ?_
        refine W_loop7 (fun (i : Nat) (v7 : Value) (vs : List Value) (rs : List (List Int)) (Mo : List (Nat × Obj)) (Ms : List (Nat × Obj)) (w : World) => [(0, .slice a k cp), (6, .int .i64 n), (7, v7), (8, .int .i64 i)]) (fun (i : Nat) (v7 : Value) (vs : List Value) (rs : List (List Int)) (Mo : List (Nat × Obj)) (Ms : List (Nat × Obj)) (w : World) => w) (fun (i : Nat) (v7 : Value) (vs : List Value) (rs : List (List Int)) (Mo : List (Nat × Obj)) (Ms : List (Nat × Obj)) (w : World) => (i ≤ k) ∧ (HS w0 w (Mo ++ Ms)) ∧ (Bl w0 38 1 v7 i vs Mo) ∧ (RB (pB w0) vs rs Ms) ∧ (rs.length = i) ∧ (∀ r, r < i → (rs.getD r []).length = n ∧ ∀ j, j < n → el rs r j = lsC rows r j)) (fun (i : Nat) (v7 : Value) (vs : List Value) (rs : List (List Int)) (Mo : List (Nat × Obj)) (Ms : List (Nat × Obj)) (w : World) => k - i) (0) (.slice none 0 0) ([]) ([]) ([]) ([]) (w1) (is := [0, 6, 7, 8]) rfl rfl ?_ ?_
        · exact ⟨Nat.zero_le _, hs, Bl.nil, .nil, rfl, fun _ h => absurd h (Nat.not_lt_zero _)⟩
        · clear hs
          intro i v7 vs rs Mo Ms w hI
          show W _ _ _ _ [(0, .slice a k cp), (6, .int .i64 n), (7, v7), (8, .int .i64 i)] w
          obtain ⟨hi, hs, hbo, hrb, hrl2, hrs⟩ := hI
          have hOos : Own w0 (Mo ++ Ms) := hbo.own.app hrb.own
          by_cases hlt : i < k
          · obtain ⟨ai, ci, g1, g2, g3, g4⟩ := hr.row i (by omega)
            have hwi : (rows.getD i []).length = n := by rw [hn]; exact hF.same i (by omega)
            rw [hwi] at g1 g2 g3
            refine W_seq ?_
            refine W_seq ?_
            refine W_region ?_
            refine L_move rfl rfl ?_
            refine L_move rfl rfl ?_
            refine L_len rfl Try.underlying22 rfl ?_
            first | refine L_lss rfl rfl rfl (dtrue (by omega)) ?_ | refine L_lss rfl rfl rfl (dfalse (by omega)) ?_ | refine L_lss rfl rfl rfl rfl ?_
            refine RL_then ?_
            refine W_if_true rfl ?_
            refine W_skip' ?_
            refine Nx_then ?_
            refine W_seq ?_
            refine W_block ?_
            refine W_seq ?_
            refine W_region ?_
            refine L_assign rfl rfl ?_
            refine RL_then ?_
            refine W_seq ?_
            refine W_seq ?_
            refine W_region ?_
            refine L_assign rfl rfl ?_
            refine RL_then ?_
            refine W_block ?_
            refine W_loop5 (fun (j : Nat) (v9 : Value) (T : List Int) (M9 : List (Nat × Obj)) (w : World) => [(0, .slice a k cp), (6, .int .i64 n), (7, v7), (8, .int .i64 i), (9, v9), (10, .int .i64 j)]) (fun (j : Nat) (v9 : Value) (T : List Int) (M9 : List (Nat × Obj)) (w : World) => w) (fun (j : Nat) (v9 : Value) (T : List Int) (M9 : List (Nat × Obj)) (w : World) => (j ≤ n) ∧ (T.length = j) ∧ (∀ z, z < j → gi T z = lsC rows i z) ∧ (Bl w0 2 1 v9 j (il T) M9) ∧ (HS w0 w ((Mo ++ Ms) ++ M9))) (fun (j : Nat) (v9 : Value) (T : List Int) (M9 : List (Nat × Obj)) (w : World) => n - j) (0) (.slice none 0 0) ([]) ([]) (w) (is := [0, 6, 7, 8, 9, 10]) rfl rfl ?_ ?_
            · exact ⟨Nat.zero_le _, rfl, fun _ h => absurd h (Nat.not_lt_zero _), Bl.nil, by simpa using hs⟩
            · clear hs
              intro j v9 T M9 w hI
              show W _ _ _ _ [(0, .slice a k cp), (6, .int .i64 n), (7, v7), (8, .int .i64 i), (9, v9), (10, .int .i64 j)] w
              obtain ⟨hj, hTl, hT, hb9, hs⟩ := hI
              by_cases hlt2 : j < n
              · have hls : lsC rows i j = if el rows i j < 0 then 4503599627370496 else el rows i j := by unfold lsC; rw [if_pos (by omega)]
                have hT' : ∀ x, x = lsC rows i j → ∀ z, z < j + 1 → gi (T ++ [x]) z = lsC rows i z := fun x hx z hz => by
                  show (T ++ [x]).getD z 0 = _
                  simp only [List.getD]
                  by_cases hzj : z < j
                  · rw [List.getElem?_append_left (by omega)]; exact hT z hzj
                  · obtain rfl : z = j := by omega
                    rw [List.getElem?_append_right (by omega), hTl, Nat.sub_self, ← hx]; rfl
                by_cases hneg : (rows.getD i []).getD j 0 < 0
                · skip
                  refine W_seq ?_
                  refine W_seq ?_
                  refine W_region ?_
                  refine L_move rfl rfl ?_
                  refine L_move rfl rfl ?_
                  first | refine L_lss rfl rfl rfl (dtrue (by omega)) ?_ | refine L_lss rfl rfl rfl (dfalse (by omega)) ?_ | refine L_lss rfl rfl rfl rfl ?_
                  refine RL_then ?_
                  refine W_if_true rfl ?_
                  refine W_skip' ?_
                  refine Nx_then ?_
                  refine W_seq ?_
                  refine W_block ?_
                  refine W_seq ?_
                  refine W_region ?_
                  refine L_move rfl rfl ?_
                  refine L_move rfl rfl ?_
                  refine L_idx1 rfl Try.underlying22 Try.ti38 rfl rfl (by with_reducible first | exact natc_k _ | exact natc_a1 _ | exact natc_0 | exact natc_1 | exact natc_2 | exact natc_s1 _ (by omega) | exact natc_a2 _ | exact natc_add _ _ | exact natc_mul _ _ | exact natc (by omega)) (by omega) (by first | rfl | exact hr.sl.ao (by omega) | exact g4.ao (by rw [il_length]; omega)) ?_
                  refine L_load rfl Try.one38 rfl (by first | exact (hr.sl.old hs (hOos.app hb9.own)).get g1 | exact (g4.old hs (hOos.app hb9.own)).get (il_get (by omega))) ?_
                  refine L_move rfl rfl ?_
                  refine L_idx1 rfl Try.underlying38 Try.ti2 rfl rfl (by with_reducible first | exact natc_k _ | exact natc_a1 _ | exact natc_0 | exact natc_1 | exact natc_2 | exact natc_s1 _ (by omega) | exact natc_a2 _ | exact natc_add _ _ | exact natc_mul _ _ | exact natc (by omega)) (by omega) (by first | rfl | exact hr.sl.ao (by omega) | exact g4.ao (by rw [il_length]; omega)) ?_
                  refine L_load rfl Try.one2 rfl (by first | exact (hr.sl.old hs (hOos.app hb9.own)).get g1 | exact (g4.old hs (hOos.app hb9.own)).get (il_get (by omega))) ?_
                  refine L_assign rfl rfl ?_
                  refine RL_then ?_
                  refine W_seq ?_
                  refine W_seq ?_
                  refine W_region ?_
                  refine L_move rfl rfl ?_
                  first | refine L_lss rfl rfl rfl (dtrue (by omega)) ?_ | refine L_lss rfl rfl rfl (dfalse (by omega)) ?_ | refine L_lss rfl rfl rfl rfl ?_
                  refine RL_then ?_
                  refine W_if_true rfl ?_
                  refine W_region ?_
                  refine L_assign rfl rfl ?_
                  refine RL_then ?_
                  refine W_region ?_
                  refine L_move rfl rfl ?_
                  refine L_move rfl rfl ?_
                  refine L_buildSlice1 rfl hs Try.underlying38 Try.ti2 rfl (by decide) rfl rfl ?_
                  intro b55 w hb55 hnb55 hs
                  simp only [List.map_cons, List.map_nil] at hs
                  try dsimp only [List.set_cons_succ, List.set_cons_zero, List.cons_append, List.nil_append] at hs
                  refine L_appendT (L := Mo ++ Ms) (M := M9) rfl Try.underlying38 Try.ti2 rfl hs (by assumption) hb9 rfl rfl rfl (by simp [Value.oneCell']) (by omega) (by omega) ?_
                  intro v9' w M9' hs hb9'
                  rw [il_snoc] at hb9'
                  refine L_assign rfl rfl ?_
                  refine RL_nil' ?_
                  refine Nx_block ?_
                  refine Nx_then ?_
                  refine W_region ?_
                  refine L_move rfl rfl ?_
                  first | refine L_add rfl rfl rfl (wrp_i64 (by omega)) ?_ | refine L_add rfl rfl rfl rfl ?_
                  refine L_assign rfl rfl ?_
                  refine RL_nil' ?_
                  refine Nx_loopP (j + 1, v9', T ++ [4503599627370496], M9', w) (is := [0, 6, 7, 8, 9, 10]) (I' := (fun (j : Nat) (v9 : Value) (T : List Int) (M9 : List (Nat × Obj)) (w : World) => (j ≤ n) ∧ (T.length = j) ∧ (∀ z, z < j → gi T z = lsC rows i z) ∧ (Bl w0 2 1 v9 j (il T) M9) ∧ (HS w0 w ((Mo ++ Ms) ++ M9))) (j + 1) (v9') (T ++ [4503599627370496]) (M9') (w)) rfl rfl rfl ?_ ?_
                  · exact ⟨by omega, by simp [hTl], hT' _ (by rw [hls, if_pos hneg]), hb9', hs⟩
                  · omega
                · skip
                  refine W_seq ?_
                  refine W_seq ?_
                  refine W_region ?_
                  refine L_move rfl rfl ?_
                  refine L_move rfl rfl ?_
                  first | refine L_lss rfl rfl rfl (dtrue (by omega)) ?_ | refine L_lss rfl rfl rfl (dfalse (by omega)) ?_ | refine L_lss rfl rfl rfl rfl ?_
                  refine RL_then ?_
                  refine W_if_true rfl ?_
                  refine W_skip' ?_
                  refine Nx_then ?_
                  refine W_seq ?_
                  refine W_block ?_
                  refine W_seq ?_
                  refine W_region ?_
                  refine L_move rfl rfl ?_
                  refine L_move rfl rfl ?_
                  refine L_idx1 rfl Try.underlying22 Try.ti38 rfl rfl (by with_reducible first | exact natc_k _ | exact natc_a1 _ | exact natc_0 | exact natc_1 | exact natc_2 | exact natc_s1 _ (by omega) | exact natc_a2 _ | exact natc_add _ _ | exact natc_mul _ _ | exact natc (by omega)) (by omega) (by first | rfl | exact hr.sl.ao (by omega) | exact g4.ao (by rw [il_length]; omega)) ?_
                  refine L_load rfl Try.one38 rfl (by first | exact (hr.sl.old hs (hOos.app hb9.own)).get g1 | exact (g4.old hs (hOos.app hb9.own)).get (il_get (by omega))) ?_
                  refine L_move rfl rfl ?_
                  refine L_idx1 rfl Try.underlying38 Try.ti2 rfl rfl (by with_reducible first | exact natc_k _ | exact natc_a1 _ | exact natc_0 | exact natc_1 | exact natc_2 | exact natc_s1 _ (by omega) | exact natc_a2 _ | exact natc_add _ _ | exact natc_mul _ _ | exact natc (by omega)) (by omega) (by first | rfl | exact hr.sl.ao (by omega) | exact g4.ao (by rw [il_length]; omega)) ?_
                  refine L_load rfl Try.one2 rfl (by first | exact (hr.sl.old hs (hOos.app hb9.own)).get g1 | exact (g4.old hs (hOos.app hb9.own)).get (il_get (by omega))) ?_
                  refine L_assign rfl rfl ?_
                  refine RL_then ?_
                  refine W_seq ?_
                  refine W_seq ?_
                  refine W_region ?_
                  refine L_move rfl rfl ?_
                  first | refine L_lss rfl rfl rfl (dtrue (by omega)) ?_ | refine L_lss rfl rfl rfl (dfalse (by omega)) ?_ | refine L_lss rfl rfl rfl rfl ?_
                  refine RL_then ?_
                  refine W_if_false rfl ?_
                  refine W_skip' ?_
                  refine Nx_then ?_
                  refine W_region ?_
                  refine L_move rfl rfl ?_
                  refine L_move rfl rfl ?_
                  refine L_buildSlice1 rfl hs Try.underlying38 Try.ti2 rfl (by decide) rfl rfl ?_
                  intro b55 w hb55 hnb55 hs
                  simp only [List.map_cons, List.map_nil] at hs
                  try dsimp only [List.set_cons_succ, List.set_cons_zero, List.cons_append, List.nil_append] at hs
                  refine L_appendT (L := Mo ++ Ms) (M := M9) rfl Try.underlying38 Try.ti2 rfl hs (by assumption) hb9 rfl rfl rfl (by simp [Value.oneCell']) (by omega) (by omega) ?_
                  intro v9' w M9' hs hb9'
                  rw [il_snoc] at hb9'
                  refine L_assign rfl rfl ?_
                  refine RL_nil' ?_
                  refine Nx_block ?_
                  refine Nx_then ?_
                  refine W_region ?_
                  refine L_move rfl rfl ?_
                  first | refine L_add rfl rfl rfl (wrp_i64 (by omega)) ?_ | refine L_add rfl rfl rfl rfl ?_
                  refine L_assign rfl rfl ?_
                  refine RL_nil' ?_
                  refine Nx_loopP (j + 1, v9', T ++ [(rows.getD i []).getD j 0], M9', w) (is := [0, 6, 7, 8, 9, 10]) (I' := (fun (j : Nat) (v9 : Value) (T : List Int) (M9 : List (Nat × Obj)) (w : World) => (j ≤ n) ∧ (T.length = j) ∧ (∀ z, z < j → gi T z = lsC rows i z) ∧ (Bl w0 2 1 v9 j (il T) M9) ∧ (HS w0 w ((Mo ++ Ms) ++ M9))) (j + 1) (v9') (T ++ [(rows.getD i []).getD j 0]) (M9') (w)) rfl rfl rfl ?_ ?_
                  · exact ⟨by omega, by simp [hTl], hT' _ (by rw [hls, if_neg hneg]), hb9', hs⟩
                  · omega
              · obtain rfl : n = j := by omega
                obtain ⟨q9, c9, rfl, _⟩ := hb9.slice
                replace hs : HS w0 w ((Ms ++ M9) ++ Mo) := hs.mem_perm (by rw [List.append_assoc]; exact List.perm_append_comm)
                refine W_seq ?_
                refine W_seq ?_
                refine W_region ?_
                refine L_move rfl rfl ?_
                refine L_move rfl rfl ?_
                first | refine L_lss rfl rfl rfl (dtrue (by omega)) ?_ | refine L_lss rfl rfl rfl (dfalse (by omega)) ?_ | refine L_lss rfl rfl rfl rfl ?_
                refine RL_then ?_
                refine W_if_false rfl ?_
                refine W_exit' ?_
                refine Ex_then_exit ?_
                refine Ex_loop_exit ?_
                refine Ex_block_hit ?_
                refine Nx_then ?_
                refine W_region ?_
                refine L_move rfl rfl ?_
                refine L_move rfl rfl ?_
                refine L_buildSlice1 rfl hs Try.underlying22 Try.ti38 rfl (by decide) rfl rfl ?_
                intro b59 w hb59 hnb59 hs
                simp only [List.map_cons, List.map_nil] at hs
                try dsimp only [List.set_cons_succ, List.set_cons_zero, List.cons_append, List.nil_append] at hs
                refine L_appendT (L := Ms ++ M9) (M := Mo) rfl Try.underlying22 Try.ti38 rfl hs (by assumption) hbo rfl rfl rfl (by simp [Value.oneCell']) (by omega) (by omega) ?_
                intro v7' w Mo' hs hbo'
                have hp9 : pB w0 (.slice q9 n c9) T M9 := by show Bl _ _ _ _ _ _ _; rw [hTl]; exact hb9
                replace hs : HS w0 w (Mo' ++ (Ms ++ M9)) := hs.mem_perm List.perm_append_comm
                refine L_assign rfl rfl ?_
                refine RL_nil' ?_
                refine Nx_block ?_
                refine Nx_then ?_
                refine W_region ?_
                refine L_move rfl rfl ?_
                first | refine L_add rfl rfl rfl (wrp_i64 (by omega)) ?_ | refine L_add rfl rfl rfl rfl ?_
                refine L_assign rfl rfl ?_
                refine RL_nil' ?_
                refine Nx_loopP (i + 1, v7', vs ++ [.slice q9 n c9], rs ++ [T], Mo', Ms ++ M9, w) (is := [0, 6, 7, 8]) (I' := (fun (i : Nat) (v7 : Value) (vs : List Value) (rs : List (List Int)) (Mo : List (Nat × Obj)) (Ms : List (Nat × Obj)) (w : World) => (i ≤ k) ∧ (HS w0 w (Mo ++ Ms)) ∧ (Bl w0 38 1 v7 i vs Mo) ∧ (RB (pB w0) vs rs Ms) ∧ (rs.length = i) ∧ (∀ r, r < i → (rs.getD r []).length = n ∧ ∀ j, j < n → el rs r j = lsC rows r j)) (i + 1) (v7') (vs ++ [.slice q9 n c9]) (rs ++ [T]) (Mo') (Ms ++ M9) (w)) rfl rfl rfl ?_ ?_
                · refine ⟨by omega, hs, hbo', hrb.snoc hp9, by simp [hrl2], fun r hr => ?_⟩
                  by_cases hri : r < i
                  · have e : (rs ++ [T]).getD r [] = rs.getD r [] := by simp only [List.getD]; rw [List.getElem?_append_left (by omega)]
                    obtain ⟨h5, h6⟩ := hrs r hri
                    exact ⟨by rw [e]; exact h5, fun j hj => by show ((rs ++ [T]).getD r []).getD j 0 = _; rw [e]; exact h6 j hj⟩
                  · obtain rfl : i = r := by omega
                    have e : (rs ++ [T]).getD i [] = T := by simp only [List.getD]; rw [List.getElem?_append_right (by omega), hrl2, Nat.sub_self]; rfl
                    exact ⟨by rw [e]; exact hTl, fun j hj => by show ((rs ++ [T]).getD i []).getD j 0 = _; rw [e]; exact hT j hj⟩
                · omega
          · obtain rfl : k = i := by omega
            obtain ⟨a7, c7, rfl, hc7⟩ := hbo.slice
            have hC' : ∀ r q, r < n → q < n → sqC rs r q = lsC rows r q := fun r q hr hq => by
              unfold sqC
              by_cases h5 : r < rs.length
              · rw [if_pos h5]; exact (hrs r (by omega)).2 q hq
              · unfold lsC; rw [if_neg h5, if_neg (by omega)]
            have hCr : ∀ r q, r < n → q < n → 0 ≤ sqC rs r q ∧ sqC rs r q ≤ 4503599627370496 := fun r q hr hq => by
              rw [hC' r q hr hq]
              unfold lsC
              by_cases h5 : r < rows.length
              · rw [if_pos h5]
                have h6 := hF.cost r q h5 (by rw [hF.same r h5]; show q < (rows.getD 0 []).length; omega)
                split
                · exact ⟨by decide, by decide⟩
                · exact ⟨by omega, by show el rows r q ≤ 4503599627370496; omega⟩
              · rw [if_neg h5]; exact ⟨by decide, by decide⟩
            have hRI : RowsI w a7 rs vs := hrb.rowsI hs (hbo.slc (L := Ms) (hs.mem_perm List.perm_append_comm)) (fun i hi => by rw [(hrs i (by omega)).1]; omega)
            refine W_seq ?_
            refine W_seq ?_
            refine W_region ?_
            refine L_move rfl rfl ?_
            refine L_move rfl rfl ?_
            refine L_len rfl Try.underlying22 rfl ?_
            first | refine L_lss rfl rfl rfl (dtrue (by omega)) ?_ | refine L_lss rfl rfl rfl (dfalse (by omega)) ?_ | refine L_lss rfl rfl rfl rfl ?_
            refine RL_then ?_
            refine W_if_false rfl ?_
            refine W_exit' ?_
            refine Ex_then_exit ?_
            refine Ex_loop_exit ?_
            refine Ex_block_hit ?_
            refine Nx_then ?_
            refine W_seq ?_
            refine W_region ?_
            refine L_move rfl rfl ?_
            refine L_move rfl rfl ?_
            refine L_call rfl Try.fun28 rfl (square_ok a7 k c7 n rs vs w hRI hrl2 (by omega) (by omega) (fun i hi => (hrs i hi).1) hCr) ?_
            rintro _ w2 ⟨y, U, V, M, R, rfl, hs2, hOy, hrd, hUl, hVl, hMl, hRl, hSq, hMa, hbU, hbV⟩
            have hsz := hs.size
            replace hs := hs.call hs2 hOy
            replace hs : HS w0 w2 (y.L U V M R ++ (Mo ++ Ms)) := hs.mem_perm List.perm_append_comm
            have hOy0 := hOy.le hsz
            clear hs2 hOy hsz
            obtain ⟨hPf, hhr⟩ := hSq.pf (has := gi M) (fun j hj => hMa.inv j hj (hSq.all j hj).1)
            have hM : InR n M := ⟨hMl, hhr⟩
            have hR : InR n R := ⟨hRl, hSq.all⟩
            refine L_assign rfl rfl ?_
            refine RL_then ?_
            refine W_seq ?_
            refine W_region ?_
            refine L_move rfl rfl ?_
            refine L_move rfl rfl ?_
            refine L_len rfl Try.underlying22 rfl ?_
            refine L_call rfl Try.fun29 rfl (rfirst_ok y n k (sqC rs) U V M R w2 (by omega) (by omega) hrd (HS.named (fun p hp => hs.has p (List.mem_append_left _ hp)) (by have := hs.nodup; rw [List.map_append, List.nodup_append] at this; exact this.1)) hUl hVl hM hR hbU hbV hPf) ?_
            rintro _ w3 ⟨M', R', hs3, hM', hR', hPf', hLM⟩
            have hBest : Best n k (lsC rows) (toN M') := Best.congr (hPf'.best hLM) hC'
            have hs0 := hs
            obtain hs : HS w2 w3 (y.L U V M' R' ++ []) := by rw [List.append_nil]; exact hs3
            have hfin : ∀ {w : World} {N : List (Nat × Obj)}, HS w2 w (y.L U V M' R' ++ N) → Own w2 N → HS w0 w N := fun {w N} h hN => by
              have h1 := hs0.callU (A := y.L U V M R) (U := y.L U V M' R') (L2 := Mo ++ Ms) (N := N) rfl h hN
              exact HS.dropL h1 ((Ly.own hOy0).app hOos)
            have hhl := hM'.len
            clear hPf' hLM hPf hR' hs3 hSq hMa hhr
            have hAns : ∀ ms t e, ((∃ i, i < k ∧ el rows i (toN M' i) < 0) ∧ ms = [] ∧ t = 0 ∧ e = 170 ∨ (∀ i, i < k → 0 ≤ el rows i (toN M' i)) ∧ ms = (List.range k).map (fun i => (toN M' i : Int)) ∧ t = tot k (fun i => el rows i (toN M' i)) ∧ e = 0) → LeastAns rows ms t e := fun ms t e hh => by
              refine .inr (.inr ⟨he0, by omega, by show _ ≤ (rows.getD 0 []).length; omega, toN M', ?_, ?_⟩)
              · rw [show wid rows 0 = n from hn.symm, hk]; exact hBest
              · rw [hk]; exact hh
            refine RL_then ?_
            refine W_seq ?_
            refine W_region ?_
            refine L_assign rfl rfl ?_
            refine RL_then ?_
            refine W_seq ?_
            refine W_region ?_
            refine L_assign rfl rfl ?_
            refine RL_then ?_
            refine W_seq ?_
            refine W_seq ?_
            refine W_region ?_
            refine L_assign rfl rfl ?_
            refine RL_then ?_
            refine W_block ?_
            refine W_loop6 (fun (i : Nat) (v1 : Value) (ms : List Int) (N : List (Nat × Obj)) (t : Int) (w : World) => [(0, .slice a k cp), (12, .pointer (some ⟨y.B, 0, none⟩)), (13, v1), (14, .int .i64 t), (15, .int .i64 i)]) (fun (i : Nat) (v1 : Value) (ms : List Int) (N : List (Nat × Obj)) (t : Int) (w : World) => w) (fun (i : Nat) (v1 : Value) (ms : List Int) (N : List (Nat × Obj)) (t : Int) (w : World) => (i ≤ k) ∧ (ms = (List.range i).map (fun q => (toN M' q : Int))) ∧ (t = tot i (fun q => el rows q (toN M' q))) ∧ (0 ≤ t ∧ t ≤ i * 1099511627776) ∧ (∀ q, q < i → 0 ≤ el rows q (toN M' q)) ∧ (Bl w2 3 1 v1 i (il ms) N) ∧ (HS w2 w (y.L U V M' R' ++ N))) (fun (i : Nat) (v1 : Value) (ms : List Int) (N : List (Nat × Obj)) (t : Int) (w : World) => k - i) (0) (.slice none 0 0) ([]) ([]) (0) (w3) (is := [0, 12, 13, 14, 15]) rfl rfl ?_ ?_
            · exact ⟨Nat.zero_le _, rfl, rfl, ⟨by omega, by omega⟩, fun _ h => absurd h (Nat.not_lt_zero _), Bl.nil, hs⟩
            · clear hs
              intro i v1 ms N t w hI
              show W _ _ _ _ [(0, .slice a k cp), (12, .pointer (some ⟨y.B, 0, none⟩)), (13, v1), (14, .int .i64 t), (15, .int .i64 i)] w
              obtain ⟨hi, hms, ht, htb, hpos, hbl, hs⟩ := hI
              have hsz0 := hs0.size
              by_cases hlt : i < k
              · have hin : i < n := by omega
                obtain ⟨ai, ci, g1, g2, g3, g4⟩ := hr.row i (by omega)
                have hwi : (rows.getD i []).length = n := by rw [hn]; exact hF.same i (by omega)
                rw [hwi] at g1 g2 g3
                obtain ⟨hje, hjn⟩ := hM'.nat hin
                obtain ⟨j, hj⟩ : ∃ j, j = toN M' i := ⟨_, rfl⟩
                rw [← hj] at hje hjn
                have hel : (rows.getD i []).getD j 0 ≤ 1099511627776 := hF.cost i j (by omega) (by show j < (rows.getD i []).length; omega)
                refine W_seq ?_
                refine W_seq ?_
                refine W_region ?_
                refine L_move rfl rfl ?_
                refine L_move rfl rfl ?_
                refine L_len rfl Try.underlying22 rfl ?_
                first | refine L_lss rfl rfl rfl (dtrue (by omega)) ?_ | refine L_lss rfl rfl rfl (dfalse (by omega)) ?_ | refine L_lss rfl rfl rfl rfl ?_
                refine RL_then ?_
                refine W_if_true rfl ?_
                refine W_skip' ?_
                refine Nx_then ?_
                refine W_seq ?_
                refine W_block ?_
                refine W_seq ?_
                refine W_region ?_
                refine L_move rfl rfl ?_
                refine L_nilCheck rfl rfl ?_
                refine L_fieldAddr rfl (off := 4) Try.underlying56 rfl rfl Try.ti25 rfl ?_
                refine L_load rfl Try.one25 rfl (by first | exact RdS.at hs hbl.own (hrd.bx rfl) hrd.nb | exact hs.cellA (i := 2) rfl (il_get' (by omega)) | exact (hr.sl.old (hfin hs hbl.own) (hbl.own.le hsz0)).get g1 | exact (g4.old (hfin hs hbl.own) (hbl.own.le hsz0)).get (il_get (by omega))) ?_
                refine L_move rfl rfl ?_
                refine L_idx1 rfl Try.underlying25 Try.ti3 rfl rfl (by with_reducible first | exact natc_k _ | exact natc_a1 _ | exact natc_0 | exact natc_1 | exact natc_2 | exact natc_s1 _ (by omega) | exact natc_a2 _ | exact natc_add _ _ | exact natc_mul _ _ | exact natc (by omega)) (by omega) (by first | rfl | exact hr.sl.ao (by omega) | exact g4.ao (by rw [il_length]; omega)) ?_
                refine L_load rfl Try.one3 rfl (by first | exact RdS.at hs hbl.own (hrd.bx rfl) hrd.nb | exact hs.cellA (i := 2) rfl (il_get' (by omega)) | exact (hr.sl.old (hfin hs hbl.own) (hbl.own.le hsz0)).get g1 | exact (g4.old (hfin hs hbl.own) (hbl.own.le hsz0)).get (il_get (by omega))) ?_
                refine L_assign rfl rfl ?_
                refine RL_then ?_
                refine W_seq ?_
                refine W_seq ?_
                refine W_region ?_
                rw [hje]
                by_cases hneg : (rows.getD i []).getD j 0 < 0
                · refine L_move rfl rfl ?_
                  refine L_move rfl rfl ?_
                  refine L_idx1 rfl Try.underlying22 Try.ti38 rfl rfl (by with_reducible first | exact natc_k _ | exact natc_a1 _ | exact natc_0 | exact natc_1 | exact natc_2 | exact natc_s1 _ (by omega) | exact natc_a2 _ | exact natc_add _ _ | exact natc_mul _ _ | exact natc (by omega)) (by omega) (by first | rfl | exact hr.sl.ao (by omega) | exact g4.ao (by rw [il_length]; omega)) ?_
                  refine L_load rfl Try.one38 rfl (by first | exact RdS.at hs hbl.own (hrd.bx rfl) hrd.nb | exact hs.cellA (i := 2) rfl (il_get' (by omega)) | exact (hr.sl.old (hfin hs hbl.own) (hbl.own.le hsz0)).get g1 | exact (g4.old (hfin hs hbl.own) (hbl.own.le hsz0)).get (il_get (by omega))) ?_
                  refine L_move rfl rfl ?_
                  refine L_idx1 rfl Try.underlying38 Try.ti2 rfl rfl (by with_reducible first | exact natc_k _ | exact natc_a1 _ | exact natc_0 | exact natc_1 | exact natc_2 | exact natc_s1 _ (by omega) | exact natc_a2 _ | exact natc_add _ _ | exact natc_mul _ _ | exact natc (by omega)) (by omega) (by first | rfl | exact hr.sl.ao (by omega) | exact g4.ao (by rw [il_length]; omega)) ?_
                  refine L_load rfl Try.one2 rfl (by first | exact RdS.at hs hbl.own (hrd.bx rfl) hrd.nb | exact hs.cellA (i := 2) rfl (il_get' (by omega)) | exact (hr.sl.old (hfin hs hbl.own) (hbl.own.le hsz0)).get g1 | exact (g4.old (hfin hs hbl.own) (hbl.own.le hsz0)).get (il_get (by omega))) ?_
                  first | refine L_lss rfl rfl rfl (dtrue (by omega)) ?_ | refine L_lss rfl rfl rfl (dfalse (by omega)) ?_ | refine L_lss rfl rfl rfl rfl ?_
                  refine RL_then ?_
                  refine W_if_true rfl ?_
                  refine W_seq ?_
                  refine W_region ?_
                  refine L_assign rfl rfl ?_
                  refine L_assign rfl rfl ?_
                  refine L_assign rfl rfl ?_
                  refine RL_then ?_
                  refine W_ret' ?_
                  refine Ex_then_ret ?_
                  refine Ex_block_ret ?_
                  refine Ex_then_ret ?_
                  refine Ex_loop_ret ?_
                  refine Ex_block_ret ?_
                  refine Ex_then_ret ?_
                  refine Ex_done3 rfl rfl rfl rfl ?_
                  exact ⟨_, rfl, _, [], [], _, _, rfl, (hfin hs hbl.own).forget (hbl.own.le hsz0), Bl.nil, hAns _ _ _ (.inl ⟨⟨i, hlt, by rw [← hj]; exact hneg⟩, rfl, rfl, rfl⟩)⟩
                · refine L_move rfl rfl ?_
                  refine L_move rfl rfl ?_
                  refine L_idx1 rfl Try.underlying22 Try.ti38 rfl rfl (by with_reducible first | exact natc_k _ | exact natc_a1 _ | exact natc_0 | exact natc_1 | exact natc_2 | exact natc_s1 _ (by omega) | exact natc_a2 _ | exact natc_add _ _ | exact natc_mul _ _ | exact natc (by omega)) (by omega) (by first | rfl | exact hr.sl.ao (by omega) | exact g4.ao (by rw [il_length]; omega)) ?_
                  refine L_load rfl Try.one38 rfl (by first | exact RdS.at hs hbl.own (hrd.bx rfl) hrd.nb | exact hs.cellA (i := 2) rfl (il_get' (by omega)) | exact (hr.sl.old (hfin hs hbl.own) (hbl.own.le hsz0)).get g1 | exact (g4.old (hfin hs hbl.own) (hbl.own.le hsz0)).get (il_get (by omega))) ?_
                  refine L_move rfl rfl ?_
                  refine L_idx1 rfl Try.underlying38 Try.ti2 rfl rfl (by with_reducible first | exact natc_k _ | exact natc_a1 _ | exact natc_0 | exact natc_1 | exact natc_2 | exact natc_s1 _ (by omega) | exact natc_a2 _ | exact natc_add _ _ | exact natc_mul _ _ | exact natc (by omega)) (by omega) (by first | rfl | exact hr.sl.ao (by omega) | exact g4.ao (by rw [il_length]; omega)) ?_
                  refine L_load rfl Try.one2 rfl (by first | exact RdS.at hs hbl.own (hrd.bx rfl) hrd.nb | exact hs.cellA (i := 2) rfl (il_get' (by omega)) | exact (hr.sl.old (hfin hs hbl.own) (hbl.own.le hsz0)).get g1 | exact (g4.old (hfin hs hbl.own) (hbl.own.le hsz0)).get (il_get (by omega))) ?_
                  first | refine L_lss rfl rfl rfl (dtrue (by omega)) ?_ | refine L_lss rfl rfl rfl (dfalse (by omega)) ?_ | refine L_lss rfl rfl rfl rfl ?_
                  refine RL_then ?_
                  refine W_if_false rfl ?_
                  refine W_skip' ?_
                  refine Nx_then ?_
                  refine W_seq ?_
                  refine W_region ?_
                  refine L_move rfl rfl ?_
                  refine L_move rfl rfl ?_
                  refine L_buildSlice1 rfl hs Try.underlying25 Try.ti3 rfl (by decide) rfl rfl ?_
                  intro b91 w hb91 hnb91 hs
                  simp only [List.map_cons, List.map_nil] at hs
                  try dsimp only [List.set_cons_succ, List.set_cons_zero, List.cons_append, List.nil_append] at hs
                  refine L_appendT rfl Try.underlying25 Try.ti3 rfl (L := y.L U V M' R') hs (by assumption) hbl rfl rfl rfl (by simp [Value.oneCell'] ) (by omega) (by omega) ?_
                  intro v92 w M92 hs hbl
                  refine L_assign rfl rfl ?_
                  refine RL_then ?_
                  refine W_region ?_
                  refine L_move rfl rfl ?_
                  refine L_move rfl rfl ?_
                  refine L_move rfl rfl ?_
                  refine L_idx1 rfl Try.underlying22 Try.ti38 rfl rfl (by with_reducible first | exact natc_k _ | exact natc_a1 _ | exact natc_0 | exact natc_1 | exact natc_2 | exact natc_s1 _ (by omega) | exact natc_a2 _ | exact natc_add _ _ | exact natc_mul _ _ | exact natc (by omega)) (by omega) (by first | rfl | exact hr.sl.ao (by omega) | exact g4.ao (by rw [il_length]; omega)) ?_
                  refine L_load rfl Try.one38 rfl (by first | exact RdS.at hs hbl.own (hrd.bx rfl) hrd.nb | exact hs.cellA (i := 2) rfl (il_get' (by omega)) | exact (hr.sl.old (hfin hs hbl.own) (hbl.own.le hsz0)).get g1 | exact (g4.old (hfin hs hbl.own) (hbl.own.le hsz0)).get (il_get (by omega))) ?_
                  refine L_move rfl rfl ?_
                  refine L_idx1 rfl Try.underlying38 Try.ti2 rfl rfl (by with_reducible first | exact natc_k _ | exact natc_a1 _ | exact natc_0 | exact natc_1 | exact natc_2 | exact natc_s1 _ (by omega) | exact natc_a2 _ | exact natc_add _ _ | exact natc_mul _ _ | exact natc (by omega)) (by omega) (by first | rfl | exact hr.sl.ao (by omega) | exact g4.ao (by rw [il_length]; omega)) ?_
                  refine L_load rfl Try.one2 rfl (by first | exact RdS.at hs hbl.own (hrd.bx rfl) hrd.nb | exact hs.cellA (i := 2) rfl (il_get' (by omega)) | exact (hr.sl.old (hfin hs hbl.own) (hbl.own.le hsz0)).get g1 | exact (g4.old (hfin hs hbl.own) (hbl.own.le hsz0)).get (il_get (by omega))) ?_
                  first | refine L_add rfl rfl rfl (wrp_i64 (by omega)) ?_ | refine L_add rfl rfl rfl rfl ?_
                  refine L_assign rfl rfl ?_
                  refine RL_nil' ?_
                  refine Nx_block ?_
                  refine Nx_then ?_
                  refine W_region ?_
                  refine L_move rfl rfl ?_
                  first | refine L_add rfl rfl rfl (wrp_i64 (by omega)) ?_ | refine L_add rfl rfl rfl rfl ?_
                  refine L_assign rfl rfl ?_
                  refine RL_nil' ?_
                  rw [il_snoc] at hbl
                  refine Nx_loopP (i + 1, v92, ms ++ [(j : Int)], M92, t + (rows.getD i []).getD j 0, _) (is := [0, 12, 13, 14, 15]) (I' := (fun (i : Nat) (v1 : Value) (ms : List Int) (N : List (Nat × Obj)) (t : Int) (w : World) => (i ≤ k) ∧ (ms = (List.range i).map (fun q => (toN M' q : Int))) ∧ (t = tot i (fun q => el rows q (toN M' q))) ∧ (0 ≤ t ∧ t ≤ i * 1099511627776) ∧ (∀ q, q < i → 0 ≤ el rows q (toN M' q)) ∧ (Bl w2 3 1 v1 i (il ms) N) ∧ (HS w2 w (y.L U V M' R' ++ N))) (i + 1) (v92) (ms ++ [(j : Int)]) (M92) (t + (rows.getD i []).getD j 0) (_)) rfl rfl rfl ?_ ?_
                  · refine ⟨by omega, by rw [List.range_succ, List.map_append, ← hms, hj]; rfl, by rw [ht, hj]; rfl, ⟨by omega, by omega⟩, fun q hq => ?_, hbl, hs⟩
                    by_cases hqi : q = i
                    · rw [hqi, ← hj]; simp only [el]; omega
                    · exact hpos q (by omega)
                  · omega
              · obtain rfl : k = i := by omega
                refine W_seq ?_
                refine W_seq ?_
                refine W_region ?_
                refine L_move rfl rfl ?_
                refine L_move rfl rfl ?_
                refine L_len rfl Try.underlying22 rfl ?_
                first | refine L_lss rfl rfl rfl (dtrue (by omega)) ?_ | refine L_lss rfl rfl rfl (dfalse (by omega)) ?_ | refine L_lss rfl rfl rfl rfl ?_
                refine RL_then ?_
                refine W_if_false rfl ?_
                refine W_exit' ?_
                refine Ex_then_exit ?_
                refine Ex_loop_exit ?_
                refine Ex_block_hit ?_
                refine Nx_then ?_
                refine W_seq ?_
                refine W_region ?_
                refine L_move rfl rfl ?_
                refine L_move rfl rfl ?_
                refine L_assign rfl rfl ?_
                refine L_assign rfl rfl ?_
                refine L_assign rfl rfl ?_
                refine RL_then ?_
                refine W_ret' ?_
                refine Ex_done3 rfl rfl rfl rfl ?_
                have hml : ms.length = k := by rw [hms]; simp
                exact ⟨_, rfl, v1, N, ms, t, 0, rfl, hfin hs hbl.own, by rw [hml]; exact hbl.mono hs0.size, hAns _ _ _ (.inr ⟨hpos, hms, ht, rfl⟩)⟩
end Go.Proofs.Ytcfdmenmlemahaa
