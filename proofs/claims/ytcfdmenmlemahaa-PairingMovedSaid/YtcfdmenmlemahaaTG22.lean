/-
  A part of the proof: what functions that the statement reaches do, or a plain law on what they do. Each theorem holds under its own premises alone.
-/
import Derived.Test.YtcfdmenmlemahaaTG21
namespace Go.Proofs.Ytcfdmenmlemahaa
open Go Go.Lk Go.Pr
section
variable {V0 : World} {rows : List (List Int)} {rvs : List Value} {a : Option Addr} {k cp n B gU gM : Nat}
theorem us_back {us : List Bool} {j : Nat} (hj : j < us.length) (h : us.getD j false = false) : (us.set j true).set j false = us := by
  rw [List.set_set]
  apply List.ext_getElem
  · simp
  · intro q h1 h2
    rw [List.getElem_set]
    split
    · rename_i hjq
      subst hjq
      simp only [List.getD, List.getElem?_eq_getElem h2, Option.getD_some] at h
      exact h.symm
    · rfl
theorem tryF_succ (whole : Bool) (d i : Nat) (p t : Int) (us : List Bool) (s : St) : tryF rows n whole (d + 1) i p t us s = (if whole then (List.range n).foldl (stepF rows n whole d i p t us) s else tryF rows n whole d (i + 1) p t us { (List.range n).foldl (stepF rows n whole d i p t us) s with mate := ((List.range n).foldl (stepF rows n whole d i p t us) s).mate.set i (-1) }) := rfl
set_option maxHeartbeats 2000000 in
theorem try_ok (whole : Bool) (hr : RowsI V0 a rows rvs) (hk : rows.length = k) (hk5 : k ≤ 5) (hn5 : n ≤ 5) (hwid : ∀ i, i < k → (rows.getD i []).length = n) (hcost : ∀ i j, i < k → j < n → el rows i j ≤ 1099511627776)
    (hO : ∀ {us : List Bool} {lv : Value} {s : St}, Own V0 (TryL B gU gM a k cp n us lv s)) :
    ∀ (d i : Nat) (p t : Int) (us : List Bool) (s : St) (lv : Value) (N : List (Nat × Obj)) (w0 : World), i + d = k → us.length = n → s.mate.length = k → (s.found = true → s.L.length = k) → 0 ≤ p ∧ p ≤ i → 0 ≤ t ∧ t ≤ i * 1099511627776 →
    HS V0 w0 (TryL B gU gM a k cp n us lv s ++ N) → Bl V0 3 1 lv s.L.length (il s.L) N →
    Ret Try.prog 26 [.pointer (some ⟨B, 0, none⟩), .int .i64 i, .int .i64 p, .int .i64 t, .bool whole] w0 fun _ w' => ∃ lv' N', HS V0 w' (TryL B gU gM a k cp n us lv' (tryF rows n whole d i p t us s) ++ N') ∧ Bl V0 3 1 lv' (tryF rows n whole d i p t us s).L.length (il (tryF rows n whole d i p t us s).L) N'
  | 0, i, p, t, us, s, lv, N, w0, hd, hul, hml, hLl, hp, ht, hs, hb => by
    obtain rfl : i = k := by omega
    exact leaf_ok whole p t us s lv N w0 hk hk5 hml hLl hO hs hb
  | d + 1, i, p, t, us, s, lv, N, w0, hd, hul, hml, hLl, hp, ht, hs0, hb0 => by
    have hik : i < k := by omega
    have IH := fun us s lv N w0 p t => try_ok whole hr hk hk5 hn5 hwid hcost hO d (i + 1) p t us s lv N w0 (by omega)
    obtain ⟨ai, ci, g1, g2, g3, g4⟩ := hr.row i (by omega)
    rw [hwid i hik] at g1 g2 g3
    have hra := hr.sl.ao (by rw [hr.len]; omega)
    have hrow : ∀ {w : World} {us : List Bool} {lv : Value} {s : St} {N : List (Nat × Obj)}, HS V0 w (TryL B gU gM a k cp n us lv s ++ N) → Own V0 N → w.cell? ((aD a).add i) = some (.slice ai n ci) := by intro w us lv s N hs hn; exact (hr.sl.old hs (hO.app hn)).get g1
    have hcel : ∀ {w : World} {us : List Bool} {lv : Value} {s : St} {N : List (Nat × Obj)}, HS V0 w (TryL B gU gM a k cp n us lv s ++ N) → Own V0 N → ∀ j, j < n → w.cell? ((aD ai).add j) = some (.int .i64 ((rows.getD i []).getD j 0)) := by intro w us lv s N hs hn j hj; exact (g4.old hs (hO.app hn)).get (il_get (by rw [hwid i hik]; exact hj))
    have hai : 0 < n → ai = some (aD ai) := fun h => g4.ao (by rw [il_length, hwid i hik]; omega)
    have hs := hs0
    clear hs0
    rw [tryF_succ]
    refine calls_of_W Try.func26 rfl rfl rfl ?_
    refine W_seq ?_
    refine W_seq ?_
    refine W_region ?_
    refine L_move rfl rfl ?_
    refine L_move rfl rfl ?_
    refine L_nilCheck rfl rfl ?_
    refine L_fieldAddr rfl (off := 0) Try.underlying33 rfl rfl Try.ti22 rfl ?_
    refine L_load rfl Try.one22 rfl (by first | exact hs.cellA (i := 2) rfl rfl | exact hrow hs hb0.own) ?_
    refine L_len rfl Try.underlying22 rfl ?_
    first | refine L_eql rfl rfl rfl (dtrue (by omega)) ?_ | refine L_eql rfl rfl rfl (dfalse (by omega)) ?_ | refine L_eql rfl rfl rfl rfl ?_
    refine RL_then ?_
    refine W_if_false rfl ?_
    refine W_skip' ?_
    refine Nx_then ?_
    refine W_seq ?_
    refine W_seq ?_
    refine W_region ?_
    refine L_move rfl rfl ?_
    refine L_nilCheck rfl rfl ?_
    refine L_fieldAddr rfl (off := 0) Try.underlying33 rfl rfl Try.ti22 rfl ?_
    refine L_load rfl Try.one22 rfl (by first | exact hs.cellA (i := 2) rfl rfl | exact hrow hs hb0.own) ?_
    refine L_move rfl rfl ?_
    refine L_idx1 rfl Try.underlying22 Try.ti38 rfl rfl (by with_reducible first | exact natc_k _ | exact natc_a1 _ | exact natc_0 | exact natc_1 | exact natc_2 | exact natc_s1 _ (by omega) | exact natc_a2 _ | exact natc_add _ _ | exact natc_mul _ _ | exact natc (by omega)) (by omega) (by first | rfl | exact hra | exact hai (by omega)) ?_
    refine L_load rfl Try.one38 rfl (by first | exact hs.cellA (i := 2) rfl rfl | exact hrow hs hb0.own) ?_
    refine L_len rfl Try.underlying38 rfl ?_
    refine L_move rfl rfl ?_
    refine RL_then ?_
    refine W_cut4 (fun (s1 : St) (lv : Value) (N : List (Nat × Obj)) (w : World) => [(0, .pointer (some ⟨B, 0, none⟩)), (1, .int .i64 i), (2, .int .i64 p), (3, .int .i64 t), (4, .bool whole)]) (fun (s1 : St) (lv : Value) (N : List (Nat × Obj)) (w : World) => w) (fun (s1 : St) (lv : Value) (N : List (Nat × Obj)) (w : World) => (s1 = (List.range n).foldl (stepF rows n whole d i p t us) s) ∧ (s1.mate.length = k) ∧ (s1.found = true → s1.L.length = k) ∧ (Bl V0 3 1 lv s1.L.length (il s1.L) N) ∧ (HS V0 w (TryL B gU gM a k cp n us lv s1 ++ N))) ?_ ?_
    · refine W_block ?_
      refine W_loop5 (fun (j : Nat) (s1 : St) (lv : Value) (N : List (Nat × Obj)) (w : World) => [(0, .pointer (some ⟨B, 0, none⟩)), (1, .int .i64 i), (2, .int .i64 p), (3, .int .i64 t), (4, .bool whole), (94, .int .i64 n), (95, .int .i64 j)]) (fun (j : Nat) (s1 : St) (lv : Value) (N : List (Nat × Obj)) (w : World) => w) (fun (j : Nat) (s1 : St) (lv : Value) (N : List (Nat × Obj)) (w : World) => (j ≤ n) ∧ (s1 = (List.range j).foldl (stepF rows n whole d i p t us) s) ∧ (s1.mate.length = k) ∧ (s1.found = true → s1.L.length = k) ∧ (Bl V0 3 1 lv s1.L.length (il s1.L) N) ∧ (HS V0 w (TryL B gU gM a k cp n us lv s1 ++ N))) (fun (j : Nat) (s1 : St) (lv : Value) (N : List (Nat × Obj)) (w : World) => n - j) (0) (s) (lv) (N) (_) (is := [0, 1, 2, 3, 4, 94, 95]) rfl rfl ?_ ?_
      · exact ⟨Nat.zero_le _, rfl, hml, hLl, hb0, hs⟩
      · clear hs hb0 hml hLl
        intro j s1 lv N w hI
        show W _ _ _ _ [(0, .pointer (some ⟨B, 0, none⟩)), (1, .int .i64 i), (2, .int .i64 p), (3, .int .i64 t), (4, .bool whole), (94, .int .i64 n), (95, .int .i64 j)] w
        obtain ⟨hj, hs1, hml, hLl, hb, hs⟩ := hI
        by_cases hlt : j < n
        · have hfold : (List.range (j + 1)).foldl (stepF rows n whole d i p t us) s = stepF rows n whole d i p t us s1 j := by rw [List.range_succ, List.foldl_append, ← hs1]; rfl
          by_cases hneg : (rows.getD i []).getD j 0 < 0
          · have e : stepF rows n whole d i p t us s1 j = s1 := by unfold stepF; rw [if_neg (fun h => by have := h.1; simp only [el] at this; omega)]
            refine W_seq ?_
            refine W_region ?_
            first | refine L_lss rfl rfl rfl (dtrue (by omega)) ?_ | refine L_lss rfl rfl rfl (dfalse (by omega)) ?_ | refine L_lss rfl rfl rfl rfl ?_
            refine RL_then ?_
            refine W_seq ?_
            refine W_if_true rfl ?_
            refine W_skip' ?_
            refine Nx_then ?_
            refine W_seq ?_
            refine W_block ?_
            refine W_seq ?_
            refine W_region ?_
            refine L_move rfl rfl ?_
            refine L_assign rfl rfl ?_
            refine RL_then ?_
            refine W_seq ?_
            refine W_region ?_
            refine L_move rfl rfl ?_
            refine L_nilCheck rfl rfl ?_
            refine L_fieldAddr rfl (off := 0) Try.underlying33 rfl rfl Try.ti22 rfl ?_
            refine L_load rfl Try.one22 rfl (by first | exact hs.cellA (i := 2) rfl rfl | exact hrow hs hb.own | exact hcel hs hb.own _ (by omega) | exact hs.cellA (i := 0) rfl (bls_get (by omega))) ?_
            refine L_move rfl rfl ?_
            refine L_idx1 rfl Try.underlying22 Try.ti38 rfl rfl (by with_reducible first | exact natc_k _ | exact natc_a1 _ | exact natc_0 | exact natc_1 | exact natc_2 | exact natc_s1 _ (by omega) | exact natc_a2 _ | exact natc_add _ _ | exact natc_mul _ _ | exact natc (by omega)) (by omega) (by first | rfl | exact hra | exact hai (by omega)) ?_
            refine L_load rfl Try.one38 rfl (by first | exact hs.cellA (i := 2) rfl rfl | exact hrow hs hb.own | exact hcel hs hb.own _ (by omega) | exact hs.cellA (i := 0) rfl (bls_get (by omega))) ?_
            refine L_move rfl rfl ?_
            refine L_idx1 rfl Try.underlying38 Try.ti2 rfl rfl (by with_reducible first | exact natc_k _ | exact natc_a1 _ | exact natc_0 | exact natc_1 | exact natc_2 | exact natc_s1 _ (by omega) | exact natc_a2 _ | exact natc_add _ _ | exact natc_mul _ _ | exact natc (by omega)) (by omega) (by first | rfl | exact hra | exact hai (by omega)) ?_
            refine L_load rfl Try.one2 rfl (by first | exact hs.cellA (i := 2) rfl rfl | exact hrow hs hb.own | exact hcel hs hb.own _ (by omega) | exact hs.cellA (i := 0) rfl (bls_get (by omega))) ?_
            first | refine L_geq rfl rfl rfl (dtrue (by omega)) ?_ | refine L_geq rfl rfl rfl (dfalse (by omega)) ?_ | refine L_geq rfl rfl rfl rfl ?_
            refine L_move rfl rfl ?_
            first | (refine RL_want rfl rfl ?_; refine L_move rfl rfl ?_) | refine RL_skip rfl rfl rfl rfl ?_ | refine RL_skipU rfl rfl rfl ?_
            first | (refine RL_want rfl rfl ?_; refine L_nilCheck rfl rfl ?_) | refine RL_skip rfl rfl rfl rfl ?_ | refine RL_skipU rfl rfl rfl ?_
            first | (refine RL_want rfl rfl ?_; refine L_fieldAddr rfl (off := 1) Try.underlying33 rfl rfl Try.ti31 rfl ?_) | refine RL_skip rfl rfl rfl rfl ?_ | refine RL_skipU rfl rfl rfl ?_
            first | (refine RL_want rfl rfl ?_; refine L_load rfl Try.one31 rfl (by first | exact hs.cellA (i := 2) rfl rfl | exact hrow hs hb.own | exact hcel hs hb.own _ (by omega) | exact hs.cellA (i := 0) rfl (bls_get (by omega))) ?_) | refine RL_skip rfl rfl rfl rfl ?_ | refine RL_skipU rfl rfl rfl ?_
            first | (refine RL_want rfl rfl ?_; refine L_move rfl rfl ?_) | refine RL_skip rfl rfl rfl rfl ?_ | refine RL_skipU rfl rfl rfl ?_
            first | (refine RL_want rfl rfl ?_; refine L_idx1 rfl Try.underlying31 Try.ti4 rfl rfl (by with_reducible first | exact natc_k _ | exact natc_a1 _ | exact natc_0 | exact natc_1 | exact natc_2 | exact natc_s1 _ (by omega) | exact natc_a2 _ | exact natc_add _ _ | exact natc_mul _ _ | exact natc (by omega)) (by omega) (by first | rfl | exact hra | exact hai (by omega)) ?_) | refine RL_skip rfl rfl rfl rfl ?_ | refine RL_skipU rfl rfl rfl ?_
            first | (refine RL_want rfl rfl ?_; refine L_load rfl Try.one4 rfl (by first | exact hs.cellA (i := 2) rfl rfl | exact hrow hs hb.own | exact hcel hs hb.own _ (by omega) | exact hs.cellA (i := 0) rfl (bls_get (by omega))) ?_) | refine RL_skip rfl rfl rfl rfl ?_ | refine RL_skipU rfl rfl rfl ?_
            first | (refine RL_want rfl rfl ?_; refine L_not rfl rfl ?_) | refine RL_skip rfl rfl rfl rfl ?_ | refine RL_skipU rfl rfl rfl ?_
            first | refine L_pick_t rfl rfl rfl ?_ | refine L_pick_f rfl rfl rfl ?_
            refine RL_then ?_
            refine W_if_false rfl ?_
            refine W_skip' ?_
            refine Nx_block ?_
            refine Nx_then ?_
            refine W_region ?_
            first | refine L_add rfl rfl rfl (wrp_i64 (by omega)) ?_ | refine L_add rfl rfl rfl rfl ?_
            refine L_move rfl rfl ?_
            refine RL_nil' ?_
            refine Nx_loopP (j + 1, s1, lv, N, _) (is := [0, 1, 2, 3, 4, 94, 95]) (I' := (fun (j : Nat) (s1 : St) (lv : Value) (N : List (Nat × Obj)) (w : World) => (j ≤ n) ∧ (s1 = (List.range j).foldl (stepF rows n whole d i p t us) s) ∧ (s1.mate.length = k) ∧ (s1.found = true → s1.L.length = k) ∧ (Bl V0 3 1 lv s1.L.length (il s1.L) N) ∧ (HS V0 w (TryL B gU gM a k cp n us lv s1 ++ N))) (j + 1) (s1) (lv) (N) (_)) rfl rfl rfl ?_ ?_
            · exact ⟨by omega, by rw [hfold, e], hml, hLl, hb, hs⟩
            · omega
          · refine W_seq ?_
            refine W_region ?_
            first | refine L_lss rfl rfl rfl (dtrue (by omega)) ?_ | refine L_lss rfl rfl rfl (dfalse (by omega)) ?_ | refine L_lss rfl rfl rfl rfl ?_
            refine RL_then ?_
            refine W_seq ?_
            refine W_if_true rfl ?_
            refine W_skip' ?_
            refine Nx_then ?_
            refine W_seq ?_
            refine W_block ?_
            refine W_seq ?_
            refine W_region ?_
            refine L_move rfl rfl ?_
            refine L_assign rfl rfl ?_
            refine RL_then ?_
            refine W_seq ?_
            refine W_region ?_
            refine L_move rfl rfl ?_
            refine L_nilCheck rfl rfl ?_
            refine L_fieldAddr rfl (off := 0) Try.underlying33 rfl rfl Try.ti22 rfl ?_
            refine L_load rfl Try.one22 rfl (by first | exact hs.cellA (i := 2) rfl rfl | exact hrow hs hb.own | exact hcel hs hb.own _ (by omega) | exact hs.cellA (i := 0) rfl (bls_get (by omega))) ?_
            refine L_move rfl rfl ?_
            refine L_idx1 rfl Try.underlying22 Try.ti38 rfl rfl (by with_reducible first | exact natc_k _ | exact natc_a1 _ | exact natc_0 | exact natc_1 | exact natc_2 | exact natc_s1 _ (by omega) | exact natc_a2 _ | exact natc_add _ _ | exact natc_mul _ _ | exact natc (by omega)) (by omega) (by first | rfl | exact hra | exact hai (by omega)) ?_
            refine L_load rfl Try.one38 rfl (by first | exact hs.cellA (i := 2) rfl rfl | exact hrow hs hb.own | exact hcel hs hb.own _ (by omega) | exact hs.cellA (i := 0) rfl (bls_get (by omega))) ?_
            refine L_move rfl rfl ?_
            refine L_idx1 rfl Try.underlying38 Try.ti2 rfl rfl (by with_reducible first | exact natc_k _ | exact natc_a1 _ | exact natc_0 | exact natc_1 | exact natc_2 | exact natc_s1 _ (by omega) | exact natc_a2 _ | exact natc_add _ _ | exact natc_mul _ _ | exact natc (by omega)) (by omega) (by first | rfl | exact hra | exact hai (by omega)) ?_
            refine L_load rfl Try.one2 rfl (by first | exact hs.cellA (i := 2) rfl rfl | exact hrow hs hb.own | exact hcel hs hb.own _ (by omega) | exact hs.cellA (i := 0) rfl (bls_get (by omega))) ?_
            first | refine L_geq rfl rfl rfl (dtrue (by omega)) ?_ | refine L_geq rfl rfl rfl (dfalse (by omega)) ?_ | refine L_geq rfl rfl rfl rfl ?_
            refine L_move rfl rfl ?_
            first | (refine RL_want rfl rfl ?_; refine L_move rfl rfl ?_) | refine RL_skip rfl rfl rfl rfl ?_ | refine RL_skipU rfl rfl rfl ?_
            first | (refine RL_want rfl rfl ?_; refine L_nilCheck rfl rfl ?_) | refine RL_skip rfl rfl rfl rfl ?_ | refine RL_skipU rfl rfl rfl ?_
            first | (refine RL_want rfl rfl ?_; refine L_fieldAddr rfl (off := 1) Try.underlying33 rfl rfl Try.ti31 rfl ?_) | refine RL_skip rfl rfl rfl rfl ?_ | refine RL_skipU rfl rfl rfl ?_
            first | (refine RL_want rfl rfl ?_; refine L_load rfl Try.one31 rfl (by first | exact hs.cellA (i := 2) rfl rfl | exact hrow hs hb.own | exact hcel hs hb.own _ (by omega) | exact hs.cellA (i := 0) rfl (bls_get (by omega))) ?_) | refine RL_skip rfl rfl rfl rfl ?_ | refine RL_skipU rfl rfl rfl ?_
            first | (refine RL_want rfl rfl ?_; refine L_move rfl rfl ?_) | refine RL_skip rfl rfl rfl rfl ?_ | refine RL_skipU rfl rfl rfl ?_
            first | (refine RL_want rfl rfl ?_; refine L_idx1 rfl Try.underlying31 Try.ti4 rfl rfl (by with_reducible first | exact natc_k _ | exact natc_a1 _ | exact natc_0 | exact natc_1 | exact natc_2 | exact natc_s1 _ (by omega) | exact natc_a2 _ | exact natc_add _ _ | exact natc_mul _ _ | exact natc (by omega)) (by omega) (by first | rfl | exact hra | exact hai (by omega)) ?_) | refine RL_skip rfl rfl rfl rfl ?_ | refine RL_skipU rfl rfl rfl ?_
            first | (refine RL_want rfl rfl ?_; refine L_load rfl Try.one4 rfl (by first | exact hs.cellA (i := 2) rfl rfl | exact hrow hs hb.own | exact hcel hs hb.own _ (by omega) | exact hs.cellA (i := 0) rfl (bls_get (by omega))) ?_) | refine RL_skip rfl rfl rfl rfl ?_ | refine RL_skipU rfl rfl rfl ?_
            cases hu : us.getD j false
            · have e : stepF rows n whole d i p t us s1 j = tryF rows n whole d (i + 1) (p + 1) (t + el rows i j) (us.set j true) { s1 with mate := s1.mate.set i (j : Int) } := by unfold stepF; rw [if_pos ⟨by simp only [el]; omega, hu⟩]
              have hcj : (rows.getD i []).getD j 0 ≤ 1099511627776 := hcost i j hik hlt
              first | (refine RL_want rfl rfl ?_; refine L_not rfl rfl ?_) | refine RL_skip rfl rfl rfl rfl ?_ | refine RL_skipU rfl rfl rfl ?_
              first | refine L_pick_t rfl rfl rfl ?_ | refine L_pick_f rfl rfl rfl ?_
              refine RL_then ?_
              refine W_if_true rfl ?_
              refine W_seq ?_
              refine W_region ?_
              refine L_move rfl rfl ?_
              refine L_nilCheck rfl rfl ?_
              refine L_fieldAddr rfl (off := 1) Try.underlying33 rfl rfl Try.ti31 rfl ?_
              refine L_load rfl Try.one31 rfl (by first | exact hs.cellA (i := 2) rfl rfl | exact hrow hs hb.own | exact hcel hs hb.own _ (by omega) | exact hs.cellA (i := 0) rfl (bls_get (by omega))) ?_
              refine L_move rfl rfl ?_
              refine L_idx1 rfl Try.underlying31 Try.ti4 rfl rfl (by with_reducible first | exact natc_k _ | exact natc_a1 _ | exact natc_0 | exact natc_1 | exact natc_2 | exact natc_s1 _ (by omega) | exact natc_a2 _ | exact natc_add _ _ | exact natc_mul _ _ | exact natc (by omega)) (by omega) (by first | rfl | exact hra | exact hai (by omega)) ?_
              refine L_store hs (i := 0) rfl Try.ti4 rfl rfl (by first | rfl | exact add_lit0 _ _ | exact Addr.add_lit ..) (by first | (rw [bls_length]; omega) | (rw [il_length]; omega)) rfl ?_
              intro w hs
              try dsimp only [List.set_cons_succ, List.set_cons_zero, List.cons_append, List.nil_append] at hs
              refine RL_then ?_
              refine W_seq ?_
              refine W_region ?_
              refine L_move rfl rfl ?_
              refine L_nilCheck rfl rfl ?_
              refine L_fieldAddr rfl (off := 2) Try.underlying33 rfl rfl Try.ti25 rfl ?_
              refine L_load rfl Try.one25 rfl (by first | exact hs.cellA (i := 2) rfl rfl | exact hrow hs hb.own | exact hcel hs hb.own _ (by omega) | exact hs.cellA (i := 0) rfl (bls_get (by omega))) ?_
              refine L_move rfl rfl ?_
              refine L_move rfl rfl ?_
              rw [bls_set] at hs
              refine L_idx1 rfl Try.underlying25 Try.ti3 rfl rfl (by with_reducible first | exact natc_k _ | exact natc_a1 _ | exact natc_0 | exact natc_1 | exact natc_2 | exact natc_s1 _ (by omega) | exact natc_a2 _ | exact natc_add _ _ | exact natc_mul _ _ | exact natc (by omega)) (by omega) (by first | rfl | exact hra | exact hai (by omega)) ?_
              refine L_store hs (i := 1) rfl Try.ti3 rfl rfl (by first | rfl | exact add_lit0 _ _ | exact Addr.add_lit ..) (by first | (rw [bls_length]; omega) | (rw [il_length]; omega)) rfl ?_
              intro w hs
              try dsimp only [List.set_cons_succ, List.set_cons_zero, List.cons_append, List.nil_append] at hs
              refine RL_then ?_
              refine W_seq ?_
              refine W_region ?_
              rw [il_set] at hs
              replace hs : HS V0 w (TryL B gU gM a k cp n (us.set j true) lv { s1 with mate := s1.mate.set i (j : Int) } ++ N) := hs
              refine L_move rfl rfl ?_
              refine L_move rfl rfl ?_
              first | refine L_add rfl rfl rfl (wrp_i64 (by omega)) ?_ | refine L_add rfl rfl rfl rfl ?_
              refine L_move rfl rfl ?_
              first | refine L_add rfl rfl rfl (wrp_i64 (by omega)) ?_ | refine L_add rfl rfl rfl rfl ?_
              refine L_move rfl rfl ?_
              refine L_move rfl rfl ?_
              refine L_nilCheck rfl rfl ?_
              refine L_fieldAddr rfl (off := 0) Try.underlying33 rfl rfl Try.ti22 rfl ?_
              refine L_load rfl Try.one22 rfl (by first | exact hs.cellA (i := 2) rfl rfl | exact hrow hs hb.own | exact hcel hs hb.own _ (by omega) | exact hs.cellA (i := 0) rfl (bls_get (by omega))) ?_
              refine L_move rfl rfl ?_
              refine L_idx1 rfl Try.underlying22 Try.ti38 rfl rfl (by with_reducible first | exact natc_k _ | exact natc_a1 _ | exact natc_0 | exact natc_1 | exact natc_2 | exact natc_s1 _ (by omega) | exact natc_a2 _ | exact natc_add _ _ | exact natc_mul _ _ | exact natc (by omega)) (by omega) (by first | rfl | exact hra | exact hai (by omega)) ?_
              refine L_load rfl Try.one38 rfl (by first | exact hs.cellA (i := 2) rfl rfl | exact hrow hs hb.own | exact hcel hs hb.own _ (by omega) | exact hs.cellA (i := 0) rfl (bls_get (by omega))) ?_
              refine L_move rfl rfl ?_
              refine L_idx1 rfl Try.underlying38 Try.ti2 rfl rfl (by with_reducible first | exact natc_k _ | exact natc_a1 _ | exact natc_0 | exact natc_1 | exact natc_2 | exact natc_s1 _ (by omega) | exact natc_a2 _ | exact natc_add _ _ | exact natc_mul _ _ | exact natc (by omega)) (by omega) (by first | rfl | exact hra | exact hai (by omega)) ?_
              refine L_load rfl Try.one2 rfl (by first | exact hs.cellA (i := 2) rfl rfl | exact hrow hs hb.own | exact hcel hs hb.own _ (by omega) | exact hs.cellA (i := 0) rfl (bls_get (by omega))) ?_
              first | refine L_add rfl rfl rfl (wrp_i64 (by omega)) ?_ | refine L_add rfl rfl rfl rfl ?_
              refine L_move rfl rfl ?_
              rw [show ((i : Int) + 1) = ((i + 1 : Nat) : Int) by simp]
              refine L_call rfl Try.fun26 rfl (IH (us.set j true) { s1 with mate := s1.mate.set i (j : Int) } lv N _ (p + 1) (t + (rows.getD i []).getD j 0) (by simp [hul]) (by simp [hml]) hLl ⟨by omega, by omega⟩ ⟨by omega, by omega⟩ hs hb) ?_
              rintro _ w' ⟨lv2, N2, hs, hb2⟩
              rw [show tryF rows n whole d (i + 1) (p + 1) (t + (rows.getD i []).getD j 0) (us.set j true) { s1 with mate := s1.mate.set i (j : Int) } = stepF rows n whole d i p t us s1 j from e.symm] at hs hb2
              have hlen := tryF_len (rows := rows) (n := n) (whole := whole) (k := k) d (i + 1) (p := p + 1) (t := t + el rows i j) (us := us.set j true) (s := { s1 with mate := s1.mate.set i (j : Int) }) (by simp [hml]) hLl
              rw [← e] at hlen
              refine RL_then ?_
              refine W_region ?_
              refine L_move rfl rfl ?_
              refine L_nilCheck rfl rfl ?_
              refine L_fieldAddr rfl (off := 1) Try.underlying33 rfl rfl Try.ti31 rfl ?_
              refine L_load rfl Try.one31 rfl (by first | exact hs.cellA (i := 2) rfl rfl) ?_
              refine L_move rfl rfl ?_
              refine L_idx1 rfl Try.underlying31 Try.ti4 rfl rfl (by with_reducible first | exact natc_k _ | exact natc_a1 _ | exact natc_0 | exact natc_1 | exact natc_2 | exact natc_s1 _ (by omega) | exact natc_a2 _ | exact natc_add _ _ | exact natc_mul _ _ | exact natc (by omega)) (by omega) (by first | rfl | exact hra | exact hai (by omega)) ?_
              refine L_store hs (i := 0) rfl Try.ti4 rfl rfl (by first | rfl | exact add_lit0 _ _ | exact Addr.add_lit ..) (by (rw [bls_length]; simp [hul]; omega)) rfl ?_
              intro w hs
              try dsimp only [List.set_cons_succ, List.set_cons_zero, List.cons_append, List.nil_append] at hs
              refine RL_nil' ?_
              refine Nx_block ?_
              refine Nx_then ?_
              refine W_region ?_
              first | refine L_add rfl rfl rfl (wrp_i64 (by omega)) ?_ | refine L_add rfl rfl rfl rfl ?_
              refine L_move rfl rfl ?_
              refine RL_nil' ?_
              rw [bls_set, us_back (by omega) hu] at hs
              refine Nx_loopP (j + 1, stepF rows n whole d i p t us s1 j, lv2, N2, _) (is := [0, 1, 2, 3, 4, 94, 95]) (I' := (fun (j : Nat) (s1 : St) (lv : Value) (N : List (Nat × Obj)) (w : World) => (j ≤ n) ∧ (s1 = (List.range j).foldl (stepF rows n whole d i p t us) s) ∧ (s1.mate.length = k) ∧ (s1.found = true → s1.L.length = k) ∧ (Bl V0 3 1 lv s1.L.length (il s1.L) N) ∧ (HS V0 w (TryL B gU gM a k cp n us lv s1 ++ N))) (j + 1) (stepF rows n whole d i p t us s1 j) (lv2) (N2) (_)) rfl rfl rfl ?_ ?_
              · exact ⟨by omega, hfold.symm, hlen.1, hlen.2, hb2, hs⟩
              · omega
            · have e : stepF rows n whole d i p t us s1 j = s1 := by unfold stepF; rw [if_neg (fun h => by have := h.2; rw [hu] at this; cases this)]
              first | (refine RL_want rfl rfl ?_; refine L_not rfl rfl ?_) | refine RL_skip rfl rfl rfl rfl ?_ | refine RL_skipU rfl rfl rfl ?_
              first | refine L_pick_t rfl rfl rfl ?_ | refine L_pick_f rfl rfl rfl ?_
              refine RL_then ?_
              refine W_if_false rfl ?_
              refine W_skip' ?_
              refine Nx_block ?_
              refine Nx_then ?_
              refine W_region ?_
              first | refine L_add rfl rfl rfl (wrp_i64 (by omega)) ?_ | refine L_add rfl rfl rfl rfl ?_
              refine L_move rfl rfl ?_
              refine RL_nil' ?_
              refine Nx_loopP (j + 1, s1, lv, N, _) (is := [0, 1, 2, 3, 4, 94, 95]) (I' := (fun (j : Nat) (s1 : St) (lv : Value) (N : List (Nat × Obj)) (w : World) => (j ≤ n) ∧ (s1 = (List.range j).foldl (stepF rows n whole d i p t us) s) ∧ (s1.mate.length = k) ∧ (s1.found = true → s1.L.length = k) ∧ (Bl V0 3 1 lv s1.L.length (il s1.L) N) ∧ (HS V0 w (TryL B gU gM a k cp n us lv s1 ++ N))) (j + 1) (s1) (lv) (N) (_)) rfl rfl rfl ?_ ?_
              · exact ⟨by omega, by rw [hfold, e], hml, hLl, hb, hs⟩
              · omega
        · have hjn : j = n := by omega
          rw [hjn] at hs1
          refine W_seq ?_
          refine W_region ?_
          first | refine L_lss rfl rfl rfl (dtrue (by omega)) ?_ | refine L_lss rfl rfl rfl (dfalse (by omega)) ?_ | refine L_lss rfl rfl rfl rfl ?_
          refine RL_then ?_
          refine W_seq ?_
          refine W_if_false rfl ?_
          refine W_exit' ?_
          refine Ex_then_exit ?_
          refine Ex_loop_exit ?_
          refine Ex_block_hit ?_
          refine Nx_cutP (s1, lv, N, _) (is := [0, 1, 2, 3, 4]) (I' := (fun (s1 : St) (lv : Value) (N : List (Nat × Obj)) (w : World) => (s1 = (List.range n).foldl (stepF rows n whole d i p t us) s) ∧ (s1.mate.length = k) ∧ (s1.found = true → s1.L.length = k) ∧ (Bl V0 3 1 lv s1.L.length (il s1.L) N) ∧ (HS V0 w (TryL B gU gM a k cp n us lv s1 ++ N))) (s1) (lv) (N) (_)) rfl rfl rfl ?_
          exact ⟨hs1, hml, hLl, hb, hs⟩
    · clear hs hb0 hml hLl
      intro s1 lv N w hI
      show W _ _ _ _ [(0, .pointer (some ⟨B, 0, none⟩)), (1, .int .i64 i), (2, .int .i64 p), (3, .int .i64 t), (4, .bool whole)] w
      obtain ⟨hs1, hml, hLl, hb, hs⟩ := hI
      rw [← hs1]
      cases whole
      · skip
        refine W_seq ?_
        refine W_region ?_
        refine L_move rfl rfl ?_
        refine L_not rfl rfl ?_
        refine RL_then ?_
        refine W_if_true rfl ?_
        refine W_seq ?_
        refine W_region ?_
        refine L_move rfl rfl ?_
        refine L_nilCheck rfl rfl ?_
        refine L_fieldAddr rfl (off := 2) Try.underlying33 rfl rfl Try.ti25 rfl ?_
        refine L_load rfl Try.one25 rfl (by first | exact hs.cellA (i := 2) rfl rfl) ?_
        refine L_move rfl rfl ?_
        refine L_idx1 rfl Try.underlying25 Try.ti3 rfl rfl (by with_reducible first | exact natc_k _ | exact natc_a1 _ | exact natc_0 | exact natc_1 | exact natc_2 | exact natc_s1 _ (by omega) | exact natc_a2 _ | exact natc_add _ _ | exact natc_mul _ _ | exact natc (by omega)) (by omega) (by first | rfl | exact hra | exact hai (by omega)) ?_
        refine L_store hs (i := 1) rfl Try.ti3 rfl rfl (by first | rfl | exact add_lit0 _ _ | exact Addr.add_lit ..) (by (rw [il_length]; omega)) rfl ?_
        intro w hs
        try dsimp only [List.set_cons_succ, List.set_cons_zero, List.cons_append, List.nil_append] at hs
        refine RL_then ?_
        refine W_region ?_
        refine L_move rfl rfl ?_
        refine L_move rfl rfl ?_
        first | refine L_add rfl rfl rfl (wrp_i64 (by omega)) ?_ | refine L_add rfl rfl rfl rfl ?_
        refine L_move rfl rfl ?_
        refine L_move rfl rfl ?_
        refine L_move rfl rfl ?_
        rw [il_set]  at hs
        rw [show ((i : Int) + 1) = ((i + 1 : Nat) : Int) by simp]
        refine L_call rfl Try.fun26 rfl (IH us { s1 with mate := s1.mate.set i (-1) } lv N _ p t hul (by simp [hml]) hLl ⟨by omega, by omega⟩ ⟨by omega, by omega⟩ hs hb) ?_
        rintro _ w' ⟨lv2, N2, hs, hb2⟩
        refine RL_nil' ?_
        refine Nx_done0 rfl ?_
        exact ⟨_, rfl, lv2, N2, hs, hb2⟩
      · refine W_seq ?_
        refine W_region ?_
        refine L_move rfl rfl ?_
        refine L_not rfl rfl ?_
        refine RL_then ?_
        refine W_if_false rfl ?_
        refine W_skip' ?_
        refine Nx_done0 rfl ?_
        exact ⟨_, rfl, lv, N, hs, hb⟩
end
end Go.Proofs.Ytcfdmenmlemahaa
