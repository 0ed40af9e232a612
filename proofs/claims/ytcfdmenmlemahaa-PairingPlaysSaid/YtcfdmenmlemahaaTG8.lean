/-
  A part of the proof: what functions that the statement reaches do, or a plain law on what they do. Each theorem holds under its own premises alone.
-/
import Derived.Test.YtcfdmenmlemahaaTG7
namespace Go.Proofs.Ytcfdmenmlemahaa
open Go Go.Lk Go.Pr
theorem idx_inj {n r q i j : Nat} (hq : q < n) (hj : j < n) (h : r * n + q = i * n + j) : r = i ∧ q = j := by
  have h1 : (r * n + q) / n = r := by
    rw [Nat.mul_comm, Nat.mul_add_div (by omega), Nat.div_eq_of_lt hq, Nat.add_zero]
  have h2 : (i * n + j) / n = i := by
    rw [Nat.mul_comm, Nat.mul_add_div (by omega), Nat.div_eq_of_lt hj, Nat.add_zero]
  have h3 : r = i := by rw [← h1, h, h2]
  subst h3
  exact ⟨rfl, by omega⟩
theorem cf_set {n : Nat} {C : List Int} (hC : C.length = n * n) {i j : Nat} (hi : i < n) (hj : j < n) (x : Int) {r q : Nat} (hq : q < n) : cf n (C.set (i * n + j) x) r q = if r = i ∧ q = j then x else cf n C r q := by
  have h1 := idx_lt hi hj
  unfold cf
  rw [gset (by omega)]
  by_cases h : r = i ∧ q = j
  · rw [if_pos h, if_pos (by rw [h.1, h.2])]
  · rw [if_neg h, if_neg fun he => h (idx_inj hq hj he)]
theorem Best.congr {n rows : Nat} {C C' : Nat → Nat → Int} {f : Nat → Nat} (h : Best n rows C f) (he : ∀ r j, r < n → j < n → C r j = C' r j) : Best n rows C' f := by
  have e : ∀ g, Bij n g → cst n C g = cst n C' g := fun g hg => tot_congr fun r hr => he r _ hr (hg.lt r hr)
  exact ⟨h.bij, fun g hg => by rw [← e f h.bij, ← e g hg]; exact h.least g hg, fun g hg hc => h.first g hg (by rw [e f h.bij, e g hg]; exact hc)⟩
/-- a table as a square: what may not be is dear, further rows cost nothing -/
def lsC (rows : List (List Int)) (r j : Nat) : Int := if r < rows.length then (if el rows r j < 0 then 4503599627370496 else el rows r j) else 0
def LeastAns (rows : List (List Int)) (ms : List Int) (t e : Int) : Prop :=
  ((chk rows ≠ 0 ∨ rows.length = 0) ∧ ms = [] ∧ t = 0 ∧ e = chk rows) ∨
  (chk rows = 0 ∧ rows.length ≠ 0 ∧ wid rows 0 < rows.length ∧ ms = [] ∧ t = 0 ∧ e = 170) ∨
  (chk rows = 0 ∧ rows.length ≠ 0 ∧ rows.length ≤ wid rows 0 ∧ ∃ f, Best (wid rows 0) rows.length (lsC rows) f ∧
    ((∃ i, i < rows.length ∧ el rows i (f i) < 0) ∧ ms = [] ∧ t = 0 ∧ e = 170 ∨ (∀ i, i < rows.length → 0 ≤ el rows i (f i)) ∧ ms = (List.range rows.length).map (fun i => (f i : Int)) ∧ t = tot rows.length (fun i => el rows i (f i)) ∧ e = 0))
theorem least_ok (a : Option Addr) (k cp : Nat) (rows : List (List Int)) (rvs : List Value) (w0 : World) (hr : RowsI w0 a rows rvs) (hk : rows.length = k) (hk63 : k ≤ 17592186043904) :
    Ret Try.prog 10 [.slice a k cp] w0 fun v w' => ∃ v1 N ms t e, v = .tuple #[v1, .int .i64 t, .int .i64 e] ∧ HS w0 w' N ∧ Bl w0 3 1 v1 ms.length (il ms) N ∧ LeastAns rows ms t e := by
  refine Ret.start fun w hs => ?_
  have hrl := hr.len
  refine calls_of_W Try.func10 rfl rfl rfl ?_
  refine W_seq ?_
  refine W_region ?_
  refine L_assign rfl rfl ?_
  refine L_assign rfl rfl ?_
  refine L_assign rfl rfl ?_
  refine RL_then ?_
  refine W_seq ?_
  refine W_seq ?_
  refine W_region ?_
  refine L_move rfl rfl ?_
  refine L_call rfl Try.fun21 rfl (checked_ok a k cp rows rvs w (hr.old hs Own.nil) hk hk63) ?_
  rintro _ w1 ⟨rfl, hs'⟩
  replace hs := hs.nil hs'
  clear hs'
  by_cases he0 : chk rows ≠ 0
  · refine L_assign rfl rfl ?_
    refine RL_then ?_
    refine W_seq ?_
    refine W_region ?_
    refine L_move rfl rfl ?_
    first | refine L_neq rfl rfl rfl (dtrue (by omega)) ?_ | refine L_neq rfl rfl rfl (dfalse (by omega)) ?_ | refine L_neq rfl rfl rfl rfl ?_
    refine L_move rfl rfl ?_
    first | (refine RL_want rfl rfl ?_; refine L_move rfl rfl ?_) | refine RL_skip rfl rfl rfl rfl ?_ | refine RL_skipU rfl rfl rfl ?_
    first | (refine RL_want rfl rfl ?_; refine L_len rfl Try.underlying22 rfl ?_) | refine RL_skip rfl rfl rfl rfl ?_ | refine RL_skipU rfl rfl rfl ?_
    first | (refine RL_want rfl rfl ?_; (first | refine L_eql rfl rfl rfl (dtrue (by omega)) ?_ | refine L_eql rfl rfl rfl (dfalse (by omega)) ?_ | refine L_eql rfl rfl rfl rfl ?_)) | refine RL_skip rfl rfl rfl rfl ?_ | refine RL_skipU rfl rfl rfl ?_
    first | refine L_pick_t rfl rfl rfl ?_ | refine L_pick_f rfl rfl rfl ?_
    refine RL_then ?_
    refine W_if_true rfl ?_
    refine W_seq ?_
    refine W_region ?_
    refine L_move rfl rfl ?_
    refine L_assign rfl rfl ?_
    refine L_assign rfl rfl ?_
    refine L_assign rfl rfl ?_
    refine RL_then ?_
    refine W_ret' ?_
    refine Ex_then_ret ?_
    refine Ex_done3 rfl rfl rfl rfl ?_
    exact ⟨_, rfl, _, [], [], _, _, rfl, hs, Bl.nil, .inl ⟨.inl he0, rfl, rfl, rfl⟩⟩
  · rw [Classical.not_not] at he0
    rw [he0]
    by_cases hk0 : k = 0
    · refine L_assign rfl rfl ?_
      refine RL_then ?_
      refine W_seq ?_
      refine W_region ?_
      refine L_move rfl rfl ?_
      first | refine L_neq rfl rfl rfl (dtrue (by omega)) ?_ | refine L_neq rfl rfl rfl (dfalse (by omega)) ?_ | refine L_neq rfl rfl rfl rfl ?_
      refine L_move rfl rfl ?_
      first | (refine RL_want rfl rfl ?_; refine L_move rfl rfl ?_) | refine RL_skip rfl rfl rfl rfl ?_ | refine RL_skipU rfl rfl rfl ?_
      first | (refine RL_want rfl rfl ?_; refine L_len rfl Try.underlying22 rfl ?_) | refine RL_skip rfl rfl rfl rfl ?_ | refine RL_skipU rfl rfl rfl ?_
      first | (refine RL_want rfl rfl ?_; (first | refine L_eql rfl rfl rfl (dtrue (by omega)) ?_ | refine L_eql rfl rfl rfl (dfalse (by omega)) ?_ | refine L_eql rfl rfl rfl rfl ?_)) | refine RL_skip rfl rfl rfl rfl ?_ | refine RL_skipU rfl rfl rfl ?_
      first | refine L_pick_t rfl rfl rfl ?_ | refine L_pick_f rfl rfl rfl ?_
      refine RL_then ?_
      refine W_if_true rfl ?_
      refine W_seq ?_
      refine W_region ?_
      refine L_move rfl rfl ?_
      refine L_assign rfl rfl ?_
      refine L_assign rfl rfl ?_
      refine L_assign rfl rfl ?_
      refine RL_then ?_
      refine W_ret' ?_
      refine Ex_then_ret ?_
      refine Ex_done3 rfl rfl rfl rfl ?_
      exact ⟨_, rfl, _, [], [], _, _, rfl, hs, Bl.nil, .inl ⟨.inr (by omega), rfl, rfl, he0.symm⟩⟩
    · have hF := fine_of_chk he0
      obtain ⟨a0, c0, k1, k2, k3, k4⟩ := hr.row 0 (by omega)
      obtain ⟨n, hn⟩ : ∃ n, n = (rows.getD 0 []).length := ⟨_, rfl⟩
      have hn256 : n ≤ 256 := by rw [hn]; exact hF.wid 0 (by omega)
      have hk256 := hF.len
      rw [← hn] at k1 k2 k3
      refine L_assign rfl rfl ?_
      refine RL_then ?_
      refine W_seq ?_
      refine W_region ?_
      refine L_move rfl rfl ?_
      first | refine L_neq rfl rfl rfl (dtrue (by omega)) ?_ | refine L_neq rfl rfl rfl (dfalse (by omega)) ?_ | refine L_neq rfl rfl rfl rfl ?_
      refine L_move rfl rfl ?_
      first | (refine RL_want rfl rfl ?_; refine L_move rfl rfl ?_) | refine RL_skip rfl rfl rfl rfl ?_ | refine RL_skipU rfl rfl rfl ?_
      first | (refine RL_want rfl rfl ?_; refine L_len rfl Try.underlying22 rfl ?_) | refine RL_skip rfl rfl rfl rfl ?_ | refine RL_skipU rfl rfl rfl ?_
      first | (refine RL_want rfl rfl ?_; (first | refine L_eql rfl rfl rfl (dtrue (by omega)) ?_ | refine L_eql rfl rfl rfl (dfalse (by omega)) ?_ | refine L_eql rfl rfl rfl rfl ?_)) | refine RL_skip rfl rfl rfl rfl ?_ | refine RL_skipU rfl rfl rfl ?_
      first | refine L_pick_t rfl rfl rfl ?_ | refine L_pick_f rfl rfl rfl ?_
      refine RL_then ?_
      refine W_if_false rfl ?_
      refine W_skip' ?_
      refine Nx_then ?_
      refine W_seq ?_
      refine W_region ?_
      refine L_move rfl rfl ?_
      refine L_idx1 rfl Try.underlying22 Try.ti38 rfl rfl natc_0 (by omega) (hr.sl.ao (by omega)) ?_
      skip
      refine L_load rfl Try.one38 rfl ((hr.sl.old hs Own.nil).get k1) ?_
      by_cases hnk : n < k
      · refine L_len rfl Try.underlying38 rfl ?_
        refine L_assign rfl rfl ?_
        refine RL_then ?_
        refine W_seq ?_
        refine W_seq ?_
        refine W_region ?_
        refine L_move rfl rfl ?_
        refine L_move rfl rfl ?_
        refine L_len rfl Try.underlying22 rfl ?_
        first | refine L_lss rfl rfl rfl (dtrue (by omega)) ?_ | refine L_lss rfl rfl rfl (dfalse (by omega)) ?_ | refine L_lss rfl rfl rfl rfl ?_
        refine RL_then ?_
        refine W_if_true rfl ?_
        refine W_seq ?_
        refine W_region ?_
        refine L_assign rfl rfl ?_
        refine L_assign rfl rfl ?_
        refine L_assign rfl rfl ?_
        refine RL_then ?_
        refine W_ret' ?_
        refine Ex_then_ret ?_
        refine Ex_done3 rfl rfl rfl rfl ?_
        exact ⟨_, rfl, _, [], [], _, _, rfl, hs, Bl.nil, .inr (.inl ⟨he0, by omega, by show (rows.getD 0 []).length < _; omega, rfl, rfl, rfl⟩)⟩
      · refine L_len rfl Try.underlying38 rfl ?_
        refine L_assign rfl rfl ?_
        refine RL_then ?_
        refine W_seq ?_
        refine W_seq ?_
        refine W_region ?_
        refine L_move rfl rfl ?_
        refine L_move rfl rfl ?_
        refine L_len rfl Try.underlying22 rfl ?_
        first | refine L_lss rfl rfl rfl (dtrue (by omega)) ?_ | refine L_lss rfl rfl rfl (dfalse (by omega)) ?_ | refine L_lss rfl rfl rfl rfl ?_
        refine RL_then ?_
        refine W_if_false rfl ?_
        refine W_skip' ?_
        refine Nx_then ?_
        refine W_seq ?_
        refine W_region ?_
        refine L_move rfl rfl ?_
        refine L_call rfl Try.fun22 rfl (played_ok n w1 (by omega) (by omega)) ?_
        rintro _ w2 ⟨B, c, u, vv, o, h, rfl, hs2, hO⟩
        have hsz := hs.size
        have hO0 : ∀ {C U V of has : List Int}, Own w0 (GameL B c u vv o h n C U V of has) := fun {C U V of has} => (hO (C := C) (U := U) (V := V) (of := of) (has := has)).le hsz
        replace hs := hs.call hs2 hO
        rw [List.nil_append] at hs
        clear hs2 hO hsz
        refine L_assign rfl rfl ?_
        refine RL_then ?_
        refine W_seq ?_
        refine W_seq ?_
        refine W_region ?_
        refine L_move rfl rfl ?_
        refine L_len rfl Try.underlying22 rfl ?_
        refine L_move rfl rfl ?_
        refine RL_then ?_
        refine W_block ?_
        refine W_loop3 (fun (i : Nat) (C : List Int) (w : World) => [(0, .slice a k cp), (2, .slice none 0 0), (3, .int .i64 0), (6, .pointer (some ⟨B, 0, none⟩)), (35, .slice a k cp), (36, .int .i64 k), (37, .int .i64 i)]) (fun (i : Nat) (C : List Int) (w : World) => w) (fun (i : Nat) (C : List Int) (w : World) => (i ≤ k) ∧ (C.length = n * n) ∧ (∀ r q, r < n → q < n → cf n C r q = if r < i then lsC rows r q else 0) ∧ (HS w0 w (GameL B c u vv o h n C (List.replicate n 0) (List.replicate n 0) (List.replicate n (-1)) (List.replicate n 0)))) (fun (i : Nat) (C : List Int) (w : World) => k - i) (0) (List.replicate (n * n) 0) (w2) (is := [0, 2, 3, 6, 35, 36, 37]) rfl rfl ?_ ?_
        · refine ⟨Nat.zero_le _, by simp, fun r q hr hq => ?_, hs⟩
          rw [if_neg (Nat.not_lt_zero _)]
          exact grep0 _ _
        · clear hs
          intro i C w hI
          show W _ _ _ _ [(0, .slice a k cp), (2, .slice none 0 0), (3, .int .i64 0), (6, .pointer (some ⟨B, 0, none⟩)), (35, .slice a k cp), (36, .int .i64 k), (37, .int .i64 i)] w
          obtain ⟨hi, hCl, hcf, hs⟩ := hI
          by_cases hlt : i < k
          · have hin : i < n := by omega
            obtain ⟨ai, ci, g1, g2, g3, g4⟩ := hr.row i (by omega)
            have hwi : (rows.getD i []).length = n := by rw [hn]; exact hF.same i (by omega)
            rw [hwi] at g1 g2 g3
            have hBox : w.heap[B]? = some (Row 51 (GameR n c u vv o h)) := hs.has (B, _) (by simp)
            refine W_seq ?_
            refine W_region ?_
            first | refine L_lss rfl rfl rfl (dtrue (by omega)) ?_ | refine L_lss rfl rfl rfl (dfalse (by omega)) ?_ | refine L_lss rfl rfl rfl rfl ?_
            refine RL_then ?_
            refine W_seq ?_
            refine W_if_true rfl ?_
            refine W_skip' ?_
            refine Nx_then ?_
            refine W_seq ?_
            refine W_block ?_
            refine W_seq ?_
            refine W_region ?_
            refine L_move rfl rfl ?_
            refine L_idx1 rfl Try.underlying22 Try.ti38 rfl rfl (by with_reducible first | exact natc_k _ | exact natc_a1 _ | exact natc_0 | exact natc_1 | exact natc_2 | exact natc_s1 _ (by omega) | exact natc_a2 _ | exact natc_add _ _ | exact natc_mul _ _ | exact natc (by omega)) (by omega) (hr.sl.ao (by omega)) ?_
            refine L_load rfl Try.one38 rfl (by exact (hr.sl.old hs hO0).get g1) ?_
            refine L_assign rfl rfl ?_
            refine L_assign rfl rfl ?_
            refine RL_then ?_
            refine W_seq ?_
            refine W_region ?_
            refine L_move rfl rfl ?_
            refine L_move rfl rfl ?_
            refine L_call rfl Try.fun23 rfl (row_ok B c u vv o h n i w hBox (by omega) (by omega) hin) ?_
            rintro _ w' ⟨rfl, hs'⟩
            replace hs := hs.nil hs'
            clear hs' hBox
            refine L_assign rfl rfl ?_
            refine RL_then ?_
            refine W_seq ?_
            refine W_region ?_
            refine L_move rfl rfl ?_
            refine L_len rfl Try.underlying38 rfl ?_
            refine L_move rfl rfl ?_
            refine RL_then ?_
            refine W_block ?_
            refine W_loop3 (fun (j : Nat) (C : List Int) (w : World) => [(0, .slice a k cp), (2, .slice none 0 0), (3, .int .i64 0), (6, .pointer (some ⟨B, 0, none⟩)), (9, .slice (some ⟨c, i * n, none⟩) n n), (35, .slice a k cp), (36, .int .i64 k), (37, .int .i64 i), (45, .slice ai n ci), (46, .int .i64 n), (47, .int .i64 j)]) (fun (j : Nat) (C : List Int) (w : World) => w) (fun (j : Nat) (C : List Int) (w : World) => (j ≤ n) ∧ (C.length = n * n) ∧ (∀ r q, r < n → q < n → cf n C r q = if r < i ∨ (r = i ∧ q < j) then lsC rows r q else 0) ∧ (HS w0 w (GameL B c u vv o h n C (List.replicate n 0) (List.replicate n 0) (List.replicate n (-1)) (List.replicate n 0)))) (fun (j : Nat) (C : List Int) (w : World) => n - j) (0) (C) (w') (is := [0, 2, 3, 6, 9, 35, 36, 37, 45, 46, 47]) rfl rfl ?_ ?_
            · refine ⟨Nat.zero_le _, hCl, fun r q hr hq => ?_, hs⟩
              rw [hcf r q hr hq]
              simp only [Nat.not_lt_zero, and_false, or_false]
            · clear hs hcf hCl
              intro j C w hI
              show W _ _ _ _ [(0, .slice a k cp), (2, .slice none 0 0), (3, .int .i64 0), (6, .pointer (some ⟨B, 0, none⟩)), (9, .slice (some ⟨c, i * n, none⟩) n n), (35, .slice a k cp), (36, .int .i64 k), (37, .int .i64 i), (45, .slice ai n ci), (46, .int .i64 n), (47, .int .i64 j)] w
              obtain ⟨hj, hCl, hcf, hs⟩ := hI
              by_cases hlt2 : j < n
              · have hij := idx_lt hin hlt2
                have hls : lsC rows i j = if el rows i j < 0 then 4503599627370496 else el rows i j := by unfold lsC; rw [if_pos (by omega)]
                have hnew : ∀ x y, ∀ r q, r < n → q < n → y = lsC rows i j → cf n ((C.set (i * n + j) x).set (i * n + j) y) r q = if r < i ∨ (r = i ∧ q < j + 1) then lsC rows r q else 0 := fun x y r q hr hq hy => by
                  rw [cf_set (by simp [hCl]) hin hlt2 _ hq]
                  by_cases h5 : r = i ∧ q = j
                  · rw [if_pos h5, if_pos (.inr ⟨h5.1, by omega⟩), hy, h5.1, h5.2]
                  · rw [if_neg h5, cf_set hCl hin hlt2 _ hq, if_neg h5, hcf r q hr hq]
                    have : (r < i ∨ (r = i ∧ q < j)) = (r < i ∨ (r = i ∧ q < j + 1)) := by apply propext; omega
                    simp only [this]
                by_cases hneg : (rows.getD i []).getD j 0 < 0
                · refine W_seq ?_
                  refine W_region ?_
                  first | refine L_lss rfl rfl rfl (dtrue (by omega)) ?_ | refine L_lss rfl rfl rfl (dfalse (by omega)) ?_ | refine L_lss rfl rfl rfl rfl ?_
                  refine RL_then ?_
                  refine W_seq ?_
                  refine W_if_true rfl ?_
                  refine W_skip' ?_
                  refine Nx_then ?_
                  refine W_seq ?_
                  refine W_block ?_
                  refine W_seq ?_
                  refine W_region ?_
                  refine L_move rfl rfl ?_
                  refine L_idx1 rfl Try.underlying38 Try.ti2 rfl rfl (by with_reducible first | exact natc_k _ | exact natc_a1 _ | exact natc_0 | exact natc_1 | exact natc_2 | exact natc_s1 _ (by omega) | exact natc_a2 _ | exact natc_add _ _ | exact natc_mul _ _ | exact natc (by omega)) (by omega) (by first | rfl | exact g4.ao (by rw [il_length]; omega)) ?_
                  refine L_load rfl Try.one2 rfl (by exact (g4.old hs hO0).get (il_get (by omega))) ?_
                  refine L_assign rfl rfl ?_
                  refine L_assign rfl rfl ?_
                  refine RL_then ?_
                  refine W_seq ?_
                  refine W_region ?_
                  refine L_move rfl rfl ?_
                  refine L_move rfl rfl ?_
                  refine L_move rfl rfl ?_
                  refine L_idx1 rfl Try.underlying38 Try.ti2 rfl rfl (by with_reducible first | exact natc_k _ | exact natc_a1 _ | exact natc_0 | exact natc_1 | exact natc_2 | exact natc_s1 _ (by omega) | exact natc_a2 _ | exact natc_add _ _ | exact natc_mul _ _ | exact natc (by omega)) (by omega) (by first | rfl | exact g4.ao (by rw [il_length]; omega)) ?_
                  refine L_store hs (i := 0) rfl Try.ti2 rfl rfl (by first | rfl | exact add_lit0 _ _ | exact Addr.add_lit ..) (by first | (rw [il_length]; omega) | (rw [List.length_set, il_length]; omega)) rfl ?_
                  intro w hs
                  try dsimp only [List.set_cons_succ, List.set_cons_zero, List.cons_append, List.nil_append] at hs
                  refine RL_then ?_
                  refine W_seq ?_
                  refine W_region ?_
                  refine L_move rfl rfl ?_
                  first | refine L_lss rfl rfl rfl (dtrue (by omega)) ?_ | refine L_lss rfl rfl rfl (dfalse (by omega)) ?_ | refine L_lss rfl rfl rfl rfl ?_
                  refine RL_then ?_
                  refine W_if_true rfl ?_
                  refine W_region ?_
                  refine L_move rfl rfl ?_
                  refine L_move rfl rfl ?_
                  refine L_idx1 rfl Try.underlying38 Try.ti2 rfl rfl (by with_reducible first | exact natc_k _ | exact natc_a1 _ | exact natc_0 | exact natc_1 | exact natc_2 | exact natc_s1 _ (by omega) | exact natc_a2 _ | exact natc_add _ _ | exact natc_mul _ _ | exact natc (by omega)) (by omega) (by first | rfl | exact g4.ao (by rw [il_length]; omega)) ?_
                  refine L_store hs (i := 0) rfl Try.ti2 rfl rfl (by first | rfl | exact add_lit0 _ _ | exact Addr.add_lit ..) (by first | (rw [il_length]; omega) | (rw [List.length_set, il_length]; omega)) rfl ?_
                  intro w hs
                  try dsimp only [List.set_cons_succ, List.set_cons_zero, List.cons_append, List.nil_append] at hs
                  refine RL_nil' ?_
                  refine Nx_block ?_
                  refine Nx_then ?_
                  refine W_region ?_
                  first | refine L_add rfl rfl rfl (wrp_i64 (by omega)) ?_ | refine L_add rfl rfl rfl rfl ?_
                  refine L_move rfl rfl ?_
                  refine RL_nil' ?_
                  rw [il_set, il_set] at hs
                  refine Nx_loopP (j + 1, (C.set (i * n + j) ((rows.getD i []).getD j 0)).set (i * n + j) 4503599627370496, _) (is := [0, 2, 3, 6, 9, 35, 36, 37, 45, 46, 47]) (I' := (fun (j : Nat) (C : List Int) (w : World) => (j ≤ n) ∧ (C.length = n * n) ∧ (∀ r q, r < n → q < n → cf n C r q = if r < i ∨ (r = i ∧ q < j) then lsC rows r q else 0) ∧ (HS w0 w (GameL B c u vv o h n C (List.replicate n 0) (List.replicate n 0) (List.replicate n (-1)) (List.replicate n 0)))) (j + 1) ((C.set (i * n + j) ((rows.getD i []).getD j 0)).set (i * n + j) 4503599627370496) (_)) rfl rfl rfl ?_ ?_
                  · exact ⟨by omega, by simp [hCl], fun r q hr hq => hnew _ _ r q hr hq (by rw [hls, if_pos hneg]), hs⟩
                  · omega
                · refine W_seq ?_
                  refine W_region ?_
                  first | refine L_lss rfl rfl rfl (dtrue (by omega)) ?_ | refine L_lss rfl rfl rfl (dfalse (by omega)) ?_ | refine L_lss rfl rfl rfl rfl ?_
                  refine RL_then ?_
                  refine W_seq ?_
                  refine W_if_true rfl ?_
                  refine W_skip' ?_
                  refine Nx_then ?_
                  refine W_seq ?_
                  refine W_block ?_
                  refine W_seq ?_
                  refine W_region ?_
                  refine L_move rfl rfl ?_
                  refine L_idx1 rfl Try.underlying38 Try.ti2 rfl rfl (by with_reducible first | exact natc_k _ | exact natc_a1 _ | exact natc_0 | exact natc_1 | exact natc_2 | exact natc_s1 _ (by omega) | exact natc_a2 _ | exact natc_add _ _ | exact natc_mul _ _ | exact natc (by omega)) (by omega) (by first | rfl | exact g4.ao (by rw [il_length]; omega)) ?_
                  refine L_load rfl Try.one2 rfl (by exact (g4.old hs hO0).get (il_get (by omega))) ?_
                  refine L_assign rfl rfl ?_
                  refine L_assign rfl rfl ?_
                  refine RL_then ?_
                  refine W_seq ?_
                  refine W_region ?_
                  refine L_move rfl rfl ?_
                  refine L_move rfl rfl ?_
                  refine L_move rfl rfl ?_
                  refine L_idx1 rfl Try.underlying38 Try.ti2 rfl rfl (by with_reducible first | exact natc_k _ | exact natc_a1 _ | exact natc_0 | exact natc_1 | exact natc_2 | exact natc_s1 _ (by omega) | exact natc_a2 _ | exact natc_add _ _ | exact natc_mul _ _ | exact natc (by omega)) (by omega) (by first | rfl | exact g4.ao (by rw [il_length]; omega)) ?_
                  refine L_store hs (i := 0) rfl Try.ti2 rfl rfl (by first | rfl | exact add_lit0 _ _ | exact Addr.add_lit ..) (by first | (rw [il_length]; omega) | (rw [List.length_set, il_length]; omega)) rfl ?_
                  intro w hs
                  try dsimp only [List.set_cons_succ, List.set_cons_zero, List.cons_append, List.nil_append] at hs
                  refine RL_then ?_
                  refine W_seq ?_
                  refine W_region ?_
                  refine L_move rfl rfl ?_
                  first | refine L_lss rfl rfl rfl (dtrue (by omega)) ?_ | refine L_lss rfl rfl rfl (dfalse (by omega)) ?_ | refine L_lss rfl rfl rfl rfl ?_
                  refine RL_then ?_
                  refine W_if_false rfl ?_
                  refine W_skip' ?_
                  refine Nx_block ?_
                  refine Nx_then ?_
                  refine W_region ?_
                  first | refine L_add rfl rfl rfl (wrp_i64 (by omega)) ?_ | refine L_add rfl rfl rfl rfl ?_
                  refine L_move rfl rfl ?_
                  refine RL_nil' ?_
                  rw [il_set] at hs
                  refine Nx_loopP (j + 1, C.set (i * n + j) ((rows.getD i []).getD j 0), _) (is := [0, 2, 3, 6, 9, 35, 36, 37, 45, 46, 47]) (I' := (fun (j : Nat) (C : List Int) (w : World) => (j ≤ n) ∧ (C.length = n * n) ∧ (∀ r q, r < n → q < n → cf n C r q = if r < i ∨ (r = i ∧ q < j) then lsC rows r q else 0) ∧ (HS w0 w (GameL B c u vv o h n C (List.replicate n 0) (List.replicate n 0) (List.replicate n (-1)) (List.replicate n 0)))) (j + 1) (C.set (i * n + j) ((rows.getD i []).getD j 0)) (_)) rfl rfl rfl ?_ ?_
                  · refine ⟨by omega, by simp [hCl], fun r q hr hq => ?_, hs⟩
                    rw [← hnew ((rows.getD i []).getD j 0) ((rows.getD i []).getD j 0) r q hr hq (by rw [hls, if_neg hneg]), List.set_set]
                  · omega
              · obtain rfl : n = j := by omega
                refine W_seq ?_
                refine W_region ?_
                first | refine L_lss rfl rfl rfl (dtrue (by omega)) ?_ | refine L_lss rfl rfl rfl (dfalse (by omega)) ?_ | refine L_lss rfl rfl rfl rfl ?_
                refine RL_then ?_
                refine W_seq ?_
                refine W_if_false rfl ?_
                refine W_exit' ?_
                refine Ex_then_exit ?_
                refine Ex_loop_exit ?_
                refine Ex_block_hit ?_
                refine Nx_block ?_
                refine Nx_then ?_
                refine W_region ?_
                first | refine L_add rfl rfl rfl (wrp_i64 (by omega)) ?_ | refine L_add rfl rfl rfl rfl ?_
                refine L_move rfl rfl ?_
                refine RL_nil' ?_
                refine Nx_loopP (i + 1, C, _) (is := [0, 2, 3, 6, 35, 36, 37]) (I' := (fun (i : Nat) (C : List Int) (w : World) => (i ≤ k) ∧ (C.length = n * n) ∧ (∀ r q, r < n → q < n → cf n C r q = if r < i then lsC rows r q else 0) ∧ (HS w0 w (GameL B c u vv o h n C (List.replicate n 0) (List.replicate n 0) (List.replicate n (-1)) (List.replicate n 0)))) (i + 1) (C) (_)) rfl rfl rfl ?_ ?_
                · refine ⟨by omega, hCl, fun r q hr hq => ?_, hs⟩
                  rw [hcf r q hr hq]
                  have : (r < i ∨ (r = i ∧ q < n)) = (r < i + 1) := by apply propext; omega
                  simp only [this]
                · omega
          · obtain rfl : k = i := by omega
            have hcf' : ∀ r q, r < n → q < n → cf n C r q = lsC rows r q := fun r q hr hq => by
              rw [hcf r q hr hq]
              by_cases h5 : r < k
              · rw [if_pos h5]
              · unfold lsC; rw [if_neg h5, if_neg (by omega)]
            have hC : CostOk n C := ⟨hCl, fun r q hr hq => by
              rw [hcf' r q hr hq]
              unfold lsC
              by_cases h5 : r < rows.length
              · rw [if_pos h5]
                have h6 := hF.cost r q h5 (by rw [hF.same r h5]; show q < (rows.getD 0 []).length; omega)
                split
                · exact ⟨by decide, by decide⟩
                · exact ⟨by omega, by show el rows r q ≤ 4503599627370496; omega⟩
              · rw [if_neg h5]; exact ⟨by decide, by decide⟩⟩
            clear hcf
            refine W_seq ?_
            refine W_region ?_
            first | refine L_lss rfl rfl rfl (dtrue (by omega)) ?_ | refine L_lss rfl rfl rfl (dfalse (by omega)) ?_ | refine L_lss rfl rfl rfl rfl ?_
            refine RL_then ?_
            refine W_seq ?_
            refine W_if_false rfl ?_
            refine W_exit' ?_
            refine Ex_then_exit ?_
            refine Ex_loop_exit ?_
            refine Ex_block_hit ?_
            refine Nx_then ?_
            refine W_seq ?_
            refine W_region ?_
            refine L_move rfl rfl ?_
            refine L_call rfl Try.fun24 rfl (play_ok B c u vv o h n C w hC (by omega) (by omega) (HS.named (fun p hp => hs.has p hp) hs.nodup)) ?_
            rintro _ w3 ⟨U, V, of, has, hs3, hUl, hVl, hofl, hhasl, hSq, hhas0, hbU, hbV⟩
            replace hs := hs.callU (A := GameL B c u vv o h n C (List.replicate n 0) (List.replicate n 0) (List.replicate n (-1)) (List.replicate n 0)) (U := GameL B c u vv o h n C U V of has) (L2 := []) (N := []) rfl (by simpa using hs3) Own.nil
            rw [List.append_nil, List.append_nil] at hs
            obtain ⟨hPf, hhr⟩ := hSq.pf hhas0
            have hof : InR n of := ⟨hofl, hSq.all⟩
            have hhas : InR n has := ⟨hhasl, hhr⟩
            clear hs3 hSq hhas0 hhr
            refine RL_then ?_
            refine W_seq ?_
            refine W_region ?_
            refine L_move rfl rfl ?_
            refine L_move rfl rfl ?_
            refine L_len rfl Try.underlying22 rfl ?_
            refine L_call rfl Try.fun25 rfl (first_ok B c u vv o h n C U V of has k w3 hC (by omega) (by omega) (by omega) hUl hVl hof hhas hbU hbV hPf (HS.named (fun p hp => hs.has p hp) hs.nodup)) ?_
            rintro _ w4 ⟨of', has', hs4, hof', hhas', hPf', hLM⟩
            replace hs := hs.callU (A := GameL B c u vv o h n C U V of has) (U := GameL B c u vv o h n C U V of' has') (L2 := []) (N := []) rfl (by simpa using hs4) Own.nil
            rw [List.append_nil, List.append_nil] at hs
            have hBest : Best n k (lsC rows) (toN has') := Best.congr (hPf'.best hLM) hcf'
            have hhl := hhas'.len
            clear hs4 hPf' hLM hPf hof hhas hof'
            have hAns : ∀ ms t e, ((∃ i, i < k ∧ el rows i (toN has' i) < 0) ∧ ms = [] ∧ t = 0 ∧ e = 170 ∨ (∀ i, i < k → 0 ≤ el rows i (toN has' i)) ∧ ms = (List.range k).map (fun i => (toN has' i : Int)) ∧ t = tot k (fun i => el rows i (toN has' i)) ∧ e = 0) → LeastAns rows ms t e := fun ms t e hh => by
              refine .inr (.inr ⟨he0, by omega, by show _ ≤ (rows.getD 0 []).length; omega, toN has', ?_, ?_⟩)
              · rw [show wid rows 0 = n from hn.symm, hk]; exact hBest
              · rw [hk]; exact hh
            refine RL_then ?_
            refine W_seq ?_
            refine W_seq ?_
            refine W_region ?_
            refine L_move rfl rfl ?_
            refine L_len rfl Try.underlying22 rfl ?_
            refine L_move rfl rfl ?_
            refine RL_then ?_
            refine W_block ?_
            refine W_loop6 (fun (i : Nat) (v1 : Value) (ms : List Int) (N : List (Nat × Obj)) (t : Int) (w : World) => [(0, .slice a k cp), (2, v1), (3, .int .i64 t), (6, .pointer (some ⟨B, 0, none⟩)), (69, .slice a k cp), (70, .int .i64 k), (71, .int .i64 i)]) (fun (i : Nat) (v1 : Value) (ms : List Int) (N : List (Nat × Obj)) (t : Int) (w : World) => w) (fun (i : Nat) (v1 : Value) (ms : List Int) (N : List (Nat × Obj)) (t : Int) (w : World) => (i ≤ k) ∧ (ms = (List.range i).map (fun q => (toN has' q : Int))) ∧ (t = tot i (fun q => el rows q (toN has' q))) ∧ (0 ≤ t ∧ t ≤ i * 1099511627776) ∧ (∀ q, q < i → 0 ≤ el rows q (toN has' q)) ∧ (Bl w0 3 1 v1 i (il ms) N) ∧ (HS w0 w (GameL B c u vv o h n C U V of' has' ++ N))) (fun (i : Nat) (v1 : Value) (ms : List Int) (N : List (Nat × Obj)) (t : Int) (w : World) => k - i) (0) (.slice none 0 0) ([]) ([]) (0) (w4) (is := [0, 2, 3, 6, 69, 70, 71]) rfl rfl ?_ ?_
            · exact ⟨Nat.zero_le _, rfl, rfl, ⟨by omega, by omega⟩, fun _ h => absurd h (Nat.not_lt_zero _), Bl.nil, by simpa using hs⟩
            · clear hs
              intro i v1 ms N t w hI
              show W _ _ _ _ [(0, .slice a k cp), (2, v1), (3, .int .i64 t), (6, .pointer (some ⟨B, 0, none⟩)), (69, .slice a k cp), (70, .int .i64 k), (71, .int .i64 i)] w
              obtain ⟨hi, hms, ht, htb, hpos, hbl, hs⟩ := hI
              have hON : Own w0 (GameL B c u vv o h n C U V of' has' ++ N) := hO0.app hbl.own
              by_cases hlt : i < k
              · have hin : i < n := by omega
                obtain ⟨ai, ci, g1, g2, g3, g4⟩ := hr.row i (by omega)
                have hwi : (rows.getD i []).length = n := by rw [hn]; exact hF.same i (by omega)
                rw [hwi] at g1 g2 g3
                obtain ⟨hje, hjn⟩ := hhas'.nat hin
                obtain ⟨j, hj⟩ : ∃ j, j = toN has' i := ⟨_, rfl⟩
                rw [← hj] at hje hjn
                have hel : (rows.getD i []).getD j 0 ≤ 1099511627776 := hF.cost i j (by omega) (by show j < (rows.getD i []).length; omega)
                refine W_seq ?_
                refine W_region ?_
                first | refine L_lss rfl rfl rfl (dtrue (by omega)) ?_ | refine L_lss rfl rfl rfl (dfalse (by omega)) ?_ | refine L_lss rfl rfl rfl rfl ?_
                refine RL_then ?_
                refine W_seq ?_
                refine W_if_true rfl ?_
                refine W_skip' ?_
                refine Nx_then ?_
                refine W_seq ?_
                refine W_block ?_
                refine W_seq ?_
                refine W_region ?_
                refine L_move rfl rfl ?_
                refine L_idx1 rfl Try.underlying22 Try.ti38 rfl rfl (by with_reducible first | exact natc_k _ | exact natc_a1 _ | exact natc_0 | exact natc_1 | exact natc_2 | exact natc_s1 _ (by omega) | exact natc_a2 _ | exact natc_add _ _ | exact natc_mul _ _ | exact natc (by omega)) (by omega) (by first | rfl | exact hr.sl.ao (by omega) | exact g4.ao (by rw [il_length]; omega)) ?_
                refine L_load rfl Try.one38 rfl (by first | exact hs.cellA (i := 5) rfl rfl | exact hs.cellA (i := 4) rfl (il_get (by omega)) | exact (hr.sl.old hs (hO0.app hbl.own)).get g1 | exact (g4.old hs (hO0.app hbl.own)).get (il_get (by omega))) ?_
                refine L_assign rfl rfl ?_
                refine L_assign rfl rfl ?_
                refine RL_then ?_
                refine W_seq ?_
                refine W_region ?_
                refine L_move rfl rfl ?_
                refine L_nilCheck rfl rfl ?_
                refine L_fieldAddr rfl (off := 5) Try.underlying51 rfl rfl Try.ti25 rfl ?_
                refine L_load rfl Try.one25 rfl (by first | exact hs.cellA (i := 5) rfl rfl | exact hs.cellA (i := 4) rfl (il_get (by omega)) | exact (hr.sl.old hs (hO0.app hbl.own)).get g1 | exact (g4.old hs (hO0.app hbl.own)).get (il_get (by omega))) ?_
                refine L_move rfl rfl ?_
                refine L_idx1 rfl Try.underlying25 Try.ti3 rfl rfl (by with_reducible first | exact natc_k _ | exact natc_a1 _ | exact natc_0 | exact natc_1 | exact natc_2 | exact natc_s1 _ (by omega) | exact natc_a2 _ | exact natc_add _ _ | exact natc_mul _ _ | exact natc (by omega)) (by omega) (by first | rfl | exact hr.sl.ao (by omega) | exact g4.ao (by rw [il_length]; omega)) ?_
                refine L_load rfl Try.one3 rfl (by first | exact hs.cellA (i := 5) rfl rfl | exact hs.cellA (i := 4) rfl (il_get (by omega)) | exact (hr.sl.old hs (hO0.app hbl.own)).get g1 | exact (g4.old hs (hO0.app hbl.own)).get (il_get (by omega))) ?_
                refine L_assign rfl rfl ?_
                refine RL_then ?_
                refine W_seq ?_
                refine W_seq ?_
                refine W_region ?_
                rw [hje]
                by_cases hneg : (rows.getD i []).getD j 0 < 0
                · refine L_move rfl rfl ?_
                  refine L_move rfl rfl ?_
                  refine L_idx1 rfl Try.underlying38 Try.ti2 rfl rfl (by with_reducible first | exact natc_k _ | exact natc_a1 _ | exact natc_0 | exact natc_1 | exact natc_2 | exact natc_s1 _ (by omega) | exact natc_a2 _ | exact natc_add _ _ | exact natc_mul _ _ | exact natc (by omega)) (by omega) (by first | rfl | exact hr.sl.ao (by omega) | exact g4.ao (by rw [il_length]; omega)) ?_
                  refine L_load rfl Try.one2 rfl (by first | exact hs.cellA (i := 5) rfl rfl | exact hs.cellA (i := 4) rfl (il_get (by omega)) | exact (hr.sl.old hs (hO0.app hbl.own)).get g1 | exact (g4.old hs (hO0.app hbl.own)).get (il_get (by omega))) ?_
                  first | refine L_lss rfl rfl rfl (dtrue (by omega)) ?_ | refine L_lss rfl rfl rfl (dfalse (by omega)) ?_ | refine L_lss rfl rfl rfl rfl ?_
                  refine RL_then ?_
                  refine W_if_true rfl ?_
                  refine W_seq ?_
                  refine W_region ?_
                  refine L_assign rfl rfl ?_
                  refine L_assign rfl rfl ?_
                  refine L_assign rfl rfl ?_
                  refine RL_then ?_
                  refine W_ret' ?_
                  refine Ex_then_ret ?_
                  refine Ex_block_ret ?_
                  refine Ex_then_ret ?_
                  refine Ex_loop_ret ?_
                  refine Ex_block_ret ?_
                  refine Ex_then_ret ?_
                  refine Ex_done3 rfl rfl rfl rfl ?_
                  exact ⟨_, rfl, _, [], [], _, _, rfl, hs.forget hON, Bl.nil, hAns _ _ _ (.inl ⟨⟨i, hlt, by rw [← hj]; exact hneg⟩, rfl, rfl, rfl⟩)⟩
                · refine L_move rfl rfl ?_
                  refine L_move rfl rfl ?_
                  refine L_idx1 rfl Try.underlying38 Try.ti2 rfl rfl (by with_reducible first | exact natc_k _ | exact natc_a1 _ | exact natc_0 | exact natc_1 | exact natc_2 | exact natc_s1 _ (by omega) | exact natc_a2 _ | exact natc_add _ _ | exact natc_mul _ _ | exact natc (by omega)) (by omega) (by first | rfl | exact hr.sl.ao (by omega) | exact g4.ao (by rw [il_length]; omega)) ?_
                  refine L_load rfl Try.one2 rfl (by first | exact hs.cellA (i := 5) rfl rfl | exact hs.cellA (i := 4) rfl (il_get (by omega)) | exact (hr.sl.old hs (hO0.app hbl.own)).get g1 | exact (g4.old hs (hO0.app hbl.own)).get (il_get (by omega))) ?_
                  first | refine L_lss rfl rfl rfl (dtrue (by omega)) ?_ | refine L_lss rfl rfl rfl (dfalse (by omega)) ?_ | refine L_lss rfl rfl rfl rfl ?_
                  refine RL_then ?_
                  refine W_if_false rfl ?_
                  refine W_skip' ?_
                  refine Nx_then ?_
                  refine W_seq ?_
                  refine W_region ?_
                  refine L_move rfl rfl ?_
                  refine L_move rfl rfl ?_
                  refine L_buildSlice rfl hs Try.underlying25 Try.ti3 rfl (by decide) rfl (by simp [Value.cells]) ?_
                  intro b90 w hb90 hnb90 hs
                  try simp only [List.flatMap_cons, List.flatMap_nil, cells_int, cells_float, cells_complex, cells_bool, cells_string, cells_pointer, cells_slice, cells_map, cells_agg, List.append_nil, List.set_cons_succ, List.set_cons_zero, List.cons_append, List.nil_append] at hs
                  refine L_appendT rfl Try.underlying25 Try.ti3 rfl (L := GameL B c u vv o h n C U V of' has') hs (by assumption) hbl rfl rfl rfl (by simp [Value.oneCell'] ) (by omega) (by omega) ?_
                  intro v91 w M91 hs hbl
                  refine L_assign rfl rfl ?_
                  refine RL_then ?_
                  refine W_region ?_
                  refine L_move rfl rfl ?_
                  refine L_move rfl rfl ?_
                  refine L_move rfl rfl ?_
                  refine L_idx1 rfl Try.underlying38 Try.ti2 rfl rfl (by with_reducible first | exact natc_k _ | exact natc_a1 _ | exact natc_0 | exact natc_1 | exact natc_2 | exact natc_s1 _ (by omega) | exact natc_a2 _ | exact natc_add _ _ | exact natc_mul _ _ | exact natc (by omega)) (by omega) (by first | rfl | exact hr.sl.ao (by omega) | exact g4.ao (by rw [il_length]; omega)) ?_
                  refine L_load rfl Try.one2 rfl (by first | exact hs.cellA (i := 5) rfl rfl | exact hs.cellA (i := 4) rfl (il_get (by omega)) | exact (hr.sl.old hs (hO0.app hbl.own)).get g1 | exact (g4.old hs (hO0.app hbl.own)).get (il_get (by omega))) ?_
                  first | refine L_add rfl rfl rfl (wrp_i64 (by omega)) ?_ | refine L_add rfl rfl rfl rfl ?_
                  refine L_assign rfl rfl ?_
                  refine RL_nil' ?_
                  refine Nx_block ?_
                  refine Nx_then ?_
                  refine W_region ?_
                  first | refine L_add rfl rfl rfl (wrp_i64 (by omega)) ?_ | refine L_add rfl rfl rfl rfl ?_
                  refine L_move rfl rfl ?_
                  refine RL_nil' ?_
                  rw [il_snoc] at hbl
                  refine Nx_loopP (i + 1, v91, ms ++ [(j : Int)], M91, t + (rows.getD i []).getD j 0, _) (is := [0, 2, 3, 6, 69, 70, 71]) (I' := (fun (i : Nat) (v1 : Value) (ms : List Int) (N : List (Nat × Obj)) (t : Int) (w : World) => (i ≤ k) ∧ (ms = (List.range i).map (fun q => (toN has' q : Int))) ∧ (t = tot i (fun q => el rows q (toN has' q))) ∧ (0 ≤ t ∧ t ≤ i * 1099511627776) ∧ (∀ q, q < i → 0 ≤ el rows q (toN has' q)) ∧ (Bl w0 3 1 v1 i (il ms) N) ∧ (HS w0 w (GameL B c u vv o h n C U V of' has' ++ N))) (i + 1) (v91) (ms ++ [(j : Int)]) (M91) (t + (rows.getD i []).getD j 0) (_)) rfl rfl rfl ?_ ?_
                  · refine ⟨by omega, by rw [List.range_succ, List.map_append, ← hms, hj]; rfl, by rw [ht, hj]; rfl, ⟨by omega, by omega⟩, fun q hq => ?_, hbl, hs⟩
                    by_cases hqi : q = i
                    · rw [hqi, ← hj]; simp only [el]; omega
                    · exact hpos q (by omega)
                  · omega
              · obtain rfl : k = i := by omega
                refine W_seq ?_
                refine W_region ?_
                first | refine L_lss rfl rfl rfl (dtrue (by omega)) ?_ | refine L_lss rfl rfl rfl (dfalse (by omega)) ?_ | refine L_lss rfl rfl rfl rfl ?_
                refine RL_then ?_
                refine W_seq ?_
                refine W_if_false rfl ?_
                refine W_exit' ?_
                refine Ex_then_exit ?_
                refine Ex_loop_exit ?_
                refine Ex_block_hit ?_
                refine Nx_then ?_
                refine W_seq ?_
                refine W_region ?_
                refine L_move rfl rfl ?_
                refine L_move rfl rfl ?_
                refine L_assign rfl rfl ?_
                refine L_assign rfl rfl ?_
                refine L_assign rfl rfl ?_
                refine RL_then ?_
                refine W_ret' ?_
                refine Ex_done3 rfl rfl rfl rfl ?_
                have hml : ms.length = k := by rw [hms]; simp
                exact ⟨_, rfl, v1, N, ms, t, 0, rfl, hs.dropL hO0, by rw [hml]; exact hbl, hAns _ _ _ (.inr ⟨hpos, hms, ht, rfl⟩)⟩
end Go.Proofs.Ytcfdmenmlemahaa
