/-
  A part of the proof: what functions that the statement reaches do, or a plain law on what they do. Each theorem holds under its own premises alone.
-/
import Derived.Test.YtdllakfojligjaaTCG8
import Derived.Test.YtdllakfojligjaaKitP
import Derived.Test.YtdllakfojligjaaKitY
namespace Go.Proofs.Ytdllakfojligjaa
open Go Go.Lk Go.Pr
/-- a table as a square with room for each row to stay alone -/
def msC (rows : List (List Int)) (n r j : Nat) : Int := if r < rows.length then (if j = n + r then 562949953421312 else if n ≤ j ∨ el rows r j < 0 then 4503599627370496 else el rows r j) else 0
theorem msC_rng {rows : List (List Int)} {n r j : Nat} (hc : ∀ r j, r < rows.length → j < n → el rows r j ≤ 1099511627776) : 0 ≤ msC rows n r j ∧ msC rows n r j ≤ 4503599627370496 := by
 unfold msC
 by_cases h5 : r < rows.length
 ·
  rw [if_pos h5]
  split
  ·
   exact ⟨by decide, by decide⟩
  ·
   split
   ·
    exact ⟨by decide, by decide⟩
   ·
    have := hc r j h5 (by omega)
    omega
 ·
  rw [if_neg h5]; exact ⟨by decide, by decide⟩
/-- No row is paired with what may not be. -/
theorem most_real {rows : List (List Int)} {n : Nat} (hc : ∀ r j, r < rows.length → j < n → el rows r j ≤ 1099511627776) {m : Nat} {f : Nat → Nat} (h : Best (n + rows.length) m (msC rows n) f) {i : Nat} (hi : i < rows.length) : (f i < n → 0 ≤ el rows i (f i)) ∧ (n ≤ f i → f i = n + i) := by
 have key : msC rows n i (f i) ≠ 4503599627370496 := fun he => by
  obtain ⟨r1, hr1, hfr⟩ := surj h.bij.lt h.bij.inj (show n + i < n + rows.length by omega)
  have hne : i ≠ r1 := fun hh => by
   rw [← hh] at hfr
   rw [hfr] at he
   unfold msC at he
   rw [if_pos hi, if_pos rfl] at he
   omega
  have h1 := (h.swp (show i < n + rows.length by omega) hr1 hne).1
  rw [hfr, he] at h1
  have h2 : msC rows n i (n + i) = 562949953421312 := by unfold msC; rw [if_pos hi, if_pos rfl]
  have h3 := (msC_rng (rows := rows) (r := r1) (j := f i) hc).2
  by_cases h4 : r1 < rows.length
  ·
   have h5 : msC rows n r1 (n + i) = 4503599627370496 := by unfold msC; rw [if_pos h4, if_neg (by omega), if_pos (.inl (by omega))]
   omega
  ·
   have h5 : msC rows n r1 (n + i) = 0 := by unfold msC; rw [if_neg h4]
   have h6 : msC rows n r1 (f i) = 0 := by unfold msC; rw [if_neg h4]
   omega
 unfold msC at key
 rw [if_pos hi] at key
 refine ⟨fun hlt => ?_, fun hle => ?_⟩
 ·
  rw [if_neg (by omega)] at key
  by_cases h7 : n ≤ f i ∨ el rows i (f i) < 0
  ·
   rw [if_pos h7] at key; exact absurd rfl key
  ·
   omega
 ·
  by_cases h7 : f i = n + i
  ·
   exact h7
  ·
   rw [if_neg h7, if_pos (.inl hle)] at key; exact absurd rfl key
def MostAns (rows : List (List Int)) (ms : List Int) (cnt t e : Int) : Prop :=
 ((chk rows ≠ 0 ∨ rows.length = 0) ∧ ms = [] ∧ cnt = 0 ∧ t = 0 ∧ e = chk rows) ∨
 (chk rows = 0 ∧ rows.length ≠ 0 ∧ ∃ f, Best (wid rows 0 + rows.length) rows.length (msC rows (wid rows 0)) f ∧
  ms = (List.range rows.length).map (fun i => if f i < wid rows 0 then (f i : Int) else -1) ∧ cnt = tot rows.length (fun i => if f i < wid rows 0 then 1 else 0) ∧ t = tot rows.length (fun i => if f i < wid rows 0 then el rows i (f i) else 0) ∧ e = 0)
theorem most_ok (a : Option Addr) (k cp : Nat) (rows : List (List Int)) (rvs : List Value) (w0 : World) (hr : RowsI w0 a rows rvs) (hk : rows.length = k) (hk63 : k ≤ 17592186043904) :
  Ret Try.prog 27 [.slice a k cp] w0 fun v w' => ∃ v1 N ms cnt t e, v = .tuple #[v1, .int .i64 cnt, .int .i64 t, .int .i64 e] ∧ HS w0 w' N ∧ Bl w0 3 1 v1 ms.length (il ms) N ∧ MostAns rows ms cnt t e := by
 refine Ret.start fun w hs => ?_
 have hrl := hr.len
 refine calls_of_W Try.func27 rfl rfl rfl ?_
 refine W_seq ?_
 refine W_region ?_
 refine L_assign rfl rfl ?_
 refine L_assign rfl rfl ?_
 refine L_assign rfl rfl ?_
 refine L_assign rfl rfl ?_
 refine RL_then ?_
 refine W_seq ?_
 refine W_seq ?_
 refine W_region ?_
 refine L_move rfl rfl ?_
 refine L_call rfl Try.fun56 rfl (checked_ok a k cp rows rvs w (hr.old hs Own.nil) hk hk63) ?_
 rintro _ w1 ⟨rfl, hs'⟩
 replace hs := hs.nil hs'
 clear hs'
 by_cases he0 : chk rows ≠ 0
 ·
  refine L_assign rfl rfl ?_
  refine RL_then ?_
  refine W_seq ?_
  refine W_region ?_
  refine L_move rfl rfl ?_
  first | refine L_neq rfl rfl rfl (dtrue (by omega)) ?_ | refine L_neq rfl rfl rfl (dfalse (by omega)) ?_ | refine L_neq rfl rfl rfl rfl ?_
  refine L_move rfl rfl ?_
  first | (refine RL_want rfl rfl ?_; refine L_move rfl rfl ?_) | refine RL_skip rfl rfl rfl rfl ?_ | refine RL_skipU rfl rfl rfl ?_
  first | (refine RL_want rfl rfl ?_; refine L_len rfl Try.underlying67 rfl ?_) | refine RL_skip rfl rfl rfl rfl ?_ | refine RL_skipU rfl rfl rfl ?_
  first | (refine RL_want rfl rfl ?_; (first | refine L_eql rfl rfl rfl (dtrue (by omega)) ?_ | refine L_eql rfl rfl rfl (dfalse (by omega)) ?_ | refine L_eql rfl rfl rfl rfl ?_)) | refine RL_skip rfl rfl rfl rfl ?_ | refine RL_skipU rfl rfl rfl ?_
  first | refine L_pick_t rfl rfl rfl ?_ | refine L_pick_f rfl rfl rfl ?_
  refine RL_then ?_
  refine W_if_true rfl ?_
  refine W_seq ?_
  refine W_region ?_
  refine L_move rfl rfl ?_
  refine L_assign rfl rfl ?_
  refine L_assign rfl rfl ?_
  refine L_assign rfl rfl ?_
  refine L_assign rfl rfl ?_
  refine RL_then ?_
  refine W_ret' ?_
  refine Ex_then_ret ?_
  refine Ex_done4 rfl rfl rfl rfl rfl ?_
  exact ⟨_, rfl, _, [], [], _, _, _, rfl, hs, Bl.nil, .inl ⟨.inl he0, rfl, rfl, rfl, rfl⟩⟩
 ·
  rw [Classical.not_not] at he0
  rw [he0]
  by_cases hk0 : k = 0
  ·
   refine L_assign rfl rfl ?_
   refine RL_then ?_
   refine W_seq ?_
   refine W_region ?_
   refine L_move rfl rfl ?_
   first | refine L_neq rfl rfl rfl (dtrue (by omega)) ?_ | refine L_neq rfl rfl rfl (dfalse (by omega)) ?_ | refine L_neq rfl rfl rfl rfl ?_
   refine L_move rfl rfl ?_
   first | (refine RL_want rfl rfl ?_; refine L_move rfl rfl ?_) | refine RL_skip rfl rfl rfl rfl ?_ | refine RL_skipU rfl rfl rfl ?_
   first | (refine RL_want rfl rfl ?_; refine L_len rfl Try.underlying67 rfl ?_) | refine RL_skip rfl rfl rfl rfl ?_ | refine RL_skipU rfl rfl rfl ?_
   first | (refine RL_want rfl rfl ?_; (first | refine L_eql rfl rfl rfl (dtrue (by omega)) ?_ | refine L_eql rfl rfl rfl (dfalse (by omega)) ?_ | refine L_eql rfl rfl rfl rfl ?_)) | refine RL_skip rfl rfl rfl rfl ?_ | refine RL_skipU rfl rfl rfl ?_
   first | refine L_pick_t rfl rfl rfl ?_ | refine L_pick_f rfl rfl rfl ?_
   refine RL_then ?_
   refine W_if_true rfl ?_
   refine W_seq ?_
   refine W_region ?_
   refine L_move rfl rfl ?_
   refine L_assign rfl rfl ?_
   refine L_assign rfl rfl ?_
   refine L_assign rfl rfl ?_
   refine L_assign rfl rfl ?_
   refine RL_then ?_
   refine W_ret' ?_
   refine Ex_then_ret ?_
   refine Ex_done4 rfl rfl rfl rfl rfl ?_
   exact ⟨_, rfl, _, [], [], _, _, _, rfl, hs, Bl.nil, .inl ⟨.inr (by omega), rfl, rfl, rfl, he0.symm⟩⟩
  ·
   have hF := fine_of_chk he0
   obtain ⟨a0, c0, k1, k2, k3, k4⟩ := hr.row 0 (by omega)
   obtain ⟨m, hm⟩ : ∃ m, m = (rows.getD 0 []).length := ⟨_, rfl⟩
   have hm256 : m ≤ 256 := by rw [hm]; exact hF.wid 0 (by omega)
   have hk256 := hF.len
   rw [← hm] at k1 k2 k3
   obtain ⟨n, hn⟩ : ∃ n, n = m + k := ⟨_, rfl⟩
   have hcel : ∀ r j, r < rows.length → j < m → el rows r j ≤ 1099511627776 := fun r j hr hj => hF.cost r j hr (by rw [hF.same r hr]; show j < (rows.getD 0 []).length; omega)
   refine L_assign rfl rfl ?_
   refine RL_then ?_
   refine W_seq ?_
   refine W_region ?_
   refine L_move rfl rfl ?_
   first | refine L_neq rfl rfl rfl (dtrue (by omega)) ?_ | refine L_neq rfl rfl rfl (dfalse (by omega)) ?_ | refine L_neq rfl rfl rfl rfl ?_
   refine L_move rfl rfl ?_
   first | (refine RL_want rfl rfl ?_; refine L_move rfl rfl ?_) | refine RL_skip rfl rfl rfl rfl ?_ | refine RL_skipU rfl rfl rfl ?_
   first | (refine RL_want rfl rfl ?_; refine L_len rfl Try.underlying67 rfl ?_) | refine RL_skip rfl rfl rfl rfl ?_ | refine RL_skipU rfl rfl rfl ?_
   first | (refine RL_want rfl rfl ?_; (first | refine L_eql rfl rfl rfl (dtrue (by omega)) ?_ | refine L_eql rfl rfl rfl (dfalse (by omega)) ?_ | refine L_eql rfl rfl rfl rfl ?_)) | refine RL_skip rfl rfl rfl rfl ?_ | refine RL_skipU rfl rfl rfl ?_
   first | refine L_pick_t rfl rfl rfl ?_ | refine L_pick_f rfl rfl rfl ?_
   refine RL_then ?_
   refine W_if_false rfl ?_
   refine W_skip' ?_
   refine Nx_then ?_
   refine W_seq ?_
   refine W_region ?_
   refine L_move rfl rfl ?_
   refine L_idx1 rfl Try.underlying67 Try.ti69 rfl rfl natc_0 (by omega) (hr.sl.ao (by omega)) ?_
   skip
   refine L_load rfl Try.one69 rfl ((hr.sl.old hs Own.nil).get k1) ?_
   refine L_len rfl Try.underlying69 rfl ?_
   refine L_assign rfl rfl ?_
   refine RL_then ?_
   refine W_seq ?_
   refine W_region ?_
   refine L_move rfl rfl ?_
   refine L_move rfl rfl ?_
   refine L_len rfl Try.underlying67 rfl ?_
   first | refine L_add rfl rfl rfl (wrp_i64 (by omega)) ?_ | refine L_add rfl rfl rfl rfl ?_
   rw [show ((m : Int) + (k : Int)) = ((n : Nat) : Int) by omega]
   refine L_call rfl Try.fun57 rfl (played_ok n w1 (by omega) (by omega)) ?_
   rintro _ w2 ⟨B, c, u, vv, o, h, rfl, hs2, hO⟩
   have hsz := hs.size
   have hO0 : ∀ {C U V of has : List Int}, Own w0 (GameL B c u vv o h n C U V of has) := fun {C U V of has} => (hO (C := C) (U := U) (V := V) (of := of) (has := has)).le hsz
   replace hs := hs.call hs2 hO
   rw [List.nil_append] at hs
   clear hs2 hO hsz
   refine L_assign rfl rfl ?_
   refine RL_then ?_
   refine W_seq ?_
   refine W_seq ?_
   refine W_region ?_
   refine L_move rfl rfl ?_
   refine L_len rfl Try.underlying67 rfl ?_
   refine L_move rfl rfl ?_
   refine RL_then ?_
   refine W_block ?_
   refine W_loop3 (fun (i : Nat) (C : List Int) (w : World) => [(0, .slice a k cp), (2, .slice none 0 0), (3, .int .i64 0), (4, .int .i64 0), (6, .int .i64 m), (7, .pointer (some ⟨B, 0, none⟩)), (34, .slice a k cp), (35, .int .i64 k), (36, .int .i64 i)]) (fun (i : Nat) (C : List Int) (w : World) => w) (fun (i : Nat) (C : List Int) (w : World) => (i ≤ k) ∧ (C.length = n * n) ∧ (∀ r q, r < n → q < n → cf n C r q = if r < i then msC rows m r q else 0) ∧ (HS w0 w (GameL B c u vv o h n C (List.replicate n 0) (List.replicate n 0) (List.replicate n (-1)) (List.replicate n 0)))) (fun (i : Nat) (C : List Int) (w : World) => k - i) (0) (List.replicate (n * n) 0) (w2) (is := [0, 2, 3, 4, 6, 7, 34, 35, 36]) rfl rfl ?_ ?_
   ·
    refine ⟨Nat.zero_le _, by simp, fun r q hr hq => ?_, hs⟩
    rw [if_neg (Nat.not_lt_zero _)]
    exact grep0 _ _
   ·
    clear hs
    intro i C w hI
    show W _ _ _ _ [(0, .slice a k cp), (2, .slice none 0 0), (3, .int .i64 0), (4, .int .i64 0), (6, .int .i64 m), (7, .pointer (some ⟨B, 0, none⟩)), (34, .slice a k cp), (35, .int .i64 k), (36, .int .i64 i)] w
    obtain ⟨hi, hCl, hcf, hs⟩ := hI
    by_cases hlt : i < k
    ·
     have hin : i < n := by omega
     obtain ⟨ai, ci, g1, g2, g3, g4⟩ := hr.row i (by omega)
     have hwi : (rows.getD i []).length = m := by rw [hm]; exact hF.same i (by omega)
     rw [hwi] at g1 g2 g3
     have hBox : w.heap[B]? = some (Row 116 (GameR n c u vv o h)) := hs.has (B, _) (by simp)
     refine W_seq ?_
     refine W_region ?_
     first | refine L_lss rfl rfl rfl (dtrue (by omega)) ?_ | refine L_lss rfl rfl rfl (dfalse (by omega)) ?_ | refine L_lss rfl rfl rfl rfl ?_
     refine RL_then ?_
     refine W_seq ?_
     refine W_if_true rfl ?_
     refine W_skip' ?_
     refine Nx_then ?_
     refine W_seq ?_
     refine W_block ?_
     refine W_seq ?_
     refine W_region ?_
     refine L_move rfl rfl ?_
     refine L_idx1 rfl Try.underlying67 Try.ti69 rfl rfl (by with_reducible first | exact natc_k _ | exact natc_a1 _ | exact natc_0 | exact natc_1 | exact natc_2 | exact natc_s1 _ (by omega) | exact natc_a2 _ | exact natc_add _ _ | exact natc_mul _ _ | exact natc (by omega)) (by omega) (by first | rfl | exact hr.sl.ao (by omega)) ?_
     refine L_load rfl Try.one69 rfl (by exact (hr.sl.old hs hO0).get g1) ?_
     refine L_assign rfl rfl ?_
     refine L_assign rfl rfl ?_
     refine RL_then ?_
     refine W_seq ?_
     refine W_region ?_
     refine L_move rfl rfl ?_
     refine L_move rfl rfl ?_
     refine L_call rfl Try.fun58 rfl (row_ok B c u vv o h n i w hBox (by omega) (by omega) hin) ?_
     rintro _ w' ⟨rfl, hs'⟩
     replace hs := hs.nil hs'
     clear hs' hBox
     refine L_assign rfl rfl ?_
     refine RL_then ?_
     refine W_seq ?_
     refine W_region ?_
     refine L_move rfl rfl ?_
     refine L_len rfl Try.underlying69 rfl ?_
     refine L_move rfl rfl ?_
     refine RL_then ?_
     refine W_block ?_
     refine W_loop3 (fun (j : Nat) (C : List Int) (w : World) => [(0, .slice a k cp), (2, .slice none 0 0), (3, .int .i64 0), (4, .int .i64 0), (6, .int .i64 m), (7, .pointer (some ⟨B, 0, none⟩)), (8, .int .i64 i), (9, .slice ai m ci), (10, .slice (some ⟨c, i * n, none⟩) n n), (34, .slice a k cp), (35, .int .i64 k), (36, .int .i64 i), (45, .int .i64 n), (46, .int .i64 j)]) (fun (j : Nat) (C : List Int) (w : World) => w) (fun (j : Nat) (C : List Int) (w : World) => (j ≤ n) ∧ (C.length = n * n) ∧ (∀ r q, r < n → q < n → cf n C r q = if r < i ∨ (r = i ∧ q < j) then msC rows m r q else 0) ∧ (HS w0 w (GameL B c u vv o h n C (List.replicate n 0) (List.replicate n 0) (List.replicate n (-1)) (List.replicate n 0)))) (fun (j : Nat) (C : List Int) (w : World) => n - j) (0) (C) (w') (is := [0, 2, 3, 4, 6, 7, 8, 9, 10, 34, 35, 36, 45, 46]) rfl rfl ?_ ?_
     ·
      refine ⟨Nat.zero_le _, hCl, fun r q hr hq => ?_, hs⟩
      rw [hcf r q hr hq]
      simp only [Nat.not_lt_zero, and_false, or_false]
     ·
      clear hs hcf hCl
      intro j C w hI
      show W _ _ _ _ [(0, .slice a k cp), (2, .slice none 0 0), (3, .int .i64 0), (4, .int .i64 0), (6, .int .i64 m), (7, .pointer (some ⟨B, 0, none⟩)), (8, .int .i64 i), (9, .slice ai m ci), (10, .slice (some ⟨c, i * n, none⟩) n n), (34, .slice a k cp), (35, .int .i64 k), (36, .int .i64 i), (45, .int .i64 n), (46, .int .i64 j)] w
      obtain ⟨hj, hCl, hcf, hs⟩ := hI
      by_cases hlt2 : j < n
      ·
       have hij := idx_lt hin hlt2
       have hls : msC rows m i j = if j = m + i then 562949953421312 else if m ≤ j ∨ el rows i j < 0 then 4503599627370496 else el rows i j := by unfold msC; rw [if_pos (by omega)]
       have hnew : ∀ y, y = msC rows m i j → ∀ r q, r < n → q < n → cf n (C.set (i * n + j) y) r q = if r < i ∨ (r = i ∧ q < j + 1) then msC rows m r q else 0 := fun y hy r q hr hq => by
        rw [cf_set hCl hin hlt2 _ hq]
        by_cases h5 : r = i ∧ q = j
        ·
         rw [if_pos h5, if_pos (.inr ⟨h5.1, by omega⟩), hy, h5.1, h5.2]
        ·
         rw [if_neg h5, hcf r q hr hq]
         have : (r < i ∨ (r = i ∧ q < j)) = (r < i ∨ (r = i ∧ q < j + 1)) := by apply propext; omega
         simp only [this]
       by_cases hja : j = m + i
       ·
        refine W_seq ?_
        refine W_region ?_
        first | refine L_lss rfl rfl rfl (dtrue (by omega)) ?_ | refine L_lss rfl rfl rfl (dfalse (by omega)) ?_ | refine L_lss rfl rfl rfl rfl ?_
        refine RL_then ?_
        refine W_seq ?_
        refine W_if_true rfl ?_
        refine W_skip' ?_
        refine Nx_then ?_
        refine W_seq ?_
        refine W_block ?_
        refine W_seq ?_
        refine W_region ?_
        refine L_move rfl rfl ?_
        refine L_assign rfl rfl ?_
        refine RL_then ?_
        refine W_block ?_
        refine W_seq ?_
        refine W_region ?_
        refine L_move rfl rfl ?_
        refine L_move rfl rfl ?_
        refine L_move rfl rfl ?_
        first | refine L_add rfl rfl rfl (wrp_i64 (by omega)) ?_ | refine L_add rfl rfl rfl rfl ?_
        first | refine L_eql rfl rfl rfl (dtrue (by omega)) ?_ | refine L_eql rfl rfl rfl (dfalse (by omega)) ?_ | refine L_eql rfl rfl rfl rfl ?_
        refine L_assign rfl rfl ?_
        refine RL_then ?_
        refine W_if_true rfl ?_
        refine W_region ?_
        refine L_move rfl rfl ?_
        refine L_move rfl rfl ?_
        refine L_idx1 rfl Try.underlying69 Try.ti2 rfl rfl (by with_reducible first | exact natc_k _ | exact natc_a1 _ | exact natc_0 | exact natc_1 | exact natc_2 | exact natc_s1 _ (by omega) | exact natc_a2 _ | exact natc_add _ _ | exact natc_mul _ _ | exact natc (by omega)) (by omega) (by first | rfl | exact hr.sl.ao (by omega)) ?_
        refine L_store hs (i := 0) rfl Try.ti2 rfl rfl (by first | rfl | exact add_lit0 _ _ | exact Addr.add_lit .. | (rw [add_add]; exact add_lit0 _ _)) (by rw [il_length]; omega) rfl ?_
        intro w hs
        try dsimp only [List.set_cons_succ, List.set_cons_zero, List.cons_append, List.nil_append] at hs
        refine RL_nil' ?_
        refine Nx_block ?_
        refine Nx_block ?_
        refine Nx_then ?_
        refine W_region ?_
        first | refine L_add rfl rfl rfl (wrp_i64 (by omega)) ?_ | refine L_add rfl rfl rfl rfl ?_
        refine L_move rfl rfl ?_
        refine RL_nil' ?_
        rw [il_set] at hs
        refine Nx_loopP (j + 1, C.set (i * n + j) 562949953421312, _) (is := [0, 2, 3, 4, 6, 7, 8, 9, 10, 34, 35, 36, 45, 46]) (I' := (fun (j : Nat) (C : List Int) (w : World) => (j ≤ n) ∧ (C.length = n * n) ∧ (∀ r q, r < n → q < n → cf n C r q = if r < i ∨ (r = i ∧ q < j) then msC rows m r q else 0) ∧ (HS w0 w (GameL B c u vv o h n C (List.replicate n 0) (List.replicate n 0) (List.replicate n (-1)) (List.replicate n 0)))) (j + 1) (C.set (i * n + j) 562949953421312) (_)) rfl rfl rfl ?_ ?_
        ·
         exact ⟨by omega, by simp [hCl], hnew _ (by rw [hls, if_pos hja]), hs⟩
        ·
         omega
       ·
        by_cases hjm : m ≤ j
        ·
         refine W_seq ?_
         refine W_region ?_
         first | refine L_lss rfl rfl rfl (dtrue (by omega)) ?_ | refine L_lss rfl rfl rfl (dfalse (by omega)) ?_ | refine L_lss rfl rfl rfl rfl ?_
         refine RL_then ?_
         refine W_seq ?_
         refine W_if_true rfl ?_
         refine W_skip' ?_
         refine Nx_then ?_
         refine W_seq ?_
         refine W_block ?_
         refine W_seq ?_
         refine W_region ?_
         refine L_move rfl rfl ?_
         refine L_assign rfl rfl ?_
         refine RL_then ?_
         refine W_block ?_
         refine W_seq ?_
         refine W_region ?_
         refine L_move rfl rfl ?_
         refine L_move rfl rfl ?_
         refine L_move rfl rfl ?_
         first | refine L_add rfl rfl rfl (wrp_i64 (by omega)) ?_ | refine L_add rfl rfl rfl rfl ?_
         first | refine L_eql rfl rfl rfl (dtrue (by omega)) ?_ | refine L_eql rfl rfl rfl (dfalse (by omega)) ?_ | refine L_eql rfl rfl rfl rfl ?_
         refine L_assign rfl rfl ?_
         refine RL_then ?_
         refine W_if_false rfl ?_
         refine W_seq ?_
         refine W_region ?_
         refine L_move rfl rfl ?_
         refine L_move rfl rfl ?_
         first | refine L_geq rfl rfl rfl (dtrue (by omega)) ?_ | refine L_geq rfl rfl rfl (dfalse (by omega)) ?_ | refine L_geq rfl rfl rfl rfl ?_
         refine L_move rfl rfl ?_
         first | (refine RL_want rfl rfl ?_; refine L_move rfl rfl ?_) | refine RL_skip rfl rfl rfl rfl ?_ | refine RL_skipU rfl rfl rfl ?_
         first | (refine RL_want rfl rfl ?_; refine L_move rfl rfl ?_) | refine RL_skip rfl rfl rfl rfl ?_ | refine RL_skipU rfl rfl rfl ?_
         first | (refine RL_want rfl rfl ?_; refine L_idx1 rfl Try.underlying69 Try.ti2 rfl rfl (by with_reducible first | exact natc_k _ | exact natc_a1 _ | exact natc_0 | exact natc_1 | exact natc_2 | exact natc_s1 _ (by omega) | exact natc_a2 _ | exact natc_add _ _ | exact natc_mul _ _ | exact natc (by omega)) (by omega) (by first | rfl | exact hr.sl.ao (by omega)) ?_) | refine RL_skip rfl rfl rfl rfl ?_ | refine RL_skipU rfl rfl rfl ?_
         first | (refine RL_want rfl rfl ?_; refine L_load rfl Try.one2 rfl (by exact (hr.sl.old hs hO0).get g1) ?_) | refine RL_skip rfl rfl rfl rfl ?_ | refine RL_skipU rfl rfl rfl ?_
         first | (refine RL_want rfl rfl ?_; (first | refine L_lss rfl rfl rfl (dtrue (by omega)) ?_ | refine L_lss rfl rfl rfl (dfalse (by omega)) ?_ | refine L_lss rfl rfl rfl rfl ?_)) | refine RL_skip rfl rfl rfl rfl ?_ | refine RL_skipU rfl rfl rfl ?_
         first | refine L_pick_t rfl rfl rfl ?_ | refine L_pick_f rfl rfl rfl ?_
         refine L_assign rfl rfl ?_
         refine RL_then ?_
         refine W_if_true rfl ?_
         refine W_region ?_
         refine L_move rfl rfl ?_
         refine L_move rfl rfl ?_
         refine L_idx1 rfl Try.underlying69 Try.ti2 rfl rfl (by with_reducible first | exact natc_k _ | exact natc_a1 _ | exact natc_0 | exact natc_1 | exact natc_2 | exact natc_s1 _ (by omega) | exact natc_a2 _ | exact natc_add _ _ | exact natc_mul _ _ | exact natc (by omega)) (by omega) (by first | rfl | exact hr.sl.ao (by omega)) ?_
         refine L_store hs (i := 0) rfl Try.ti2 rfl rfl (by first | rfl | exact add_lit0 _ _ | exact Addr.add_lit .. | (rw [add_add]; exact add_lit0 _ _)) (by rw [il_length]; omega) rfl ?_
         intro w hs
         try dsimp only [List.set_cons_succ, List.set_cons_zero, List.cons_append, List.nil_append] at hs
         refine RL_nil' ?_
         refine Nx_block ?_
         refine Nx_block ?_
         refine Nx_then ?_
         refine W_region ?_
         first | refine L_add rfl rfl rfl (wrp_i64 (by omega)) ?_ | refine L_add rfl rfl rfl rfl ?_
         refine L_move rfl rfl ?_
         refine RL_nil' ?_
         rw [il_set] at hs
         refine Nx_loopP (j + 1, C.set (i * n + j) 4503599627370496, _) (is := [0, 2, 3, 4, 6, 7, 8, 9, 10, 34, 35, 36, 45, 46]) (I' := (fun (j : Nat) (C : List Int) (w : World) => (j ≤ n) ∧ (C.length = n * n) ∧ (∀ r q, r < n → q < n → cf n C r q = if r < i ∨ (r = i ∧ q < j) then msC rows m r q else 0) ∧ (HS w0 w (GameL B c u vv o h n C (List.replicate n 0) (List.replicate n 0) (List.replicate n (-1)) (List.replicate n 0)))) (j + 1) (C.set (i * n + j) 4503599627370496) (_)) rfl rfl rfl ?_ ?_
         ·
          exact ⟨by omega, by simp [hCl], hnew _ (by rw [hls, if_neg hja, if_pos (.inl hjm)]), hs⟩
         ·
          omega
        ·
         skip
         by_cases hneg : (rows.getD i []).getD j 0 < 0
         ·
          refine W_seq ?_
          refine W_region ?_
          first | refine L_lss rfl rfl rfl (dtrue (by omega)) ?_ | refine L_lss rfl rfl rfl (dfalse (by omega)) ?_ | refine L_lss rfl rfl rfl rfl ?_
          refine RL_then ?_
          refine W_seq ?_
          refine W_if_true rfl ?_
          refine W_skip' ?_
          refine Nx_then ?_
          refine W_seq ?_
          refine W_block ?_
          refine W_seq ?_
          refine W_region ?_
          refine L_move rfl rfl ?_
          refine L_assign rfl rfl ?_
          refine RL_then ?_
          refine W_block ?_
          refine W_seq ?_
          refine W_region ?_
          refine L_move rfl rfl ?_
          refine L_move rfl rfl ?_
          refine L_move rfl rfl ?_
          first | refine L_add rfl rfl rfl (wrp_i64 (by omega)) ?_ | refine L_add rfl rfl rfl rfl ?_
          first | refine L_eql rfl rfl rfl (dtrue (by omega)) ?_ | refine L_eql rfl rfl rfl (dfalse (by omega)) ?_ | refine L_eql rfl rfl rfl rfl ?_
          refine L_assign rfl rfl ?_
          refine RL_then ?_
          refine W_if_false rfl ?_
          refine W_seq ?_
          refine W_region ?_
          refine L_move rfl rfl ?_
          refine L_move rfl rfl ?_
          first | refine L_geq rfl rfl rfl (dtrue (by omega)) ?_ | refine L_geq rfl rfl rfl (dfalse (by omega)) ?_ | refine L_geq rfl rfl rfl rfl ?_
          refine L_move rfl rfl ?_
          first | (refine RL_want rfl rfl ?_; refine L_move rfl rfl ?_) | refine RL_skip rfl rfl rfl rfl ?_ | refine RL_skipU rfl rfl rfl ?_
          first | (refine RL_want rfl rfl ?_; refine L_move rfl rfl ?_) | refine RL_skip rfl rfl rfl rfl ?_ | refine RL_skipU rfl rfl rfl ?_
          first | (refine RL_want rfl rfl ?_; refine L_idx1 rfl Try.underlying69 Try.ti2 rfl rfl (by with_reducible first | exact natc_k _ | exact natc_a1 _ | exact natc_0 | exact natc_1 | exact natc_2 | exact natc_s1 _ (by omega) | exact natc_a2 _ | exact natc_add _ _ | exact natc_mul _ _ | exact natc (by omega)) (by omega) (by first | rfl | exact g4.ao (by rw [il_length]; omega)) ?_) | refine RL_skip rfl rfl rfl rfl ?_ | refine RL_skipU rfl rfl rfl ?_
          first | (refine RL_want rfl rfl ?_; refine L_load rfl Try.one2 rfl (by exact (g4.old hs hO0).get (il_get (by omega))) ?_) | refine RL_skip rfl rfl rfl rfl ?_ | refine RL_skipU rfl rfl rfl ?_
          first | (refine RL_want rfl rfl ?_; (first | refine L_lss rfl rfl rfl (dtrue (by omega)) ?_ | refine L_lss rfl rfl rfl (dfalse (by omega)) ?_ | refine L_lss rfl rfl rfl rfl ?_)) | refine RL_skip rfl rfl rfl rfl ?_ | refine RL_skipU rfl rfl rfl ?_
          first | refine L_pick_t rfl rfl rfl ?_ | refine L_pick_f rfl rfl rfl ?_
          refine L_assign rfl rfl ?_
          refine RL_then ?_
          refine W_if_true rfl ?_
          refine W_region ?_
          refine L_move rfl rfl ?_
          refine L_move rfl rfl ?_
          refine L_idx1 rfl Try.underlying69 Try.ti2 rfl rfl (by with_reducible first | exact natc_k _ | exact natc_a1 _ | exact natc_0 | exact natc_1 | exact natc_2 | exact natc_s1 _ (by omega) | exact natc_a2 _ | exact natc_add _ _ | exact natc_mul _ _ | exact natc (by omega)) (by omega) (by first | rfl | exact g4.ao (by rw [il_length]; omega)) ?_
          refine L_store hs (i := 0) rfl Try.ti2 rfl rfl (by first | rfl | exact add_lit0 _ _ | exact Addr.add_lit .. | (rw [add_add]; exact add_lit0 _ _)) (by rw [il_length]; omega) rfl ?_
          intro w hs
          try dsimp only [List.set_cons_succ, List.set_cons_zero, List.cons_append, List.nil_append] at hs
          refine RL_nil' ?_
          refine Nx_block ?_
          refine Nx_block ?_
          refine Nx_then ?_
          refine W_region ?_
          first | refine L_add rfl rfl rfl (wrp_i64 (by omega)) ?_ | refine L_add rfl rfl rfl rfl ?_
          refine L_move rfl rfl ?_
          refine RL_nil' ?_
          rw [il_set] at hs
          refine Nx_loopP (j + 1, C.set (i * n + j) 4503599627370496, _) (is := [0, 2, 3, 4, 6, 7, 8, 9, 10, 34, 35, 36, 45, 46]) (I' := (fun (j : Nat) (C : List Int) (w : World) => (j ≤ n) ∧ (C.length = n * n) ∧ (∀ r q, r < n → q < n → cf n C r q = if r < i ∨ (r = i ∧ q < j) then msC rows m r q else 0) ∧ (HS w0 w (GameL B c u vv o h n C (List.replicate n 0) (List.replicate n 0) (List.replicate n (-1)) (List.replicate n 0)))) (j + 1) (C.set (i * n + j) 4503599627370496) (_)) rfl rfl rfl ?_ ?_
          ·
           exact ⟨by omega, by simp [hCl], hnew _ (by rw [hls, if_neg hja, if_pos (.inr hneg)]), hs⟩
          ·
           omega
         ·
          refine W_seq ?_
          refine W_region ?_
          first | refine L_lss rfl rfl rfl (dtrue (by omega)) ?_ | refine L_lss rfl rfl rfl (dfalse (by omega)) ?_ | refine L_lss rfl rfl rfl rfl ?_
          refine RL_then ?_
          refine W_seq ?_
          refine W_if_true rfl ?_
          refine W_skip' ?_
          refine Nx_then ?_
          refine W_seq ?_
          refine W_block ?_
          refine W_seq ?_
          refine W_region ?_
          refine L_move rfl rfl ?_
          refine L_assign rfl rfl ?_
          refine RL_then ?_
          refine W_block ?_
          refine W_seq ?_
          refine W_region ?_
          refine L_move rfl rfl ?_
          refine L_move rfl rfl ?_
          refine L_move rfl rfl ?_
          first | refine L_add rfl rfl rfl (wrp_i64 (by omega)) ?_ | refine L_add rfl rfl rfl rfl ?_
          first | refine L_eql rfl rfl rfl (dtrue (by omega)) ?_ | refine L_eql rfl rfl rfl (dfalse (by omega)) ?_ | refine L_eql rfl rfl rfl rfl ?_
          refine L_assign rfl rfl ?_
          refine RL_then ?_
          refine W_if_false rfl ?_
          refine W_seq ?_
          refine W_region ?_
          refine L_move rfl rfl ?_
          refine L_move rfl rfl ?_
          first | refine L_geq rfl rfl rfl (dtrue (by omega)) ?_ | refine L_geq rfl rfl rfl (dfalse (by omega)) ?_ | refine L_geq rfl rfl rfl rfl ?_
          refine L_move rfl rfl ?_
          first | (refine RL_want rfl rfl ?_; refine L_move rfl rfl ?_) | refine RL_skip rfl rfl rfl rfl ?_ | refine RL_skipU rfl rfl rfl ?_
          first | (refine RL_want rfl rfl ?_; refine L_move rfl rfl ?_) | refine RL_skip rfl rfl rfl rfl ?_ | refine RL_skipU rfl rfl rfl ?_
          first | (refine RL_want rfl rfl ?_; refine L_idx1 rfl Try.underlying69 Try.ti2 rfl rfl (by with_reducible first | exact natc_k _ | exact natc_a1 _ | exact natc_0 | exact natc_1 | exact natc_2 | exact natc_s1 _ (by omega) | exact natc_a2 _ | exact natc_add _ _ | exact natc_mul _ _ | exact natc (by omega)) (by omega) (by first | rfl | exact g4.ao (by rw [il_length]; omega)) ?_) | refine RL_skip rfl rfl rfl rfl ?_ | refine RL_skipU rfl rfl rfl ?_
          first | (refine RL_want rfl rfl ?_; refine L_load rfl Try.one2 rfl (by exact (g4.old hs hO0).get (il_get (by omega))) ?_) | refine RL_skip rfl rfl rfl rfl ?_ | refine RL_skipU rfl rfl rfl ?_
          first | (refine RL_want rfl rfl ?_; (first | refine L_lss rfl rfl rfl (dtrue (by omega)) ?_ | refine L_lss rfl rfl rfl (dfalse (by omega)) ?_ | refine L_lss rfl rfl rfl rfl ?_)) | refine RL_skip rfl rfl rfl rfl ?_ | refine RL_skipU rfl rfl rfl ?_
          first | refine L_pick_t rfl rfl rfl ?_ | refine L_pick_f rfl rfl rfl ?_
          refine L_assign rfl rfl ?_
          refine RL_then ?_
          refine W_if_false rfl ?_
          refine W_region ?_
          refine L_move rfl rfl ?_
          refine L_move rfl rfl ?_
          refine L_move rfl rfl ?_
          refine L_move rfl rfl ?_
          refine L_idx1 rfl Try.underlying69 Try.ti2 rfl rfl (by with_reducible first | exact natc_k _ | exact natc_a1 _ | exact natc_0 | exact natc_1 | exact natc_2 | exact natc_s1 _ (by omega) | exact natc_a2 _ | exact natc_add _ _ | exact natc_mul _ _ | exact natc (by omega)) (by omega) (by first | rfl | exact g4.ao (by rw [il_length]; omega)) ?_
          refine L_load rfl Try.one2 rfl (by exact (g4.old hs hO0).get (il_get (by omega))) ?_
          refine L_idx1 rfl Try.underlying69 Try.ti2 rfl rfl (by with_reducible first | exact natc_k _ | exact natc_a1 _ | exact natc_0 | exact natc_1 | exact natc_2 | exact natc_s1 _ (by omega) | exact natc_a2 _ | exact natc_add _ _ | exact natc_mul _ _ | exact natc (by omega)) (by omega) (by first | rfl | exact g4.ao (by rw [il_length]; omega)) ?_
          refine L_store hs (i := 0) rfl Try.ti2 rfl rfl (by first | rfl | exact add_lit0 _ _ | exact Addr.add_lit .. | (rw [add_add]; exact add_lit0 _ _)) (by rw [il_length]; omega) rfl ?_
          intro w hs
          try dsimp only [List.set_cons_succ, List.set_cons_zero, List.cons_append, List.nil_append] at hs
          refine RL_nil' ?_
          refine Nx_block ?_
          refine Nx_block ?_
          refine Nx_then ?_
          refine W_region ?_
          first | refine L_add rfl rfl rfl (wrp_i64 (by omega)) ?_ | refine L_add rfl rfl rfl rfl ?_
          refine L_move rfl rfl ?_
          refine RL_nil' ?_
          rw [il_set] at hs
          refine Nx_loopP (j + 1, C.set (i * n + j) ((rows.getD i []).getD j 0), _) (is := [0, 2, 3, 4, 6, 7, 8, 9, 10, 34, 35, 36, 45, 46]) (I' := (fun (j : Nat) (C : List Int) (w : World) => (j ≤ n) ∧ (C.length = n * n) ∧ (∀ r q, r < n → q < n → cf n C r q = if r < i ∨ (r = i ∧ q < j) then msC rows m r q else 0) ∧ (HS w0 w (GameL B c u vv o h n C (List.replicate n 0) (List.replicate n 0) (List.replicate n (-1)) (List.replicate n 0)))) (j + 1) (C.set (i * n + j) ((rows.getD i []).getD j 0)) (_)) rfl rfl rfl ?_ ?_
          ·
           exact ⟨by omega, by simp [hCl], hnew _ (by rw [hls, if_neg hja, if_neg (fun h => by rcases h with h | h; omega; exact hneg h)]), hs⟩
          ·
           omega
      ·
       have hjn : j = n := by omega
       rw [hjn] at hcf
       refine W_seq ?_
       refine W_region ?_
       first | refine L_lss rfl rfl rfl (dtrue (by omega)) ?_ | refine L_lss rfl rfl rfl (dfalse (by omega)) ?_ | refine L_lss rfl rfl rfl rfl ?_
       refine RL_then ?_
       refine W_seq ?_
       refine W_if_false rfl ?_
       refine W_exit' ?_
       refine Ex_then_exit ?_
       refine Ex_loop_exit ?_
       refine Ex_block_hit ?_
       refine Nx_block ?_
       refine Nx_then ?_
       refine W_region ?_
       first | refine L_add rfl rfl rfl (wrp_i64 (by omega)) ?_ | refine L_add rfl rfl rfl rfl ?_
       refine L_move rfl rfl ?_
       refine RL_nil' ?_
       refine Nx_loopP (i + 1, C, _) (is := [0, 2, 3, 4, 6, 7, 34, 35, 36]) (I' := (fun (i : Nat) (C : List Int) (w : World) => (i ≤ k) ∧ (C.length = n * n) ∧ (∀ r q, r < n → q < n → cf n C r q = if r < i then msC rows m r q else 0) ∧ (HS w0 w (GameL B c u vv o h n C (List.replicate n 0) (List.replicate n 0) (List.replicate n (-1)) (List.replicate n 0)))) (i + 1) (C) (_)) rfl rfl rfl ?_ ?_
       ·
        refine ⟨by omega, hCl, fun r q hr hq => ?_, hs⟩
        rw [hcf r q hr hq]
        have : (r < i ∨ (r = i ∧ q < n)) = (r < i + 1) := by apply propext; omega
        simp only [this]
       ·
        omega
    ·
     have hki : i = k := by omega
     rw [hki] at hcf
     have hcf' : ∀ r q, r < n → q < n → cf n C r q = msC rows m r q := fun r q hr hq => by
      rw [hcf r q hr hq]
      by_cases h5 : r < k
      ·
       rw [if_pos h5]
      ·
       unfold msC; rw [if_neg h5, if_neg (by omega)]
     have hC : CostOk n C := ⟨hCl, fun r q hr hq => by
      rw [hcf' r q hr hq]
      exact msC_rng hcel⟩
     clear hcf
     refine W_seq ?_
     refine W_region ?_
     first | refine L_lss rfl rfl rfl (dtrue (by omega)) ?_ | refine L_lss rfl rfl rfl (dfalse (by omega)) ?_ | refine L_lss rfl rfl rfl rfl ?_
     refine RL_then ?_
     refine W_seq ?_
     refine W_if_false rfl ?_
     refine W_exit' ?_
     refine Ex_then_exit ?_
     refine Ex_loop_exit ?_
     refine Ex_block_hit ?_
     refine Nx_then ?_
     refine W_seq ?_
     refine W_region ?_
     refine L_move rfl rfl ?_
     refine L_call rfl Try.fun59 rfl (play_ok B c u vv o h n C w hC (by omega) (by omega) (HS.named (fun p hp => hs.has p hp) hs.nodup)) ?_
     rintro _ w3 ⟨U, V, of, has, hs3, hUl, hVl, hofl, hhasl, hSq, hhas0, hbU, hbV⟩
     replace hs := hs.callU (A := GameL B c u vv o h n C (List.replicate n 0) (List.replicate n 0) (List.replicate n (-1)) (List.replicate n 0)) (U := GameL B c u vv o h n C U V of has) (L2 := []) (N := []) rfl (by simpa using hs3) Own.nil
     rw [List.append_nil, List.append_nil] at hs
     obtain ⟨hPf, hhr⟩ := hSq.pf hhas0
     have hof : InR n of := ⟨hofl, hSq.all⟩
     have hhas : InR n has := ⟨hhasl, hhr⟩
     clear hs3 hSq hhas0 hhr
     refine RL_then ?_
     refine W_seq ?_
     refine W_region ?_
     refine L_move rfl rfl ?_
     refine L_move rfl rfl ?_
     refine L_len rfl Try.underlying67 rfl ?_
     refine L_call rfl Try.fun60 rfl (first_ok B c u vv o h n C U V of has k w3 hC (by omega) (by omega) (by omega) hUl hVl hof hhas hbU hbV hPf (HS.named (fun p hp => hs.has p hp) hs.nodup)) ?_
     rintro _ w4 ⟨of', has', hs4, hof', hhas', hPf', hLM⟩
     replace hs := hs.callU (A := GameL B c u vv o h n C U V of has) (U := GameL B c u vv o h n C U V of' has') (L2 := []) (N := []) rfl (by simpa using hs4) Own.nil
     rw [List.append_nil, List.append_nil] at hs
     have hBest : Best n k (msC rows m) (toN has') := Best.congr (hPf'.best hLM) hcf'
     have hreal : ∀ q, q < k → (toN has' q < m → 0 ≤ el rows q (toN has' q)) ∧ (m ≤ toN has' q → toN has' q = m + q) := fun q hq => most_real (rows := rows) (n := m) hcel (m := k) (by rw [hk, ← hn]; exact hBest) (by omega)
     have hhl := hhas'.len
     clear hs4 hPf' hLM hPf hof hhas hof'
     refine RL_then ?_
     refine W_seq ?_
     refine W_seq ?_
     refine W_region ?_
     refine L_move rfl rfl ?_
     refine L_len rfl Try.underlying67 rfl ?_
     refine L_move rfl rfl ?_
     refine RL_then ?_
     refine W_block ?_
     refine W_loop7 (fun (i : Nat) (v1 : Value) (ms : List Int) (N : List (Nat × Obj)) (cnt : Int) (t : Int) (w : World) => [(0, .slice a k cp), (2, v1), (3, .int .i64 cnt), (4, .int .i64 t), (6, .int .i64 m), (7, .pointer (some ⟨B, 0, none⟩)), (87, .slice a k cp), (88, .int .i64 k), (89, .int .i64 i)]) (fun (i : Nat) (v1 : Value) (ms : List Int) (N : List (Nat × Obj)) (cnt : Int) (t : Int) (w : World) => w) (fun (i : Nat) (v1 : Value) (ms : List Int) (N : List (Nat × Obj)) (cnt : Int) (t : Int) (w : World) => (i ≤ k) ∧ (ms = (List.range i).map (fun q => if toN has' q < m then (toN has' q : Int) else -1)) ∧ (cnt = tot i (fun q => if toN has' q < m then 1 else 0)) ∧ (t = tot i (fun q => if toN has' q < m then el rows q (toN has' q) else 0)) ∧ (0 ≤ t ∧ t ≤ i * 1099511627776) ∧ (0 ≤ cnt ∧ cnt ≤ i) ∧ (Bl w0 3 1 v1 i (il ms) N) ∧ (HS w0 w (GameL B c u vv o h n C U V of' has' ++ N))) (fun (i : Nat) (v1 : Value) (ms : List Int) (N : List (Nat × Obj)) (cnt : Int) (t : Int) (w : World) => k - i) (0) (.slice none 0 0) ([]) ([]) (0) (0) (w4) (is := [0, 2, 3, 4, 6, 7, 87, 88, 89]) rfl rfl ?_ ?_
     ·
      exact ⟨Nat.zero_le _, rfl, rfl, rfl, ⟨by omega, by omega⟩, ⟨by omega, by omega⟩, Bl.nil, by simpa using hs⟩
     ·
      clear hs hki
      intro i v1 ms N cnt t w hI
      show W _ _ _ _ [(0, .slice a k cp), (2, v1), (3, .int .i64 cnt), (4, .int .i64 t), (6, .int .i64 m), (7, .pointer (some ⟨B, 0, none⟩)), (87, .slice a k cp), (88, .int .i64 k), (89, .int .i64 i)] w
      obtain ⟨hi, hms, hcnt, ht, htb, hcb, hbl, hs⟩ := hI
      by_cases hlt : i < k
      ·
       have hin : i < n := by omega
       obtain ⟨ai, ci, g1, g2, g3, g4⟩ := hr.row i (by omega)
       have hwi : (rows.getD i []).length = m := by rw [hm]; exact hF.same i (by omega)
       rw [hwi] at g1 g2 g3
       obtain ⟨hje, hjn⟩ := hhas'.nat hin
       have hreali := hreal i hlt
       obtain ⟨j, hj⟩ : ∃ j, j = toN has' i := ⟨_, rfl⟩
       rw [← hj] at hje hjn hreali
       refine W_seq ?_
       refine W_region ?_
       first | refine L_lss rfl rfl rfl (dtrue (by omega)) ?_ | refine L_lss rfl rfl rfl (dfalse (by omega)) ?_ | refine L_lss rfl rfl rfl rfl ?_
       refine RL_then ?_
       refine W_seq ?_
       refine W_if_true rfl ?_
       refine W_skip' ?_
       refine Nx_then ?_
       refine W_seq ?_
       refine W_block ?_
       refine W_seq ?_
       refine W_region ?_
       refine L_move rfl rfl ?_
       refine L_idx1 rfl Try.underlying67 Try.ti69 rfl rfl (by with_reducible first | exact natc_k _ | exact natc_a1 _ | exact natc_0 | exact natc_1 | exact natc_2 | exact natc_s1 _ (by omega) | exact natc_a2 _ | exact natc_add _ _ | exact natc_mul _ _ | exact natc (by omega)) (by omega) (by first | rfl | exact hr.sl.ao (by omega) | exact g4.ao (by rw [il_length]; omega)) ?_
       refine L_load rfl Try.one69 rfl (by first | exact hs.cellA (i := 5) rfl rfl | exact hs.cellA (i := 4) rfl (il_get (by omega)) | exact (hr.sl.old hs (hO0.app hbl.own)).get g1 | exact (g4.old hs (hO0.app hbl.own)).get (il_get (by omega))) ?_
       refine L_assign rfl rfl ?_
       refine L_assign rfl rfl ?_
       refine RL_then ?_
       refine W_seq ?_
       refine W_region ?_
       refine L_move rfl rfl ?_
       refine L_nilCheck rfl rfl ?_
       refine L_fieldAddr rfl (off := 5) Try.underlying116 rfl rfl Try.ti31 rfl ?_
       refine L_load rfl Try.one31 rfl (by first | exact hs.cellA (i := 5) rfl rfl | exact hs.cellA (i := 4) rfl (il_get (by omega)) | exact (hr.sl.old hs (hO0.app hbl.own)).get g1 | exact (g4.old hs (hO0.app hbl.own)).get (il_get (by omega))) ?_
       refine L_move rfl rfl ?_
       refine L_idx1 rfl Try.underlying31 Try.ti3 rfl rfl (by with_reducible first | exact natc_k _ | exact natc_a1 _ | exact natc_0 | exact natc_1 | exact natc_2 | exact natc_s1 _ (by omega) | exact natc_a2 _ | exact natc_add _ _ | exact natc_mul _ _ | exact natc (by omega)) (by omega) (by first | rfl | exact hr.sl.ao (by omega) | exact g4.ao (by rw [il_length]; omega)) ?_
       refine L_load rfl Try.one3 rfl (by first | exact hs.cellA (i := 5) rfl rfl | exact hs.cellA (i := 4) rfl (il_get (by omega)) | exact (hr.sl.old hs (hO0.app hbl.own)).get g1 | exact (g4.old hs (hO0.app hbl.own)).get (il_get (by omega))) ?_
       refine L_assign rfl rfl ?_
       refine RL_then ?_
       refine W_seq ?_
       refine W_seq ?_
       refine W_region ?_
       rw [hje]
       by_cases hjm : m ≤ j
       ·
        refine L_move rfl rfl ?_
        refine L_move rfl rfl ?_
        first | refine L_geq rfl rfl rfl (dtrue (by omega)) ?_ | refine L_geq rfl rfl rfl (dfalse (by omega)) ?_ | refine L_geq rfl rfl rfl rfl ?_
        refine RL_then ?_
        refine W_if_true rfl ?_
        refine W_seq ?_
        refine W_region ?_
        refine L_move rfl rfl ?_
        refine L_buildSlice rfl hs Try.underlying31 Try.ti3 rfl (by decide) rfl (by simp [Value.cells]) ?_
        intro b105 w hb105 hnb105 hs
        try simp only [List.flatMap_cons, List.flatMap_nil, cells_int, cells_float, cells_complex, cells_bool, cells_string, cells_pointer, cells_slice, cells_map, cells_agg, List.append_nil, List.set_cons_succ, List.set_cons_zero, List.cons_append, List.nil_append] at hs
        refine L_appendT rfl Try.underlying31 Try.ti3 rfl (L := GameL B c u vv o h n C U V of' has') hs (by assumption) hbl rfl rfl rfl (by simp [Value.oneCell'] ) (by omega) (by omega) ?_
        intro v106 w M106 hs hbl
        refine L_assign rfl rfl ?_
        refine RL_then ?_
        refine W_exit' ?_
        refine Ex_then_exit ?_
        refine Ex_block_hit ?_
        refine Nx_then ?_
        refine W_region ?_
        first | refine L_add rfl rfl rfl (wrp_i64 (by omega)) ?_ | refine L_add rfl rfl rfl rfl ?_
        refine L_move rfl rfl ?_
        refine RL_nil' ?_
        rw [show il ms ++ [Value.int IntKind.i64 (-1)] = il (ms ++ [-1]) from il_snoc ms (-1)] at hbl
        refine Nx_loopP (i + 1, v106, ms ++ [-1], M106, cnt, t, _) (is := [0, 2, 3, 4, 6, 7, 87, 88, 89]) (I' := (fun (i : Nat) (v1 : Value) (ms : List Int) (N : List (Nat × Obj)) (cnt : Int) (t : Int) (w : World) => (i ≤ k) ∧ (ms = (List.range i).map (fun q => if toN has' q < m then (toN has' q : Int) else -1)) ∧ (cnt = tot i (fun q => if toN has' q < m then 1 else 0)) ∧ (t = tot i (fun q => if toN has' q < m then el rows q (toN has' q) else 0)) ∧ (0 ≤ t ∧ t ≤ i * 1099511627776) ∧ (0 ≤ cnt ∧ cnt ≤ i) ∧ (Bl w0 3 1 v1 i (il ms) N) ∧ (HS w0 w (GameL B c u vv o h n C U V of' has' ++ N))) (i + 1) (v106) (ms ++ [-1]) (M106) (cnt) (t) (_)) rfl rfl rfl ?_ ?_
        ·
         refine ⟨by omega, by rw [List.range_succ, List.map_append, ← hms, List.map_cons, List.map_nil, ← hj, if_neg (by omega)], ?_, ?_, ⟨by omega, by omega⟩, ⟨by omega, by omega⟩, hbl, hs⟩
         ·
          rw [hcnt]; simp only [tot]; rw [← hj, if_neg (by omega)]; omega
         ·
          rw [ht]; simp only [tot]; rw [← hj, if_neg (by omega)]; omega
        ·
         omega
       ·
        have hel : (rows.getD i []).getD j 0 ≤ 1099511627776 := hcel i j (by omega) (by omega)
        have hel0 : 0 ≤ (rows.getD i []).getD j 0 := hreali.1 (by omega)
        refine L_move rfl rfl ?_
        refine L_move rfl rfl ?_
        first | refine L_geq rfl rfl rfl (dtrue (by omega)) ?_ | refine L_geq rfl rfl rfl (dfalse (by omega)) ?_ | refine L_geq rfl rfl rfl rfl ?_
        refine RL_then ?_
        refine W_if_false rfl ?_
        refine W_skip' ?_
        refine Nx_then ?_
        refine W_seq ?_
        refine W_region ?_
        refine L_move rfl rfl ?_
        refine L_move rfl rfl ?_
        refine L_buildSlice rfl hs Try.underlying31 Try.ti3 rfl (by decide) rfl (by simp [Value.cells]) ?_
        intro b109 w hb109 hnb109 hs
        try simp only [List.flatMap_cons, List.flatMap_nil, cells_int, cells_float, cells_complex, cells_bool, cells_string, cells_pointer, cells_slice, cells_map, cells_agg, List.append_nil, List.set_cons_succ, List.set_cons_zero, List.cons_append, List.nil_append] at hs
        refine L_appendT rfl Try.underlying31 Try.ti3 rfl (L := GameL B c u vv o h n C U V of' has') hs (by assumption) hbl rfl rfl rfl (by simp [Value.oneCell'] ) (by omega) (by omega) ?_
        intro v110 w M110 hs hbl
        refine L_assign rfl rfl ?_
        refine RL_then ?_
        refine W_seq ?_
        refine W_region ?_
        refine L_move rfl rfl ?_
        first | refine L_add rfl rfl rfl (wrp_i64 (by omega)) ?_ | refine L_add rfl rfl rfl rfl ?_
        refine L_assign rfl rfl ?_
        refine RL_then ?_
        refine W_region ?_
        refine L_move rfl rfl ?_
        refine L_move rfl rfl ?_
        refine L_move rfl rfl ?_
        refine L_idx1 rfl Try.underlying69 Try.ti2 rfl rfl (by with_reducible first | exact natc_k _ | exact natc_a1 _ | exact natc_0 | exact natc_1 | exact natc_2 | exact natc_s1 _ (by omega) | exact natc_a2 _ | exact natc_add _ _ | exact natc_mul _ _ | exact natc (by omega)) (by omega) (by first | rfl | exact hr.sl.ao (by omega) | exact g4.ao (by rw [il_length]; omega)) ?_
        refine L_load rfl Try.one2 rfl (by first | exact hs.cellA (i := 5) rfl rfl | exact hs.cellA (i := 4) rfl (il_get (by omega)) | exact (hr.sl.old hs (hO0.app hbl.own)).get g1 | exact (g4.old hs (hO0.app hbl.own)).get (il_get (by omega))) ?_
        first | refine L_add rfl rfl rfl (wrp_i64 (by omega)) ?_ | refine L_add rfl rfl rfl rfl ?_
        refine L_assign rfl rfl ?_
        refine RL_nil' ?_
        refine Nx_block ?_
        refine Nx_then ?_
        refine W_region ?_
        first | refine L_add rfl rfl rfl (wrp_i64 (by omega)) ?_ | refine L_add rfl rfl rfl rfl ?_
        refine L_move rfl rfl ?_
        refine RL_nil' ?_
        rw [il_snoc] at hbl
        refine Nx_loopP (i + 1, v110, ms ++ [(j : Int)], M110, cnt + 1, t + (rows.getD i []).getD j 0, _) (is := [0, 2, 3, 4, 6, 7, 87, 88, 89]) (I' := (fun (i : Nat) (v1 : Value) (ms : List Int) (N : List (Nat × Obj)) (cnt : Int) (t : Int) (w : World) => (i ≤ k) ∧ (ms = (List.range i).map (fun q => if toN has' q < m then (toN has' q : Int) else -1)) ∧ (cnt = tot i (fun q => if toN has' q < m then 1 else 0)) ∧ (t = tot i (fun q => if toN has' q < m then el rows q (toN has' q) else 0)) ∧ (0 ≤ t ∧ t ≤ i * 1099511627776) ∧ (0 ≤ cnt ∧ cnt ≤ i) ∧ (Bl w0 3 1 v1 i (il ms) N) ∧ (HS w0 w (GameL B c u vv o h n C U V of' has' ++ N))) (i + 1) (v110) (ms ++ [(j : Int)]) (M110) (cnt + 1) (t + (rows.getD i []).getD j 0) (_)) rfl rfl rfl ?_ ?_
        ·
         refine ⟨by omega, by rw [List.range_succ, List.map_append, ← hms, List.map_cons, List.map_nil, ← hj, if_pos (by omega)], ?_, ?_, ⟨by omega, by omega⟩, ⟨by omega, by omega⟩, hbl, hs⟩
         ·
          rw [hcnt]; simp only [tot]; rw [← hj, if_pos (by omega)]
         ·
          rw [ht]; simp only [tot]; rw [← hj, if_pos (by omega)]
        ·
         omega
      ·
       obtain rfl : k = i := by omega
       refine W_seq ?_
       refine W_region ?_
       first | refine L_lss rfl rfl rfl (dtrue (by omega)) ?_ | refine L_lss rfl rfl rfl (dfalse (by omega)) ?_ | refine L_lss rfl rfl rfl rfl ?_
       refine RL_then ?_
       refine W_seq ?_
       refine W_if_false rfl ?_
       refine W_exit' ?_
       refine Ex_then_exit ?_
       refine Ex_loop_exit ?_
       refine Ex_block_hit ?_
       refine Nx_then ?_
       refine W_seq ?_
       refine W_region ?_
       refine L_move rfl rfl ?_
       refine L_move rfl rfl ?_
       refine L_move rfl rfl ?_
       refine L_assign rfl rfl ?_
       refine L_assign rfl rfl ?_
       refine L_assign rfl rfl ?_
       refine L_assign rfl rfl ?_
       refine RL_then ?_
       refine W_ret' ?_
       refine Ex_done4 rfl rfl rfl rfl rfl ?_
       have hml : ms.length = k := by rw [hms]; simp
       refine ⟨_, rfl, v1, N, ms, cnt, t, 0, rfl, hs.dropL hO0, by rw [hml]; exact hbl, .inr ⟨he0, by omega, toN has', ?_, ?_, ?_, ?_, rfl⟩⟩
       ·
        rw [show wid rows 0 = m from hm.symm, hk, ← hn]; exact hBest
       ·
        rw [show wid rows 0 = m from hm.symm, hk]; exact hms
       ·
        rw [show wid rows 0 = m from hm.symm, hk]; exact hcnt
       ·
        rw [show wid rows 0 = m from hm.symm, hk]; exact ht
end Go.Proofs.Ytdllakfojligjaa
