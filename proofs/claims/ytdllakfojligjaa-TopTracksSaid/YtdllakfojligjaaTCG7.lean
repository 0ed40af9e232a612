/-
  A part of the proof: what functions that the statement reaches do, or a plain law on what they do. Each theorem holds under its own premises alone.
-/
import Derived.Test.YtdllakfojligjaaTCG6
namespace Go.Proofs.Ytdllakfojligjaa
open Go Go.Lk Go.Pr
/-- Rows of whole numbers that lie anywhere. -/
structure RowsI (w : World) (a : Option Addr) (rows : List (List Int)) (rvs : List Value) : Prop where
 sl : SlC w a rvs
 len : rvs.length = rows.length
 row : ∀ i, i < rows.length → ∃ ai ci, rvs[i]? = some (.slice ai (rows.getD i []).length ci) ∧ (rows.getD i []).length ≤ ci ∧ (rows.getD i []).length ≤ 17592186043904 ∧ SlC w ai (il (rows.getD i []))
theorem RowsI.old {w0 w : World} {L : List (Nat × Obj)} {a : Option Addr} {rows : List (List Int)} {rvs : List Value} (h : RowsI w0 a rows rvs) (hs : HS w0 w L) (ho : Own w0 L) : RowsI w a rows rvs :=
 ⟨h.sl.old hs ho, h.len, fun i hi => let ⟨ai, ci, h1, h3, h4, h2⟩ := h.row i hi; ⟨ai, ci, h1, h3, h4, h2.old hs ho⟩⟩
/-- an entry of a table -/
abbrev el (rows : List (List Int)) (i j : Nat) : Int := (rows.getD i []).getD j 0
abbrev wid (rows : List (List Int)) (i : Nat) : Nat := (rows.getD i []).length
def chk (rows : List (List Int)) : Int :=
 if decide (256 < rows.length) || rows.any (fun r => decide (256 < r.length)) then 3
 else if rows.any (fun r => decide (r.length ≠ wid rows 0)) then 5
 else if rows.any (fun r => r.any fun c => decide (1099511627776 < c)) then 2 else 0
theorem any_idx {rows : List (List Int)} {p : List Int → Bool} : rows.any p = true ↔ ∃ i, i < rows.length ∧ p (rows.getD i []) = true := by
 rw [List.any_eq_true]
 constructor
 ·
  rintro ⟨x, hx, hp⟩
  obtain ⟨i, hi, he⟩ := List.getElem_of_mem hx
  exact ⟨i, hi, by simp only [List.getD, List.getElem?_eq_getElem hi, Option.getD_some, he]; exact hp⟩
 ·
  rintro ⟨i, hi, hp⟩
  refine ⟨rows[i], List.getElem_mem _, ?_⟩
  simpa only [List.getD, List.getElem?_eq_getElem hi, Option.getD_some] using hp
theorem any_no {rows : List (List Int)} {p : List Int → Bool} (h : ∀ i, i < rows.length → p (rows.getD i []) = false) : rows.any p = false := by
 cases hh : rows.any p with
 | false => rfl
 | true =>
  obtain ⟨i, hi, hp⟩ := any_idx.1 hh
  rw [h i hi] at hp; cases hp
theorem anyI {l : List Int} {p : Int → Bool} : l.any p = true ↔ ∃ i, i < l.length ∧ p (l.getD i 0) = true := by
 rw [List.any_eq_true]
 constructor
 ·
  rintro ⟨x, hx, hp⟩
  obtain ⟨i, hi, he⟩ := List.getElem_of_mem hx
  exact ⟨i, hi, by simp only [List.getD, List.getElem?_eq_getElem hi, Option.getD_some, he]; exact hp⟩
 ·
  rintro ⟨i, hi, hp⟩
  refine ⟨l[i], List.getElem_mem _, ?_⟩
  simpa only [List.getD, List.getElem?_eq_getElem hi, Option.getD_some] using hp
theorem anyI_no {l : List Int} {p : Int → Bool} (h : ∀ i, i < l.length → p (l.getD i 0) = false) : l.any p = false := by
 cases hh : l.any p with
 | false => rfl
 | true =>
  obtain ⟨i, hi, hp⟩ := anyI.1 hh
  rw [h i hi] at hp; cases hp
/-- A table that may be. -/
structure Fine (rows : List (List Int)) : Prop where
 len : rows.length ≤ 256
 wid : ∀ i, i < rows.length → wid rows i ≤ 256
 same : ∀ i, i < rows.length → Ytdllakfojligjaa.wid rows i = Ytdllakfojligjaa.wid rows 0
 cost : ∀ i j, i < rows.length → j < Ytdllakfojligjaa.wid rows i → el rows i j ≤ 1099511627776
theorem fine_of_chk {rows : List (List Int)} (h : chk rows = 0) : Fine rows := by
 unfold chk at h
 split at h
 ·
  cases h
 ·
  rename_i h1
  split at h
  ·
   cases h
  ·
   rename_i h2
   split at h
   ·
    cases h
   ·
    rename_i h3
    simp only [Bool.not_eq_true, Bool.or_eq_false_iff, decide_eq_false_iff_not] at h1 h2 h3
    have a1 : ∀ i, i < rows.length → wid rows i ≤ 256 := fun i hi => Classical.byContradiction fun hn => by
     have := any_idx (p := fun r : List Int => decide (256 < r.length)).2 ⟨i, hi, show (fun r : List Int => decide (256 < r.length)) (rows.getD i []) = true from decide_eq_true (by simp only [wid] at hn; omega)⟩
     rw [h1.2] at this; cases this
    have a2 : ∀ i, i < rows.length → wid rows i = wid rows 0 := fun i hi => Classical.byContradiction fun hn => by
     have := any_idx (p := fun r : List Int => decide (r.length ≠ wid rows 0)).2 ⟨i, hi, show (fun r : List Int => decide (r.length ≠ wid rows 0)) (rows.getD i []) = true from decide_eq_true hn⟩
     rw [h2] at this; cases this
    refine ⟨by omega, a1, a2, fun i j hi hj => Classical.byContradiction fun hn => ?_⟩
    have := any_idx (p := fun r : List Int => r.any fun c => decide (1099511627776 < c)).2 ⟨i, hi, show (fun r : List Int => r.any fun c => decide (1099511627776 < c)) (rows.getD i []) = true from anyI.2 ⟨j, hj, decide_eq_true (by simp only [el] at hn; omega)⟩⟩
    rw [h3] at this; cases this
theorem checked_ok (a : Option Addr) (k c : Nat) (rows : List (List Int)) (rvs : List Value) (w0 : World) (hr : RowsI w0 a rows rvs) (hk : rows.length = k) (hk63 : k ≤ 17592186043904) :
  Ret Try.prog 56 [.slice a k c] w0 fun v w' => v = .int .i64 (chk rows) ∧ HS w0 w' [] := by
 refine Ret.start fun w hs => ?_
 have hrl := hr.len
 refine calls_of_W Try.func56 rfl rfl rfl ?_
 by_cases hbig : 256 < k
 ·
  have he : chk rows = 3 := by unfold chk; rw [decide_eq_true (by omega), Bool.true_or, if_pos rfl]
  refine W_seq ?_
  refine W_region ?_
  refine L_assign rfl rfl ?_
  refine RL_then ?_
  refine W_seq ?_
  refine W_seq ?_
  refine W_region ?_
  refine L_move rfl rfl ?_
  refine L_len rfl Try.underlying67 rfl ?_
  first | refine L_gtr rfl rfl rfl (dtrue (by omega)) ?_ | refine L_gtr rfl rfl rfl (dfalse (by omega)) ?_ | refine L_gtr rfl rfl rfl rfl ?_
  refine RL_then ?_
  refine W_if_true rfl ?_
  refine W_seq ?_
  refine W_region ?_
  refine L_assign rfl rfl ?_
  refine RL_then ?_
  refine W_ret' ?_
  refine Ex_then_ret ?_
  refine Ex_done1 rfl rfl ?_
  exact ⟨_, rfl, by rw [he], hs⟩
 ·
  refine W_seq ?_
  refine W_region ?_
  refine L_assign rfl rfl ?_
  refine RL_then ?_
  refine W_seq ?_
  refine W_seq ?_
  refine W_region ?_
  refine L_move rfl rfl ?_
  refine L_len rfl Try.underlying67 rfl ?_
  first | refine L_gtr rfl rfl rfl (dtrue (by omega)) ?_ | refine L_gtr rfl rfl rfl (dfalse (by omega)) ?_ | refine L_gtr rfl rfl rfl rfl ?_
  refine RL_then ?_
  refine W_if_false rfl ?_
  refine W_skip' ?_
  refine Nx_then ?_
  refine W_seq ?_
  refine W_seq ?_
  refine W_region ?_
  refine L_move rfl rfl ?_
  refine L_len rfl Try.underlying67 rfl ?_
  refine L_move rfl rfl ?_
  refine RL_then ?_
  refine W_block ?_
  refine W_loop2 (fun (i : Nat) (w : World) => [(0, .slice a k c), (14, .slice a k c), (15, .int .i64 k), (16, .int .i64 i)]) (fun (i : Nat) (w : World) => w) (fun (i : Nat) (w : World) => (i ≤ k) ∧ (∀ q, q < i → wid rows q ≤ 256) ∧ (HS w0 w [])) (fun (i : Nat) (w : World) => k - i) (0) (w) (is := [0, 14, 15, 16]) rfl rfl ?_ ?_
  ·
   exact ⟨Nat.zero_le _, fun _ h => absurd h (Nat.not_lt_zero _), hs⟩
  ·
   clear hs
   intro i w hI
   show W _ _ _ _ [(0, .slice a k c), (14, .slice a k c), (15, .int .i64 k), (16, .int .i64 i)] w
   obtain ⟨hi, hA, hs⟩ := hI
   by_cases hlt : i < k
   ·
    obtain ⟨ai, ci, g1, g2, g3, g4⟩ := hr.row i (by omega)
    by_cases hw : 256 < (rows.getD i []).length
    ·
     have he : chk rows = 3 := by
      unfold chk
      rw [any_idx (p := fun r : List Int => decide (256 < r.length)).2 ⟨i, by omega, show (fun r : List Int => decide (256 < r.length)) (rows.getD i []) = true from decide_eq_true hw⟩, Bool.or_true, if_pos rfl]
     refine W_seq ?_
     refine W_region ?_
     first | refine L_lss rfl rfl rfl (dtrue (by omega)) ?_ | refine L_lss rfl rfl rfl (dfalse (by omega)) ?_ | refine L_lss rfl rfl rfl rfl ?_
     refine RL_then ?_
     refine W_seq ?_
     refine W_if_true rfl ?_
     refine W_skip' ?_
     refine Nx_then ?_
     refine W_seq ?_
     refine W_block ?_
     refine W_seq ?_
     refine W_region ?_
     refine L_idx1 rfl Try.underlying67 Try.ti69 rfl rfl (by with_reducible first | exact natc_k _ | exact natc_a1 _ | exact natc_0 | exact natc_1 | exact natc_2 | exact natc_s1 _ (by omega) | exact natc_a2 _ | exact natc_add _ _ | exact natc_mul _ _ | exact natc (by omega)) (by omega) (hr.sl.ao (by omega)) ?_
     refine L_load rfl Try.one69 rfl (by exact (hr.sl.old hs Own.nil).get g1) ?_
     refine L_assign rfl rfl ?_
     refine RL_then ?_
     refine W_seq ?_
     refine W_region ?_
     refine L_move rfl rfl ?_
     refine L_len rfl Try.underlying69 rfl ?_
     first | refine L_gtr rfl rfl rfl (dtrue (by omega)) ?_ | refine L_gtr rfl rfl rfl (dfalse (by omega)) ?_ | refine L_gtr rfl rfl rfl rfl ?_
     refine RL_then ?_
     refine W_if_true rfl ?_
     refine W_seq ?_
     refine W_region ?_
     refine L_assign rfl rfl ?_
     refine RL_then ?_
     refine W_ret' ?_
     refine Ex_block_ret ?_
     refine Ex_then_ret ?_
     refine Ex_loop_ret ?_
     refine Ex_block_ret ?_
     refine Ex_then_ret ?_
     refine Ex_done1 rfl rfl ?_
     exact ⟨_, rfl, by rw [he], hs⟩
    ·
     refine W_seq ?_
     refine W_region ?_
     first | refine L_lss rfl rfl rfl (dtrue (by omega)) ?_ | refine L_lss rfl rfl rfl (dfalse (by omega)) ?_ | refine L_lss rfl rfl rfl rfl ?_
     refine RL_then ?_
     refine W_seq ?_
     refine W_if_true rfl ?_
     refine W_skip' ?_
     refine Nx_then ?_
     refine W_seq ?_
     refine W_block ?_
     refine W_seq ?_
     refine W_region ?_
     refine L_idx1 rfl Try.underlying67 Try.ti69 rfl rfl (by with_reducible first | exact natc_k _ | exact natc_a1 _ | exact natc_0 | exact natc_1 | exact natc_2 | exact natc_s1 _ (by omega) | exact natc_a2 _ | exact natc_add _ _ | exact natc_mul _ _ | exact natc (by omega)) (by omega) (hr.sl.ao (by omega)) ?_
     refine L_load rfl Try.one69 rfl (by exact (hr.sl.old hs Own.nil).get g1) ?_
     refine L_assign rfl rfl ?_
     refine RL_then ?_
     refine W_seq ?_
     refine W_region ?_
     refine L_move rfl rfl ?_
     refine L_len rfl Try.underlying69 rfl ?_
     first | refine L_gtr rfl rfl rfl (dtrue (by omega)) ?_ | refine L_gtr rfl rfl rfl (dfalse (by omega)) ?_ | refine L_gtr rfl rfl rfl rfl ?_
     refine RL_then ?_
     refine W_if_false rfl ?_
     refine W_skip' ?_
     refine Nx_block ?_
     refine Nx_then ?_
     refine W_region ?_
     first | refine L_add rfl rfl rfl (wrp_i64 (by omega)) ?_ | refine L_add rfl rfl rfl rfl ?_
     refine L_move rfl rfl ?_
     refine RL_nil' ?_
     refine Nx_loopP (i + 1, w) (is := [0, 14, 15, 16]) (I' := (fun (i : Nat) (w : World) => (i ≤ k) ∧ (∀ q, q < i → wid rows q ≤ 256) ∧ (HS w0 w [])) (i + 1) (w)) rfl rfl rfl ?_ ?_
     ·
      refine ⟨by omega, fun q hq => ?_, hs⟩
      by_cases hqi : q = i
      ·
       rw [hqi]; simp only [wid]; omega
      ·
       exact hA q (by omega)
     ·
      omega
   ·
    obtain rfl : k = i := by omega
    have h1 : (decide (256 < rows.length) || rows.any (fun r => decide (256 < r.length))) = false := by
     rw [decide_eq_false (by omega), Bool.false_or]
     exact any_no fun q hq => decide_eq_false (by have := hA q (by omega); simp only [wid] at this; omega)
    refine W_seq ?_
    refine W_region ?_
    first | refine L_lss rfl rfl rfl (dtrue (by omega)) ?_ | refine L_lss rfl rfl rfl (dfalse (by omega)) ?_ | refine L_lss rfl rfl rfl rfl ?_
    refine RL_then ?_
    refine W_seq ?_
    refine W_if_false rfl ?_
    refine W_exit' ?_
    refine Ex_then_exit ?_
    refine Ex_loop_exit ?_
    refine Ex_block_hit ?_
    refine Nx_then ?_
    refine W_seq ?_
    refine W_seq ?_
    refine W_region ?_
    refine L_move rfl rfl ?_
    refine L_len rfl Try.underlying67 rfl ?_
    refine L_move rfl rfl ?_
    refine RL_then ?_
    refine W_block ?_
    refine W_loop2 (fun (i : Nat) (w : World) => [(0, .slice a k c), (24, .slice a k c), (25, .int .i64 k), (26, .int .i64 i)]) (fun (i : Nat) (w : World) => w) (fun (i : Nat) (w : World) => (i ≤ k) ∧ (∀ q, q < i → wid rows q = wid rows 0) ∧ (HS w0 w [])) (fun (i : Nat) (w : World) => k - i) (0) (w) (is := [0, 24, 25, 26]) rfl rfl ?_ ?_
    ·
     exact ⟨Nat.zero_le _, fun _ h => absurd h (Nat.not_lt_zero _), hs⟩
    ·
     clear hs hi
     intro i w hI
     show W _ _ _ _ [(0, .slice a k c), (24, .slice a k c), (25, .int .i64 k), (26, .int .i64 i)] w
     obtain ⟨hi, hB, hs⟩ := hI
     by_cases hlt : i < k
     ·
      obtain ⟨ai, ci, g1, g2, g3, g4⟩ := hr.row i (by omega)
      obtain ⟨a0, c0, k1, k2, k3, k4⟩ := hr.row 0 (by omega)
      by_cases hw : (rows.getD i []).length ≠ (rows.getD 0 []).length
      ·
       have he : chk rows = 5 := by
        unfold chk
        rw [h1, any_idx (p := fun r : List Int => decide (r.length ≠ wid rows 0)).2 ⟨i, by omega, show (fun r : List Int => decide (r.length ≠ wid rows 0)) (rows.getD i []) = true from decide_eq_true hw⟩]
        rfl
       refine W_seq ?_
       refine W_region ?_
       first | refine L_lss rfl rfl rfl (dtrue (by omega)) ?_ | refine L_lss rfl rfl rfl (dfalse (by omega)) ?_ | refine L_lss rfl rfl rfl rfl ?_
       refine RL_then ?_
       refine W_seq ?_
       refine W_if_true rfl ?_
       refine W_skip' ?_
       refine Nx_then ?_
       refine W_seq ?_
       refine W_block ?_
       refine W_seq ?_
       refine W_region ?_
       refine L_idx1 rfl Try.underlying67 Try.ti69 rfl rfl (by with_reducible first | exact natc_k _ | exact natc_a1 _ | exact natc_0 | exact natc_1 | exact natc_2 | exact natc_s1 _ (by omega) | exact natc_a2 _ | exact natc_add _ _ | exact natc_mul _ _ | exact natc (by omega)) (by omega) (hr.sl.ao (by omega)) ?_
       refine L_load rfl Try.one69 rfl (by first | exact (hr.sl.old hs Own.nil).get g1 | exact (hr.sl.old hs Own.nil).get k1) ?_
       refine L_assign rfl rfl ?_
       refine RL_then ?_
       refine W_seq ?_
       refine W_region ?_
       refine L_move rfl rfl ?_
       refine L_len rfl Try.underlying69 rfl ?_
       refine L_move rfl rfl ?_
       refine L_idx1 rfl Try.underlying67 Try.ti69 rfl rfl natc_0 (by omega) (hr.sl.ao (by omega)) ?_
       skip
       refine L_load rfl Try.one69 rfl ((hr.sl.old hs Own.nil).get k1) ?_
       refine L_len rfl Try.underlying69 rfl ?_
       first | refine L_neq rfl rfl rfl (dtrue (by omega)) ?_ | refine L_neq rfl rfl rfl (dfalse (by omega)) ?_ | refine L_neq rfl rfl rfl rfl ?_
       refine RL_then ?_
       refine W_if_true rfl ?_
       refine W_seq ?_
       refine W_region ?_
       refine L_assign rfl rfl ?_
       refine RL_then ?_
       refine W_ret' ?_
       refine Ex_block_ret ?_
       refine Ex_then_ret ?_
       refine Ex_loop_ret ?_
       refine Ex_block_ret ?_
       refine Ex_then_ret ?_
       refine Ex_done1 rfl rfl ?_
       exact ⟨_, rfl, by rw [he], hs⟩
      ·
       rw [Classical.not_not] at hw
       refine W_seq ?_
       refine W_region ?_
       first | refine L_lss rfl rfl rfl (dtrue (by omega)) ?_ | refine L_lss rfl rfl rfl (dfalse (by omega)) ?_ | refine L_lss rfl rfl rfl rfl ?_
       refine RL_then ?_
       refine W_seq ?_
       refine W_if_true rfl ?_
       refine W_skip' ?_
       refine Nx_then ?_
       refine W_seq ?_
       refine W_block ?_
       refine W_seq ?_
       refine W_region ?_
       refine L_idx1 rfl Try.underlying67 Try.ti69 rfl rfl (by with_reducible first | exact natc_k _ | exact natc_a1 _ | exact natc_0 | exact natc_1 | exact natc_2 | exact natc_s1 _ (by omega) | exact natc_a2 _ | exact natc_add _ _ | exact natc_mul _ _ | exact natc (by omega)) (by omega) (hr.sl.ao (by omega)) ?_
       refine L_load rfl Try.one69 rfl (by first | exact (hr.sl.old hs Own.nil).get g1 | exact (hr.sl.old hs Own.nil).get k1) ?_
       refine L_assign rfl rfl ?_
       refine RL_then ?_
       refine W_seq ?_
       refine W_region ?_
       refine L_move rfl rfl ?_
       refine L_len rfl Try.underlying69 rfl ?_
       refine L_move rfl rfl ?_
       refine L_idx1 rfl Try.underlying67 Try.ti69 rfl rfl natc_0 (by omega) (hr.sl.ao (by omega)) ?_
       skip
       refine L_load rfl Try.one69 rfl ((hr.sl.old hs Own.nil).get k1) ?_
       refine L_len rfl Try.underlying69 rfl ?_
       first | refine L_neq rfl rfl rfl (dtrue (by omega)) ?_ | refine L_neq rfl rfl rfl (dfalse (by omega)) ?_ | refine L_neq rfl rfl rfl rfl ?_
       refine RL_then ?_
       refine W_if_false rfl ?_
       refine W_skip' ?_
       refine Nx_block ?_
       refine Nx_then ?_
       refine W_region ?_
       first | refine L_add rfl rfl rfl (wrp_i64 (by omega)) ?_ | refine L_add rfl rfl rfl rfl ?_
       refine L_move rfl rfl ?_
       refine RL_nil' ?_
       refine Nx_loopP (i + 1, w) (is := [0, 24, 25, 26]) (I' := (fun (i : Nat) (w : World) => (i ≤ k) ∧ (∀ q, q < i → wid rows q = wid rows 0) ∧ (HS w0 w [])) (i + 1) (w)) rfl rfl rfl ?_ ?_
       ·
        refine ⟨by omega, fun q hq => ?_, hs⟩
        by_cases hqi : q = i
        ·
         rw [hqi]; exact hw
        ·
         exact hB q (by omega)
       ·
        omega
     ·
      obtain rfl : k = i := by omega
      have h2 : rows.any (fun r => decide (r.length ≠ wid rows 0)) = false := any_no fun q hq => decide_eq_false fun hn => hn (hB q (by omega))
      refine W_seq ?_
      refine W_region ?_
      first | refine L_lss rfl rfl rfl (dtrue (by omega)) ?_ | refine L_lss rfl rfl rfl (dfalse (by omega)) ?_ | refine L_lss rfl rfl rfl rfl ?_
      refine RL_then ?_
      refine W_seq ?_
      refine W_if_false rfl ?_
      refine W_exit' ?_
      refine Ex_then_exit ?_
      refine Ex_loop_exit ?_
      refine Ex_block_hit ?_
      refine Nx_then ?_
      refine W_seq ?_
      refine W_seq ?_
      refine W_region ?_
      refine L_move rfl rfl ?_
      refine L_len rfl Try.underlying67 rfl ?_
      refine L_move rfl rfl ?_
      refine RL_then ?_
      refine W_block ?_
      refine W_loop2 (fun (i : Nat) (w : World) => [(0, .slice a k c), (38, .slice a k c), (39, .int .i64 k), (40, .int .i64 i)]) (fun (i : Nat) (w : World) => w) (fun (i : Nat) (w : World) => (i ≤ k) ∧ (∀ q j, q < i → j < wid rows q → el rows q j ≤ 1099511627776) ∧ (HS w0 w [])) (fun (i : Nat) (w : World) => k - i) (0) (w) (is := [0, 38, 39, 40]) rfl rfl ?_ ?_
      ·
       exact ⟨Nat.zero_le _, fun _ _ h => absurd h (Nat.not_lt_zero _), hs⟩
      ·
       clear hs hi
       intro i w hI
       show W _ _ _ _ [(0, .slice a k c), (38, .slice a k c), (39, .int .i64 k), (40, .int .i64 i)] w
       obtain ⟨hi, hD, hs⟩ := hI
       by_cases hlt : i < k
       ·
        obtain ⟨ai, ci, g1, g2, g3, g4⟩ := hr.row i (by omega)
        obtain ⟨m, hm⟩ : ∃ m, m = (rows.getD i []).length := ⟨_, rfl⟩
        rw [← hm] at g1 g2 g3
        refine W_seq ?_
        refine W_region ?_
        first | refine L_lss rfl rfl rfl (dtrue (by omega)) ?_ | refine L_lss rfl rfl rfl (dfalse (by omega)) ?_ | refine L_lss rfl rfl rfl rfl ?_
        refine RL_then ?_
        refine W_seq ?_
        refine W_if_true rfl ?_
        refine W_skip' ?_
        refine Nx_then ?_
        refine W_seq ?_
        refine W_block ?_
        refine W_seq ?_
        refine W_region ?_
        refine L_idx1 rfl Try.underlying67 Try.ti69 rfl rfl (by with_reducible first | exact natc_k _ | exact natc_a1 _ | exact natc_0 | exact natc_1 | exact natc_2 | exact natc_s1 _ (by omega) | exact natc_a2 _ | exact natc_add _ _ | exact natc_mul _ _ | exact natc (by omega)) (by omega) (hr.sl.ao (by omega)) ?_
        refine L_load rfl Try.one69 rfl (by exact (hr.sl.old hs Own.nil).get g1) ?_
        refine L_assign rfl rfl ?_
        refine RL_then ?_
        refine W_seq ?_
        refine W_region ?_
        refine L_move rfl rfl ?_
        refine L_len rfl Try.underlying69 rfl ?_
        refine L_move rfl rfl ?_
        refine RL_then ?_
        refine W_block ?_
        refine W_loop2 (fun (j : Nat) (w : World) => [(0, .slice a k c), (38, .slice a k c), (39, .int .i64 k), (40, .int .i64 i), (44, .slice ai m ci), (45, .int .i64 m), (46, .int .i64 j)]) (fun (j : Nat) (w : World) => w) (fun (j : Nat) (w : World) => (j ≤ m) ∧ (∀ q, q < j → el rows i q ≤ 1099511627776) ∧ (HS w0 w [])) (fun (j : Nat) (w : World) => m - j) (0) (w) (is := [0, 38, 39, 40, 44, 45, 46]) rfl rfl ?_ ?_
        ·
         exact ⟨Nat.zero_le _, fun _ h => absurd h (Nat.not_lt_zero _), hs⟩
        ·
         clear hs
         intro j w hI
         show W _ _ _ _ [(0, .slice a k c), (38, .slice a k c), (39, .int .i64 k), (40, .int .i64 i), (44, .slice ai m ci), (45, .int .i64 m), (46, .int .i64 j)] w
         obtain ⟨hj, hE, hs⟩ := hI
         by_cases hlt2 : j < m
         ·
          skip
          by_cases hw : 1099511627776 < (rows.getD i []).getD j 0
          ·
           have he : chk rows = 2 := by
            unfold chk
            rw [h1, h2, any_idx (p := fun r : List Int => r.any fun c => decide (1099511627776 < c)).2 ⟨i, by omega, show (fun r : List Int => r.any fun c => decide (1099511627776 < c)) (rows.getD i []) = true from anyI.2 ⟨j, by omega, decide_eq_true hw⟩⟩]
            rfl
           refine W_seq ?_
           refine W_region ?_
           first | refine L_lss rfl rfl rfl (dtrue (by omega)) ?_ | refine L_lss rfl rfl rfl (dfalse (by omega)) ?_ | refine L_lss rfl rfl rfl rfl ?_
           refine RL_then ?_
           refine W_seq ?_
           refine W_if_true rfl ?_
           refine W_skip' ?_
           refine Nx_then ?_
           refine W_seq ?_
           refine W_block ?_
           refine W_seq ?_
           refine W_region ?_
           refine L_idx1 rfl Try.underlying69 Try.ti2 rfl rfl (by with_reducible first | exact natc_k _ | exact natc_a1 _ | exact natc_0 | exact natc_1 | exact natc_2 | exact natc_s1 _ (by omega) | exact natc_a2 _ | exact natc_add _ _ | exact natc_mul _ _ | exact natc (by omega)) (by omega) (g4.ao (by rw [il_length]; omega)) ?_
           refine L_load rfl Try.one2 rfl (by exact (g4.old hs Own.nil).get (il_get (by omega))) ?_
           refine L_assign rfl rfl ?_
           refine RL_then ?_
           refine W_seq ?_
           refine W_region ?_
           refine L_move rfl rfl ?_
           first | refine L_gtr rfl rfl rfl (dtrue (by omega)) ?_ | refine L_gtr rfl rfl rfl (dfalse (by omega)) ?_ | refine L_gtr rfl rfl rfl rfl ?_
           refine RL_then ?_
           refine W_if_true rfl ?_
           refine W_seq ?_
           refine W_region ?_
           refine L_assign rfl rfl ?_
           refine RL_then ?_
           refine W_ret' ?_
           refine Ex_block_ret ?_
           refine Ex_then_ret ?_
           refine Ex_loop_ret ?_
           refine Ex_block_ret ?_
           refine Ex_block_ret ?_
           refine Ex_then_ret ?_
           refine Ex_loop_ret ?_
           refine Ex_block_ret ?_
           refine Ex_then_ret ?_
           refine Ex_done1 rfl rfl ?_
           exact ⟨_, rfl, by rw [he], hs⟩
          ·
           refine W_seq ?_
           refine W_region ?_
           first | refine L_lss rfl rfl rfl (dtrue (by omega)) ?_ | refine L_lss rfl rfl rfl (dfalse (by omega)) ?_ | refine L_lss rfl rfl rfl rfl ?_
           refine RL_then ?_
           refine W_seq ?_
           refine W_if_true rfl ?_
           refine W_skip' ?_
           refine Nx_then ?_
           refine W_seq ?_
           refine W_block ?_
           refine W_seq ?_
           refine W_region ?_
           refine L_idx1 rfl Try.underlying69 Try.ti2 rfl rfl (by with_reducible first | exact natc_k _ | exact natc_a1 _ | exact natc_0 | exact natc_1 | exact natc_2 | exact natc_s1 _ (by omega) | exact natc_a2 _ | exact natc_add _ _ | exact natc_mul _ _ | exact natc (by omega)) (by omega) (g4.ao (by rw [il_length]; omega)) ?_
           refine L_load rfl Try.one2 rfl (by exact (g4.old hs Own.nil).get (il_get (by omega))) ?_
           refine L_assign rfl rfl ?_
           refine RL_then ?_
           refine W_seq ?_
           refine W_region ?_
           refine L_move rfl rfl ?_
           first | refine L_gtr rfl rfl rfl (dtrue (by omega)) ?_ | refine L_gtr rfl rfl rfl (dfalse (by omega)) ?_ | refine L_gtr rfl rfl rfl rfl ?_
           refine RL_then ?_
           refine W_if_false rfl ?_
           refine W_skip' ?_
           refine Nx_block ?_
           refine Nx_then ?_
           refine W_region ?_
           first | refine L_add rfl rfl rfl (wrp_i64 (by omega)) ?_ | refine L_add rfl rfl rfl rfl ?_
           refine L_move rfl rfl ?_
           refine RL_nil' ?_
           refine Nx_loopP (j + 1, w) (is := [0, 38, 39, 40, 44, 45, 46]) (I' := (fun (j : Nat) (w : World) => (j ≤ m) ∧ (∀ q, q < j → el rows i q ≤ 1099511627776) ∧ (HS w0 w [])) (j + 1) (w)) rfl rfl rfl ?_ ?_
           ·
            refine ⟨by omega, fun q hq => ?_, hs⟩
            by_cases hqj : q = j
            ·
             rw [hqj]; simp only [el]; omega
            ·
             exact hE q (by omega)
           ·
            omega
         ·
          refine W_seq ?_
          refine W_region ?_
          first | refine L_lss rfl rfl rfl (dtrue (by omega)) ?_ | refine L_lss rfl rfl rfl (dfalse (by omega)) ?_ | refine L_lss rfl rfl rfl rfl ?_
          refine RL_then ?_
          refine W_seq ?_
          refine W_if_false rfl ?_
          refine W_exit' ?_
          refine Ex_then_exit ?_
          refine Ex_loop_exit ?_
          refine Ex_block_hit ?_
          refine Nx_block ?_
          refine Nx_then ?_
          refine W_region ?_
          first | refine L_add rfl rfl rfl (wrp_i64 (by omega)) ?_ | refine L_add rfl rfl rfl rfl ?_
          refine L_move rfl rfl ?_
          refine RL_nil' ?_
          refine Nx_loopP (i + 1, w) (is := [0, 38, 39, 40]) (I' := (fun (i : Nat) (w : World) => (i ≤ k) ∧ (∀ q j, q < i → j < wid rows q → el rows q j ≤ 1099511627776) ∧ (HS w0 w [])) (i + 1) (w)) rfl rfl rfl ?_ ?_
          ·
           refine ⟨by omega, fun q j2 hq hj2 => ?_, hs⟩
           by_cases hqi : q = i
           ·
            rw [hqi] at hj2 ⊢; exact hE j2 (by simp only [wid] at hj2; omega)
           ·
            exact hD q j2 (by omega) hj2
          ·
           omega
       ·
        obtain rfl : k = i := by omega
        have he : chk rows = 0 := by
         unfold chk
         rw [h1, h2, any_no fun q hq => anyI_no fun j hj => decide_eq_false (by have := hD q j (by omega) hj; simp only [el] at this; omega)]
         rfl
        refine W_seq ?_
        refine W_region ?_
        first | refine L_lss rfl rfl rfl (dtrue (by omega)) ?_ | refine L_lss rfl rfl rfl (dfalse (by omega)) ?_ | refine L_lss rfl rfl rfl rfl ?_
        refine RL_then ?_
        refine W_seq ?_
        refine W_if_false rfl ?_
        refine W_exit' ?_
        refine Ex_then_exit ?_
        refine Ex_loop_exit ?_
        refine Ex_block_hit ?_
        refine Nx_then ?_
        refine W_seq ?_
        refine W_region ?_
        refine L_assign rfl rfl ?_
        refine RL_then ?_
        refine W_ret' ?_
        refine Ex_done1 rfl rfl ?_
        exact ⟨_, rfl, by rw [he], hs⟩
end Go.Proofs.Ytdllakfojligjaa
