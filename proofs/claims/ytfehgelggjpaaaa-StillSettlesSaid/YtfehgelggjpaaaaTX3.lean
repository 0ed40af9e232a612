/-
  A part of the proof: what functions that the statement reaches do, or a plain law on what they do. Each theorem holds under its own premises alone.
-/
import Derived.Test.YtfehgelggjpaaaaTX2
namespace Go.Proofs.Ytfehgelggjpaaaa
open Go Go.Lk
theorem cancel_arg (a : Option Addr) (k c : Nat) (order : Int) (w : World) (h : order < 0 ∨ 8 < order ∨ (k : Int) ≤ order) : Ret Try.prog 12 [.slice a k c, .int .i64 order] w fun v w' => v = .tuple #[.slice none 0 0, .int .i64 2] ∧ w' = w := by
  refine calls_of_W Try.func12 rfl rfl rfl ?_
  by_cases h1 : order < 0
  · refine W_seq ?_
    refine W_region ?_
    refine L_assign rfl rfl ?_
    refine L_assign rfl rfl ?_
    refine RL_then ?_
    refine W_seq ?_
    refine W_seq ?_
    refine W_region ?_
    refine L_move rfl rfl ?_
    first | refine L_lss rfl rfl rfl (dtrue (by omega)) ?_ | refine L_lss rfl rfl rfl (dfalse (by omega)) ?_ | refine L_lss rfl rfl rfl rfl ?_
    refine L_move rfl rfl ?_
    first | (refine RL_want rfl rfl ?_; refine L_move rfl rfl ?_) | refine RL_skip rfl rfl rfl rfl ?_ | refine RL_skipU rfl rfl rfl ?_
    first | (refine RL_want rfl rfl ?_; (first | refine L_gtr rfl rfl rfl (dtrue (by omega)) ?_ | refine L_gtr rfl rfl rfl (dfalse (by omega)) ?_ | refine L_gtr rfl rfl rfl rfl ?_)) | refine RL_skip rfl rfl rfl rfl ?_ | refine RL_skipU rfl rfl rfl ?_
    first | refine L_pick_t rfl rfl rfl ?_ | refine L_pick_f rfl rfl rfl ?_
    refine L_move rfl rfl ?_
    first | (refine RL_want rfl rfl ?_; refine L_move rfl rfl ?_) | refine RL_skip rfl rfl rfl rfl ?_ | refine RL_skipU rfl rfl rfl ?_
    first | (refine RL_want rfl rfl ?_; refine L_len rfl Try.underlying29 rfl ?_) | refine RL_skip rfl rfl rfl rfl ?_ | refine RL_skipU rfl rfl rfl ?_
    first | (refine RL_want rfl rfl ?_; refine L_move rfl rfl ?_) | refine RL_skip rfl rfl rfl rfl ?_ | refine RL_skipU rfl rfl rfl ?_
    first | (refine RL_want rfl rfl ?_; (first | refine L_leq rfl rfl rfl (dtrue (by omega)) ?_ | refine L_leq rfl rfl rfl (dfalse (by omega)) ?_ | refine L_leq rfl rfl rfl rfl ?_)) | refine RL_skip rfl rfl rfl rfl ?_ | refine RL_skipU rfl rfl rfl ?_
    first | refine L_pick_t rfl rfl rfl ?_ | refine L_pick_f rfl rfl rfl ?_
    refine RL_then ?_
    refine W_if_true rfl ?_
    refine W_seq ?_
    refine W_region ?_
    refine L_assign rfl rfl ?_
    refine L_assign rfl rfl ?_
    refine RL_then ?_
    refine W_ret' ?_
    refine Ex_then_ret ?_
    refine Ex_done2 rfl rfl rfl ?_
    exact ⟨_, rfl, rfl, rfl⟩
  · by_cases h2 : 8 < order
    · refine W_seq ?_
      refine W_region ?_
      refine L_assign rfl rfl ?_
      refine L_assign rfl rfl ?_
      refine RL_then ?_
      refine W_seq ?_
      refine W_seq ?_
      refine W_region ?_
      refine L_move rfl rfl ?_
      first | refine L_lss rfl rfl rfl (dtrue (by omega)) ?_ | refine L_lss rfl rfl rfl (dfalse (by omega)) ?_ | refine L_lss rfl rfl rfl rfl ?_
      refine L_move rfl rfl ?_
      first | (refine RL_want rfl rfl ?_; refine L_move rfl rfl ?_) | refine RL_skip rfl rfl rfl rfl ?_ | refine RL_skipU rfl rfl rfl ?_
      first | (refine RL_want rfl rfl ?_; (first | refine L_gtr rfl rfl rfl (dtrue (by omega)) ?_ | refine L_gtr rfl rfl rfl (dfalse (by omega)) ?_ | refine L_gtr rfl rfl rfl rfl ?_)) | refine RL_skip rfl rfl rfl rfl ?_ | refine RL_skipU rfl rfl rfl ?_
      first | refine L_pick_t rfl rfl rfl ?_ | refine L_pick_f rfl rfl rfl ?_
      refine L_move rfl rfl ?_
      first | (refine RL_want rfl rfl ?_; refine L_move rfl rfl ?_) | refine RL_skip rfl rfl rfl rfl ?_ | refine RL_skipU rfl rfl rfl ?_
      first | (refine RL_want rfl rfl ?_; refine L_len rfl Try.underlying29 rfl ?_) | refine RL_skip rfl rfl rfl rfl ?_ | refine RL_skipU rfl rfl rfl ?_
      first | (refine RL_want rfl rfl ?_; refine L_move rfl rfl ?_) | refine RL_skip rfl rfl rfl rfl ?_ | refine RL_skipU rfl rfl rfl ?_
      first | (refine RL_want rfl rfl ?_; (first | refine L_leq rfl rfl rfl (dtrue (by omega)) ?_ | refine L_leq rfl rfl rfl (dfalse (by omega)) ?_ | refine L_leq rfl rfl rfl rfl ?_)) | refine RL_skip rfl rfl rfl rfl ?_ | refine RL_skipU rfl rfl rfl ?_
      first | refine L_pick_t rfl rfl rfl ?_ | refine L_pick_f rfl rfl rfl ?_
      refine RL_then ?_
      refine W_if_true rfl ?_
      refine W_seq ?_
      refine W_region ?_
      refine L_assign rfl rfl ?_
      refine L_assign rfl rfl ?_
      refine RL_then ?_
      refine W_ret' ?_
      refine Ex_then_ret ?_
      refine Ex_done2 rfl rfl rfl ?_
      exact ⟨_, rfl, rfl, rfl⟩
    · refine W_seq ?_
      refine W_region ?_
      refine L_assign rfl rfl ?_
      refine L_assign rfl rfl ?_
      refine RL_then ?_
      refine W_seq ?_
      refine W_seq ?_
      refine W_region ?_
      refine L_move rfl rfl ?_
      first | refine L_lss rfl rfl rfl (dtrue (by omega)) ?_ | refine L_lss rfl rfl rfl (dfalse (by omega)) ?_ | refine L_lss rfl rfl rfl rfl ?_
      refine L_move rfl rfl ?_
      first | (refine RL_want rfl rfl ?_; refine L_move rfl rfl ?_) | refine RL_skip rfl rfl rfl rfl ?_ | refine RL_skipU rfl rfl rfl ?_
      first | (refine RL_want rfl rfl ?_; (first | refine L_gtr rfl rfl rfl (dtrue (by omega)) ?_ | refine L_gtr rfl rfl rfl (dfalse (by omega)) ?_ | refine L_gtr rfl rfl rfl rfl ?_)) | refine RL_skip rfl rfl rfl rfl ?_ | refine RL_skipU rfl rfl rfl ?_
      first | refine L_pick_t rfl rfl rfl ?_ | refine L_pick_f rfl rfl rfl ?_
      refine L_move rfl rfl ?_
      first | (refine RL_want rfl rfl ?_; refine L_move rfl rfl ?_) | refine RL_skip rfl rfl rfl rfl ?_ | refine RL_skipU rfl rfl rfl ?_
      first | (refine RL_want rfl rfl ?_; refine L_len rfl Try.underlying29 rfl ?_) | refine RL_skip rfl rfl rfl rfl ?_ | refine RL_skipU rfl rfl rfl ?_
      first | (refine RL_want rfl rfl ?_; refine L_move rfl rfl ?_) | refine RL_skip rfl rfl rfl rfl ?_ | refine RL_skipU rfl rfl rfl ?_
      first | (refine RL_want rfl rfl ?_; (first | refine L_leq rfl rfl rfl (dtrue (by omega)) ?_ | refine L_leq rfl rfl rfl (dfalse (by omega)) ?_ | refine L_leq rfl rfl rfl rfl ?_)) | refine RL_skip rfl rfl rfl rfl ?_ | refine RL_skipU rfl rfl rfl ?_
      first | refine L_pick_t rfl rfl rfl ?_ | refine L_pick_f rfl rfl rfl ?_
      refine RL_then ?_
      refine W_if_true rfl ?_
      refine W_seq ?_
      refine W_region ?_
      refine L_assign rfl rfl ?_
      refine L_assign rfl rfl ?_
      refine RL_then ?_
      refine W_ret' ?_
      refine Ex_then_ret ?_
      refine Ex_done2 rfl rfl rfl ?_
      exact ⟨_, rfl, rfl, rfl⟩
theorem set_getD_self {α : Type} (l : List α) (i : Nat) (d : α) : l.set i (l.getD i d) = l := by
  apply List.ext_getElem?
  intro j
  rw [List.getElem?_set]
  by_cases h : i = j
  · subst h
    by_cases hl : i < l.length
    · simp [hl]
    · simp [hl]
  · simp [h]
theorem getD_set_same {α : Type} {l : List α} {i : Nat} {x d : α} (h : i < l.length) : (l.set i x).getD i d = x := by simp [List.getD, h]
theorem getD_set_other {α : Type} {l : List α} {i j : Nat} {x d : α} (h : i ≠ j) : (l.set i x).getD j d = l.getD j d := by simp [List.getD, List.getElem?_set, h]
theorem getD_take {α : Type} {l : List α} {i k : Nat} {d : α} (h : i < k) : (l.take k).getD i d = l.getD i d := by simp [List.getD, List.getElem?_take, h]
theorem dRow_of {x q r : List (Nat × Nat)} {n : Nat} (hx : x.length = n) (hq : q.length = n) (hr : r.length = n) (h : ∀ j, j < n → cn2 (x.getD j (0, 0)) = csub (q.getD j (0, 0)) (r.getD j (0, 0))) : crow x = dRow q r := by
  apply List.ext_getElem
  · simp [crow, dRow, hx, hq, hr]
  · intro j h1 h2
    have hj : j < n := by simpa [crow, hx] using h1
    have := h j hj
    simpa [crow, dRow, List.getD, hx, hq, hr, hj] using this
theorem cancel_ok (a : Option Addr) (c : Nat) (rows : List (List (Nat × Nat))) (rvs : List Value) (n m : Nat) (w0 : World) (hr : RowsC w0 a rows rvs) (hn : ∀ i, i < rows.length → (rows.getD i []).length = n) (hk : rows.length ≤ 256) (hn2 : n ≤ 16384) (hall : rows.length * n ≤ 262144)
    (hm : m ≤ 8) (hmk : m < rows.length) :
    Ret Try.prog 12 [.slice a rows.length c, .int .i64 m] w0 fun v w' => ∃ b cap vs rs, v = .tuple #[.slice b (rows.length - m) cap, .int .i64 0] ∧ HS w0 w' [] ∧ rs.length = rows.length - m ∧ RowsC w' b rs vs ∧ (∀ i, i < rs.length → (rs.getD i []).length = n) ∧ rs.map crow = dIter (rows.map crow) m := by
  refine Ret.start fun w hs => ?_
  obtain ⟨k, hkk⟩ : ∃ k, k = rows.length := ⟨_, rfl⟩
  have hrl := hr.len
  rw [← hkk] at hmk ⊢
  refine calls_of_W Try.func12 rfl rfl rfl ?_
  refine W_seq ?_
  refine W_region ?_
  refine L_assign rfl rfl ?_
  refine L_assign rfl rfl ?_
  refine RL_then ?_
  refine W_seq ?_
  refine W_seq ?_
  refine W_region ?_
  refine L_move rfl rfl ?_
  first | refine L_lss rfl rfl rfl (dtrue (by omega)) ?_ | refine L_lss rfl rfl rfl (dfalse (by omega)) ?_ | refine L_lss rfl rfl rfl rfl ?_
  refine L_move rfl rfl ?_
  first | (refine RL_want rfl rfl ?_; refine L_move rfl rfl ?_) | refine RL_skip rfl rfl rfl rfl ?_ | refine RL_skipU rfl rfl rfl ?_
  first | (refine RL_want rfl rfl ?_; (first | refine L_gtr rfl rfl rfl (dtrue (by omega)) ?_ | refine L_gtr rfl rfl rfl (dfalse (by omega)) ?_ | refine L_gtr rfl rfl rfl rfl ?_)) | refine RL_skip rfl rfl rfl rfl ?_ | refine RL_skipU rfl rfl rfl ?_
  first | refine L_pick_t rfl rfl rfl ?_ | refine L_pick_f rfl rfl rfl ?_
  refine L_move rfl rfl ?_
  first | (refine RL_want rfl rfl ?_; refine L_move rfl rfl ?_) | refine RL_skip rfl rfl rfl rfl ?_ | refine RL_skipU rfl rfl rfl ?_
  first | (refine RL_want rfl rfl ?_; refine L_len rfl Try.underlying29 rfl ?_) | refine RL_skip rfl rfl rfl rfl ?_ | refine RL_skipU rfl rfl rfl ?_
  first | (refine RL_want rfl rfl ?_; refine L_move rfl rfl ?_) | refine RL_skip rfl rfl rfl rfl ?_ | refine RL_skipU rfl rfl rfl ?_
  first | (refine RL_want rfl rfl ?_; (first | refine L_leq rfl rfl rfl (dtrue (by omega)) ?_ | refine L_leq rfl rfl rfl (dfalse (by omega)) ?_ | refine L_leq rfl rfl rfl rfl ?_)) | refine RL_skip rfl rfl rfl rfl ?_ | refine RL_skipU rfl rfl rfl ?_
  first | refine L_pick_t rfl rfl rfl ?_ | refine L_pick_f rfl rfl rfl ?_
  refine RL_then ?_
  refine W_if_false rfl ?_
  refine W_skip' ?_
  refine Nx_then ?_
  refine W_seq ?_
  refine W_seq ?_
  refine W_region ?_
  refine L_move rfl rfl ?_
  rw [hkk]
  refine L_call rfl Try.fun23 rfl (table_ok a c rows rvs n w (hr.old hs Own.nil) hn hk hn2 hall) ?_
  rintro _ w' ⟨rfl, hs'⟩
  replace hs := hs.nil hs'
  rw [← hkk] at hk hall hn hrl ⊢
  refine L_assign rfl rfl ?_
  refine RL_then ?_
  refine W_seq ?_
  refine W_region ?_
  refine L_move rfl rfl ?_
  first | refine L_neq rfl rfl rfl (dtrue (by omega)) ?_ | refine L_neq rfl rfl rfl (dfalse (by omega)) ?_ | refine L_neq rfl rfl rfl rfl ?_
  refine RL_then ?_
  refine W_if_false rfl ?_
  refine W_skip' ?_
  refine Nx_then ?_
  refine W_seq ?_
  refine W_region ?_
  refine L_move rfl rfl ?_
  refine L_len rfl Try.underlying29 rfl ?_
  refine L_make1 rfl hs Try.underlying29 Try.ti36 rfl rfl (by with_reducible first | exact natc_k _ | exact natc_a1 _ | exact natc_0 | exact natc_1 | exact natc_2 | exact natc_s1 _ (by omega) | exact natc_a2 _ | exact natc_add _ _ | exact natc_mul _ _ | exact natc (by omega)) (by with_reducible first | exact natc_k _ | exact natc_a1 _ | exact natc_0 | exact natc_1 | exact natc_2 | exact natc_s1 _ (by omega) | exact natc_a2 _ | exact natc_add _ _ | exact natc_mul _ _ | exact natc (by omega)) (by omega) (by omega) (by omega) rfl ?_
  intro b32 w hb32 hnb32 hs
  try dsimp only [List.set_cons_succ, List.set_cons_zero, List.cons_append, List.nil_append] at hs
  refine L_assign rfl rfl ?_
  refine RL_then ?_
  refine W_seq ?_
  refine W_seq ?_
  refine W_region ?_
  refine L_move rfl rfl ?_
  refine L_len rfl Try.underlying29 rfl ?_
  refine L_move rfl rfl ?_
  refine RL_then ?_
  refine W_block ?_
  refine W_loop4 (fun (i : Nat) (vs : List Value) (Ms : List (Nat × Obj)) (w : World) => [(1, .int .i64 m), (7, .slice (some ⟨b32, 0, none⟩) k k), (33, .slice a k c), (34, .int .i64 k), (35, .int .i64 i)]) (fun (i : Nat) (vs : List Value) (Ms : List (Nat × Obj)) (w : World) => w) (fun (i : Nat) (vs : List Value) (Ms : List (Nat × Obj)) (w : World) => (i ≤ k) ∧ (BlL w0 n vs (rows.take i) Ms) ∧ (HS w0 w ((b32, Row 36 (vs ++ List.replicate (k - i) (.slice none 0 0))) :: Ms))) (fun (i : Nat) (vs : List Value) (Ms : List (Nat × Obj)) (w : World) => k - i) (0) ([]) ([]) (w) (is := [1, 7, 33, 34, 35]) rfl rfl ?_ ?_
  · exact ⟨Nat.zero_le _, .nil, hs⟩
  · intro i vs Ms w hI
    show W _ _ _ _ [(1, .int .i64 m), (7, .slice (some ⟨b32, 0, none⟩) k k), (33, .slice a k c), (34, .int .i64 k), (35, .int .i64 i)] w
    obtain ⟨hi, hbs, hs⟩ := hI
    have hvl := hbs.len
    rw [List.length_take, ← hkk, Nat.min_eq_left hi] at hvl
    have ho : Own w0 ((b32, Row 36 (vs ++ List.replicate (k - i) (.slice none 0 0))) :: Ms) := Own.cons hb32 hbs.own
    by_cases hlt : i < k
    · obtain ⟨ai, ci, h1, h2⟩ := hr.row i (by omega)
      rw [hn i hlt] at h1
      refine W_seq ?_
      refine W_region ?_
      first | refine L_lss rfl rfl rfl (dtrue (by omega)) ?_ | refine L_lss rfl rfl rfl (dfalse (by omega)) ?_ | refine L_lss rfl rfl rfl rfl ?_
      refine RL_then ?_
      refine W_seq ?_
      refine W_if_true rfl ?_
      refine W_skip' ?_
      refine Nx_then ?_
      refine W_seq ?_
      refine W_block ?_
      refine W_seq ?_
      refine W_region ?_
      refine L_move rfl rfl ?_
      refine L_idx1 rfl Try.underlying29 Try.ti36 rfl rfl (by with_reducible first | exact natc_k _ | exact natc_a1 _ | exact natc_0 | exact natc_1 | exact natc_2 | exact natc_s1 _ (by omega) | exact natc_a2 _ | exact natc_add _ _ | exact natc_mul _ _ | exact natc (by omega)) (by omega) (hr.sl.ao (by omega)) ?_
      refine L_load rfl Try.one36 rfl (by exact hs.oldcell (hr.sl.get h1) (ho.notin (World.block_lt_of_cell? _ _ (hr.sl.get h1)))) ?_
      refine L_assign rfl rfl ?_
      refine L_assign rfl rfl ?_
      refine RL_then ?_
      refine W_region ?_
      refine L_move rfl rfl ?_
      refine L_move rfl rfl ?_
      refine L_move rfl rfl ?_
      have hcl : (cl (rows.getD i [])).length = n * 1 := by rw [cl_length, hn i hlt, Nat.mul_one]
      refine L_appendS rfl Try.underlying36 Try.ti34 rfl (by decide) (M := []) (by rw [List.append_nil]; exact hs) Bl.nil rfl rfl hcl (h2.old hs ho) (cl_one _) (by omega) (by omega) ?_
      intro v' w M' hs hbl
      rw [List.nil_append, Nat.zero_add] at hbl
      refine L_idx1 rfl Try.underlying29 Try.ti36 rfl rfl (by with_reducible first | exact natc_k _ | exact natc_a1 _ | exact natc_0 | exact natc_1 | exact natc_2 | exact natc_s1 _ (by omega) | exact natc_a2 _ | exact natc_add _ _ | exact natc_mul _ _ | exact natc (by omega)) (by omega) rfl ?_
      refine L_store hs (i := 0) rfl Try.ti36 rfl rfl (by first | rfl | exact add_lit0 _ _) (by simp; omega) (by obtain ⟨_, _, rfl, _⟩ := hbl.slice; rfl) ?_
      intro w hs
      try dsimp only [List.set_cons_succ, List.set_cons_zero, List.cons_append, List.nil_append] at hs
      refine RL_nil' ?_
      refine Nx_block ?_
      refine Nx_then ?_
      refine W_region ?_
      first | refine L_add rfl rfl rfl (wrp_i64 (by omega)) ?_ | refine L_add rfl rfl rfl rfl ?_
      refine L_move rfl rfl ?_
      refine RL_nil' ?_
      rw [List.set_append_right _ _ (by omega), hvl, Nat.sub_self, show k - i = (k - (i + 1)) + 1 by omega, List.replicate_succ, List.set_cons_zero] at hs
      have hbs2 := hbs.snoc hbl
      rw [show rows.take i ++ [rows.getD i []] = rows.take (i + 1) by rw [List.take_succ_eq_append_getElem (by omega)]; simp [List.getD, show i < rows.length by omega]] at hbs2
      refine Nx_loopP (i + 1, vs ++ [v'], Ms ++ M', w) (is := [1, 7, 33, 34, 35]) (I' := (fun (i : Nat) (vs : List Value) (Ms : List (Nat × Obj)) (w : World) => (i ≤ k) ∧ (BlL w0 n vs (rows.take i) Ms) ∧ (HS w0 w ((b32, Row 36 (vs ++ List.replicate (k - i) (.slice none 0 0))) :: Ms))) (i + 1) (vs ++ [v']) (Ms ++ M') (w)) rfl rfl rfl ?_ ?_
      · exact ⟨by omega, hbs2, by rw [List.append_assoc]; exact hs⟩
      · omega
    · refine W_seq ?_
      refine W_region ?_
      first | refine L_lss rfl rfl rfl (dtrue (by omega)) ?_ | refine L_lss rfl rfl rfl (dfalse (by omega)) ?_ | refine L_lss rfl rfl rfl rfl ?_
      refine RL_then ?_
      refine W_seq ?_
      refine W_if_false rfl ?_
      obtain rfl : i = k := by omega
      rw [Nat.sub_self, List.replicate_zero, List.append_nil] at hs
      rw [hkk, List.take_length] at hbs
      clear ho
      refine W_exit' ?_
      refine Ex_then_exit ?_
      refine Ex_loop_exit ?_
      refine Ex_block_hit ?_
      refine Nx_then ?_
      refine W_seq ?_
      refine W_seq ?_
      refine W_region ?_
      refine L_move rfl rfl ?_
      refine L_move rfl rfl ?_
      refine RL_then ?_
      refine W_block ?_
      refine W_loop4 (fun (o : Nat) (rs : List (List (Nat × Nat))) (Ms : List (Nat × Obj)) (w : World) => [(7, .slice (some ⟨b32, 0, none⟩) (i - o) i), (46, .int .i64 m), (47, .int .i64 o)]) (fun (o : Nat) (rs : List (List (Nat × Nat))) (Ms : List (Nat × Obj)) (w : World) => w) (fun (o : Nat) (rs : List (List (Nat × Nat))) (Ms : List (Nat × Obj)) (w : World) => (o ≤ m) ∧ (BlL w0 n vs rs Ms) ∧ (rs.length = i) ∧ ((rs.take (i - o)).map crow = dIter (rows.map crow) o) ∧ (HS w0 w ((b32, Row 36 vs) :: Ms))) (fun (o : Nat) (rs : List (List (Nat × Nat))) (Ms : List (Nat × Obj)) (w : World) => m - o) (0) (rows) (Ms) (w) (is := [7, 46, 47]) rfl rfl ?_ ?_
      · exact ⟨Nat.zero_le _, hbs, hkk.symm, by rw [Nat.sub_zero, hkk, List.take_length]; rfl, hs⟩
      · intro o rs Ms w hI
        show W _ _ _ _ [(7, .slice (some ⟨b32, 0, none⟩) (i - o) i), (46, .int .i64 m), (47, .int .i64 o)] w
        obtain ⟨ho, hbs, hrs, hcan, hs⟩ := hI
        by_cases hlt2 : o < m
        · refine W_seq ?_
          refine W_region ?_
          first | refine L_lss rfl rfl rfl (dtrue (by omega)) ?_ | refine L_lss rfl rfl rfl (dfalse (by omega)) ?_ | refine L_lss rfl rfl rfl rfl ?_
          refine RL_then ?_
          refine W_seq ?_
          refine W_if_true rfl ?_
          refine W_skip' ?_
          refine Nx_then ?_
          refine W_seq ?_
          refine W_block ?_
          refine W_seq ?_
          refine W_seq ?_
          refine W_region ?_
          refine L_move rfl rfl ?_
          refine L_len rfl Try.underlying29 rfl ?_
          first | refine L_sub rfl rfl rfl (wrp_i64 (by omega)) ?_ | refine L_sub rfl rfl rfl rfl ?_
          refine L_move rfl rfl ?_
          refine RL_then ?_
          refine W_block ?_
          refine W_set 51 (v' := .int .i64 ((i - o - 1 : Nat) : Int)) rfl (vint (by omega)) ?_
          refine W_loop4 (fun (p : Nat) (rt : List (List (Nat × Nat))) (Ms : List (Nat × Obj)) (w : World) => [(7, .slice (some ⟨b32, 0, none⟩) (i - o) i), (46, .int .i64 m), (47, .int .i64 o), (51, .int .i64 ((i - o - 1 : Nat) : Int)), (52, .int .i64 p)]) (fun (p : Nat) (rt : List (List (Nat × Nat))) (Ms : List (Nat × Obj)) (w : World) => w) (fun (p : Nat) (rt : List (List (Nat × Nat))) (Ms : List (Nat × Obj)) (w : World) => (p ≤ i - o - 1) ∧ (BlL w0 n vs rt Ms) ∧ (rt.length = i) ∧ (∀ j, j < p → crow (rt.getD j []) = dRow (rs.getD (j + 1) []) (rs.getD j [])) ∧ (∀ j, p ≤ j → rt.getD j [] = rs.getD j []) ∧ (HS w0 w ((b32, Row 36 vs) :: Ms))) (fun (p : Nat) (rt : List (List (Nat × Nat))) (Ms : List (Nat × Obj)) (w : World) => i - o - 1 - p) (0) (rs) (Ms) (w) (is := [7, 46, 47, 51, 52]) rfl rfl ?_ ?_
          · exact ⟨Nat.zero_le _, hbs, hrs, fun j hj => absurd hj (Nat.not_lt_zero j), fun _ _ => rfl, hs⟩
          · intro p rt Ms w hI
            show W _ _ _ _ [(7, .slice (some ⟨b32, 0, none⟩) (i - o) i), (46, .int .i64 m), (47, .int .i64 o), (51, .int .i64 ((i - o - 1 : Nat) : Int)), (52, .int .i64 p)] w
            obtain ⟨hp, hbt, hrt, hlo, hhi, hs⟩ := hI
            by_cases hlt3 : p < i - o - 1
            · obtain ⟨ao, co, hvp⟩ := hbt.val p (by omega)
              have hrp := hbt.rowlen p (by omega)
              refine W_seq ?_
              refine W_region ?_
              first | refine L_lss rfl rfl rfl (dtrue (by omega)) ?_ | refine L_lss rfl rfl rfl (dfalse (by omega)) ?_ | refine L_lss rfl rfl rfl rfl ?_
              refine RL_then ?_
              refine W_seq ?_
              refine W_if_true rfl ?_
              refine W_skip' ?_
              refine Nx_then ?_
              refine W_seq ?_
              refine W_block ?_
              refine W_seq ?_
              refine W_region ?_
              refine L_move rfl rfl ?_
              refine L_assign rfl rfl ?_
              refine RL_then ?_
              refine W_seq ?_
              refine W_region ?_
              refine L_move rfl rfl ?_
              refine L_move rfl rfl ?_
              refine L_idx1 rfl Try.underlying29 Try.ti36 rfl rfl (by with_reducible first | exact natc_k _ | exact natc_a1 _ | exact natc_0 | exact natc_1 | exact natc_2 | exact natc_s1 _ (by omega) | exact natc_a2 _ | exact natc_add _ _ | exact natc_mul _ _ | exact natc (by omega)) (by omega) rfl ?_
              refine L_load rfl Try.one36 rfl (by exact hs.cellA (i := 0) rfl hvp) ?_
              refine L_len rfl Try.underlying36 rfl ?_
              refine L_move rfl rfl ?_
              refine RL_then ?_
              refine W_block ?_
              refine W_loop4 (fun (g : Nat) (x : List (Nat × Nat)) (Ms : List (Nat × Obj)) (w : World) => [(7, .slice (some ⟨b32, 0, none⟩) (i - o) i), (10, .int .i64 p), (46, .int .i64 m), (47, .int .i64 o), (51, .int .i64 ((i - o - 1 : Nat) : Int)), (52, .int .i64 p), (58, .slice ao n co), (59, .int .i64 n), (60, .int .i64 g)]) (fun (g : Nat) (x : List (Nat × Nat)) (Ms : List (Nat × Obj)) (w : World) => w) (fun (g : Nat) (x : List (Nat × Nat)) (Ms : List (Nat × Obj)) (w : World) => (g ≤ n) ∧ (BlL w0 n vs (rt.set p x) Ms) ∧ (x.length = n) ∧ (∀ j, j < g → cn2 (x.getD j (0, 0)) = csub ((rs.getD (p + 1) []).getD j (0, 0)) ((rs.getD p []).getD j (0, 0))) ∧ (∀ j, g ≤ j → x.getD j (0, 0) = (rs.getD p []).getD j (0, 0)) ∧ (HS w0 w ((b32, Row 36 vs) :: Ms))) (fun (g : Nat) (x : List (Nat × Nat)) (Ms : List (Nat × Obj)) (w : World) => n - g) (0) (rt.getD p []) (Ms) (w) (is := [7, 10, 46, 47, 51, 52, 58, 59, 60]) rfl rfl ?_ ?_
              · exact ⟨Nat.zero_le _, by rw [set_getD_self]; exact hbt, hrp, fun j hj => absurd hj (Nat.not_lt_zero j), fun j _ => by rw [hhi p (Nat.le_refl _)], hs⟩
              · intro g x Ms w hI
                show W _ _ _ _ [(7, .slice (some ⟨b32, 0, none⟩) (i - o) i), (10, .int .i64 p), (46, .int .i64 m), (47, .int .i64 o), (51, .int .i64 ((i - o - 1 : Nat) : Int)), (52, .int .i64 p), (58, .slice ao n co), (59, .int .i64 n), (60, .int .i64 g)] w
                obtain ⟨hg, hbx, hx, hxlo, hxhi, hs⟩ := hI
                by_cases hlt4 : g < n
                · obtain ⟨j1, g1, cap1, sp1, hM1, hv1, hset1⟩ := hbx.at (by omega) p (by simp; omega)
                  obtain ⟨j2, g2, cap2, sp2, hM2, hv2, hset2⟩ := hbx.at (by omega) (p + 1) (by simp; omega)
                  rw [getD_set_same (by omega)] at hM1
                  rw [getD_set_other (by omega), hhi (p + 1) (by omega)] at hM2
                  obtain ⟨hao, hcc⟩ : ao = some ⟨g1, 0, none⟩ ∧ co = cap1 := by rw [hvp] at hv1; injection hv1 with h1; injection h1 with h1 h2 h3; exact ⟨h1, h3⟩
                  subst hao hcc
                  have hlx : g < x.length := by omega
                  have hlq : g < (rs.getD (p + 1) []).length := by rw [← hhi (p + 1) (by omega), hbt.rowlen (p + 1) (by omega)]; exact hlt4
                  have hlj : j1 < Ms.length := (List.getElem?_eq_some_iff.1 hM1).1
                  obtain ⟨q, hq⟩ : ∃ q, q = (rs.getD (p + 1) []).getD g (0, 0) := ⟨_, rfl⟩
                  refine W_seq ?_
                  refine W_region ?_
                  first | refine L_lss rfl rfl rfl (dtrue (by omega)) ?_ | refine L_lss rfl rfl rfl (dfalse (by omega)) ?_ | refine L_lss rfl rfl rfl rfl ?_
                  refine RL_then ?_
                  refine W_seq ?_
                  refine W_if_true rfl ?_
                  refine W_skip' ?_
                  refine Nx_then ?_
                  refine W_seq ?_
                  refine W_block ?_
                  refine W_seq ?_
                  refine W_region ?_
                  refine L_move rfl rfl ?_
                  refine L_idx1 rfl Try.underlying36 Try.ti34 rfl rfl (by with_reducible first | exact natc_k _ | exact natc_a1 _ | exact natc_0 | exact natc_1 | exact natc_2 | exact natc_s1 _ (by omega) | exact natc_a2 _ | exact natc_add _ _ | exact natc_mul _ _ | exact natc (by omega)) (by omega) rfl ?_
                  refine L_load rfl Try.one34 rfl (by first | exact hs.cellA (i := 0) rfl hv1 | exact hs.cellA (i := 0) rfl hv2 | exact hs.cellA (i := j1 + 1) (by simpa using hM1) (cl_get' hlx) | exact hs.cellA (i := j2 + 1) (by simpa using hM2) (cl_get' hlq)) ?_
                  refine L_assign rfl rfl ?_
                  refine L_assign rfl rfl ?_
                  refine RL_then ?_
                  refine W_seq ?_
                  refine W_pht [0, 1, 2, 4, 5, 6, 7, 8, 10] [3, 9, 11, 12, 13] [14] (fun _ _ _ => False) Try.mixed (by kernel_rfl) (fun _ _ _ _ _ h => h) hs ?_
                  refine PL_val rfl (fun w => R_move rfl) ?_
                  refine PL_val rfl (fun w => R_move rfl) ?_
                  refine PL_val rfl (fun w => R_idx1 Try.underlying29 Try.ti36 rfl rfl (by with_reducible first | exact natc_k _ | exact natc_a1 _ | exact natc_0 | exact natc_1 | exact natc_2 | exact natc_s1 _ (by omega) | exact natc_a2 _ | exact natc_add _ _ | exact natc_mul _ _ | exact natc (by omega)) (by omega) rfl) ?_
                  refine PL_val rfl (fun w => R_move rfl) ?_
                  refine PL_val rfl (fun w => R_move rfl) ?_
                  refine PL_val rfl (fun w => R_move rfl) ?_
                  first | refine PL_val rfl (fun w => R_add rfl rfl (wrp_i64 (by omega))) ?_ | refine PL_val rfl (fun w => R_add rfl rfl rfl) ?_
                  refine PL_val rfl (fun w => R_idx1 Try.underlying29 Try.ti36 rfl rfl (by with_reducible first | exact natc_k _ | exact natc_a1 _ | exact natc_0 | exact natc_1 | exact natc_2 | exact natc_s1 _ (by omega) | exact natc_a2 _ | exact natc_add _ _ | exact natc_mul _ _ | exact natc (by omega)) (by omega) rfl) ?_
                  refine PL_val rfl (fun w => R_move rfl) ?_
                  refine PL_end ?_
                  refine HL_val rfl (fun w hs => R_load Try.one36 rfl (by first | exact hs.cellA (i := 0) rfl hv1 | exact hs.cellA (i := 0) rfl hv2 | exact hs.cellA (i := j1 + 1) (by simpa using hM1) (cl_get' hlx) | exact hs.cellA (i := j2 + 1) (by simpa using hM2) (cl_get' hlq))) ?_
                  refine HL_val rfl (fun w hs => R_load Try.one36 rfl (by first | exact hs.cellA (i := 0) rfl hv1 | exact hs.cellA (i := 0) rfl hv2 | exact hs.cellA (i := j1 + 1) (by simpa using hM1) (cl_get' hlx) | exact hs.cellA (i := j2 + 1) (by simpa using hM2) (cl_get' hlq))) ?_
                  refine HL_val rfl (fun w hs => R_idx1 Try.underlying36 Try.ti34 rfl rfl (by with_reducible first | exact natc_k _ | exact natc_a1 _ | exact natc_0 | exact natc_1 | exact natc_2 | exact natc_s1 _ (by omega) | exact natc_a2 _ | exact natc_add _ _ | exact natc_mul _ _ | exact natc (by omega)) (by omega) rfl) ?_
                  refine HL_val rfl (fun w hs => R_load Try.one34 rfl (by first | exact hs.cellA (i := 0) rfl hv1 | exact hs.cellA (i := 0) rfl hv2 | exact hs.cellA (i := j1 + 1) (by simpa using hM1) (cl_get' hlx) | exact hs.cellA (i := j2 + 1) (by simpa using hM2) (cl_get' hlq))) ?_
                  refine HL_val rfl (fun w hs => R_idx1 Try.underlying36 Try.ti34 rfl rfl (by with_reducible first | exact natc_k _ | exact natc_a1 _ | exact natc_0 | exact natc_1 | exact natc_2 | exact natc_s1 _ (by omega) | exact natc_a2 _ | exact natc_add _ _ | exact natc_mul _ _ | exact natc (by omega)) (by omega) rfl) ?_
                  refine HL_tail ?_
                  intro w hs
                  refine L_store hs (i := (j1 + 1)) (by simpa using hM1) Try.ti34 rfl rfl (by first | rfl | exact add_lit0 _ _) (by simp; omega) rfl ?_
                  intro w hs
                  try dsimp only [List.set_cons_succ, List.set_cons_zero, List.cons_append, List.nil_append] at hs
                  refine RL_then ?_
                  refine W_region ?_
                  rw [cl_set' _ _ _ _ _ hlx, ← hq] at hs
                  have hbx2 := hset1 (x.set g (q.1, q.2)) (by simp [hx])
                  obtain ⟨Ms2, hMs2⟩ : ∃ Ms2, Ms2 = Ms.set j1 (g1, Row 34 (cl (x.set g (q.1, q.2)) ++ sp1)) := ⟨_, rfl⟩
                  have hM3 : Ms2[j1]? = some (g1, Row 34 (cl (x.set g (q.1, q.2)) ++ sp1)) := by rw [hMs2, List.getElem?_set_self hlj]
                  rw [← hMs2] at hs hbx2
                  refine L_move rfl rfl ?_
                  refine L_move rfl rfl ?_
                  refine L_idx1 rfl Try.underlying29 Try.ti36 rfl rfl (by with_reducible first | exact natc_k _ | exact natc_a1 _ | exact natc_0 | exact natc_1 | exact natc_2 | exact natc_s1 _ (by omega) | exact natc_a2 _ | exact natc_add _ _ | exact natc_mul _ _ | exact natc (by omega)) (by omega) rfl ?_
                  refine L_load rfl Try.one36 rfl (by first | exact hs.cellA (i := 0) rfl hv1 | exact hs.cellA (i := j1 + 1) (by simpa using hM3) (cl_get' (by simp; omega))) ?_
                  refine L_move rfl rfl ?_
                  refine L_idx1 rfl Try.underlying36 Try.ti34 rfl rfl (by with_reducible first | exact natc_k _ | exact natc_a1 _ | exact natc_0 | exact natc_1 | exact natc_2 | exact natc_s1 _ (by omega) | exact natc_a2 _ | exact natc_add _ _ | exact natc_mul _ _ | exact natc (by omega)) (by omega) rfl ?_
                  refine L_load rfl Try.one34 rfl (by first | exact hs.cellA (i := 0) rfl hv1 | exact hs.cellA (i := j1 + 1) (by simpa using hM3) (cl_get' (by simp; omega))) ?_
                  refine L_move rfl rfl ?_
                  refine L_csum rfl (op := .sub) (by simp) rfl rfl ?_
                  intro r87 s87 k87 hr87 hi87
                  try replace hs := hs.drewN k87
                  refine L_idx1 rfl Try.underlying36 Try.ti34 rfl rfl (by with_reducible first | exact natc_k _ | exact natc_a1 _ | exact natc_0 | exact natc_1 | exact natc_2 | exact natc_s1 _ (by omega) | exact natc_a2 _ | exact natc_add _ _ | exact natc_mul _ _ | exact natc (by omega)) (by omega) rfl ?_
                  refine L_store hs (i := (j1 + 1)) (by simpa using hM3) Try.ti34 rfl rfl (by first | rfl | exact add_lit0 _ _) (by simp; omega) rfl ?_
                  intro w hs
                  try dsimp only [List.set_cons_succ, List.set_cons_zero, List.cons_append, List.nil_append] at hs
                  refine RL_nil' ?_
                  refine Nx_block ?_
                  refine Nx_then ?_
                  refine W_region ?_
                  first | refine L_add rfl rfl rfl (wrp_i64 (by omega)) ?_ | refine L_add rfl rfl rfl rfl ?_
                  refine L_move rfl rfl ?_
                  refine RL_nil' ?_
                  rw [cl_set' _ _ _ _ _ (by simp; omega), List.set_set] at hs
                  rw [getD_set_same hlx] at hr87 hi87
                  rw [hxhi g (Nat.le_refl _)] at hr87 hi87
                  have hbx3 := hset1 (x.set g (r87, s87)) (by simp [hx])
                  rw [List.set_set] at hbx3
                  rw [hMs2, List.set_set] at hs
                  refine Nx_loopP (g + 1, x.set g (r87, s87), Ms.set j1 (g1, Row 34 (cl (x.set g (r87, s87)) ++ sp1)), _) (is := [7, 10, 46, 47, 51, 52, 58, 59, 60]) (I' := (fun (g : Nat) (x : List (Nat × Nat)) (Ms : List (Nat × Obj)) (w : World) => (g ≤ n) ∧ (BlL w0 n vs (rt.set p x) Ms) ∧ (x.length = n) ∧ (∀ j, j < g → cn2 (x.getD j (0, 0)) = csub ((rs.getD (p + 1) []).getD j (0, 0)) ((rs.getD p []).getD j (0, 0))) ∧ (∀ j, g ≤ j → x.getD j (0, 0) = (rs.getD p []).getD j (0, 0)) ∧ (HS w0 w ((b32, Row 36 vs) :: Ms))) (g + 1) (x.set g (r87, s87)) (Ms.set j1 (g1, Row 34 (cl (x.set g (r87, s87)) ++ sp1))) (_)) rfl rfl rfl ?_ ?_
                  · refine ⟨by omega, hbx3, by simp [hx], fun j hj => ?_, fun j hj => ?_, hs⟩
                    · rcases Nat.lt_or_ge j g with h5 | h5
                      · rw [getD_set_other (by omega)]; exact hxlo j h5
                      · obtain rfl : j = g := by omega
                        rw [getD_set_same hlx, ← hq]
                        show (cn r87, cn s87) = _
                        rw [hr87.cn, hi87.cn]; rfl
                    · rw [getD_set_other (by omega)]; exact hxhi j (by omega)
                  · omega
                · refine W_seq ?_
                  refine W_region ?_
                  first | refine L_lss rfl rfl rfl (dtrue (by omega)) ?_ | refine L_lss rfl rfl rfl (dfalse (by omega)) ?_ | refine L_lss rfl rfl rfl rfl ?_
                  refine RL_then ?_
                  refine W_seq ?_
                  refine W_if_false rfl ?_
                  obtain rfl : n = g := by omega
                  refine W_exit' ?_
                  refine Ex_then_exit ?_
                  refine Ex_loop_exit ?_
                  refine Ex_block_hit ?_
                  refine Nx_block ?_
                  refine Nx_then ?_
                  refine W_region ?_
                  first | refine L_add rfl rfl rfl (wrp_i64 (by omega)) ?_ | refine L_add rfl rfl rfl rfl ?_
                  refine L_move rfl rfl ?_
                  refine RL_nil' ?_
                  refine Nx_loopP (p + 1, rt.set p x, Ms, w) (is := [7, 46, 47, 51, 52]) (I' := (fun (p : Nat) (rt : List (List (Nat × Nat))) (Ms : List (Nat × Obj)) (w : World) => (p ≤ i - o - 1) ∧ (BlL w0 n vs rt Ms) ∧ (rt.length = i) ∧ (∀ j, j < p → crow (rt.getD j []) = dRow (rs.getD (j + 1) []) (rs.getD j [])) ∧ (∀ j, p ≤ j → rt.getD j [] = rs.getD j []) ∧ (HS w0 w ((b32, Row 36 vs) :: Ms))) (p + 1) (rt.set p x) (Ms) (w)) rfl rfl rfl ?_ ?_
                  · refine ⟨by omega, hbx, by simp [hrt], fun j hj => ?_, fun j hj => ?_, hs⟩
                    · rcases Nat.lt_or_ge j p with h5 | h5
                      · rw [getD_set_other (by omega)]; exact hlo j h5
                      · obtain rfl : j = p := by omega
                        rw [getD_set_same (by omega)]
                        have hl1 : (rs.getD (j + 1) []).length = n := by rw [← hhi (j + 1) (by omega)]; exact hbt.rowlen (j + 1) (by omega)
                        have hl2 : (rs.getD j []).length = n := by rw [← hhi j (by omega)]; exact hrp
                        exact dRow_of hx hl1 hl2 hxlo
                    · rw [getD_set_other (by omega)]; exact hhi j (by omega)
                  · omega
            · refine W_seq ?_
              refine W_region ?_
              first | refine L_lss rfl rfl rfl (dtrue (by omega)) ?_ | refine L_lss rfl rfl rfl (dfalse (by omega)) ?_ | refine L_lss rfl rfl rfl rfl ?_
              refine RL_then ?_
              refine W_seq ?_
              refine W_if_false rfl ?_
              obtain rfl : p = i - o - 1 := by omega
              refine W_exit' ?_
              refine Ex_then_exit ?_
              refine Ex_loop_exit ?_
              refine Ex_block_hit ?_
              refine Nx_then ?_
              refine W_region ?_
              refine L_move rfl rfl ?_
              refine L_move rfl rfl ?_
              refine L_len rfl Try.underlying29 rfl ?_
              first | refine L_sub rfl rfl rfl (wrp_i64 (by omega)) ?_ | refine L_sub rfl rfl rfl rfl ?_
              refine RL_val rfl (R_slice010 Try.underlying29 Try.ti36 rfl rfl (by with_reducible first | exact natc_k _ | exact natc_a1 _ | exact natc_0 | exact natc_1 | exact natc_2 | exact natc_s1 _ (by omega) | exact natc_a2 _ | exact natc_add _ _ | exact natc_mul _ _ | exact natc (by omega)) (by omega)) ?_
              refine L_assign rfl rfl ?_
              refine RL_nil' ?_
              refine Nx_block ?_
              refine Nx_then ?_
              refine W_region ?_
              first | refine L_add rfl rfl rfl (wrp_i64 (by omega)) ?_ | refine L_add rfl rfl rfl rfl ?_
              refine L_move rfl rfl ?_
              refine RL_nil' ?_
              have hcan2 : (rt.take (i - (o + 1))).map crow = dIter (rows.map crow) (o + 1) := by
                have h6 := dRows_of (k := i - (o + 1)) (R := rs.take (i - o)) (rs := rt.take (i - o)) (by simp [hrs]; omega) (by simp [hrt]; omega) (fun j hj => by
                  rw [getD_take (by omega), getD_take (by omega), getD_take (by omega)]; exact hlo j (by omega))
                rw [List.take_take, Nat.min_eq_left (by omega), hcan] at h6
                exact h6
              refine Nx_loopP (o + 1, rt, Ms, w) (is := [7, 46, 47]) (I' := (fun (o : Nat) (rs : List (List (Nat × Nat))) (Ms : List (Nat × Obj)) (w : World) => (o ≤ m) ∧ (BlL w0 n vs rs Ms) ∧ (rs.length = i) ∧ ((rs.take (i - o)).map crow = dIter (rows.map crow) o) ∧ (HS w0 w ((b32, Row 36 vs) :: Ms))) (o + 1) (rt) (Ms) (w)) rfl rfl rfl ?_ ?_
              · exact ⟨by omega, hbt, hrt, hcan2, hs⟩
              · omega
        · refine W_seq ?_
          refine W_region ?_
          first | refine L_lss rfl rfl rfl (dtrue (by omega)) ?_ | refine L_lss rfl rfl rfl (dfalse (by omega)) ?_ | refine L_lss rfl rfl rfl rfl ?_
          refine RL_then ?_
          refine W_seq ?_
          refine W_if_false rfl ?_
          obtain rfl : o = m := by omega
          have hvl2 := hbs.len
          refine W_exit' ?_
          refine Ex_then_exit ?_
          refine Ex_loop_exit ?_
          refine Ex_block_hit ?_
          refine Nx_then ?_
          refine W_seq ?_
          refine W_region ?_
          refine L_move rfl rfl ?_
          have hsl : SlC w (some ⟨b32, 0, none⟩) (vs.take (i - o)) := SlC.of_row (sp := vs.drop (i - o)) (by rw [List.take_append_drop]; exact hs.get (i := 0) rfl)
          have h1c : ∀ u ∈ vs.take (i - o), u.oneCell' = true := by
            intro u hu
            obtain ⟨j, hj⟩ := List.getElem?_of_mem hu
            have hjl : j < vs.length := by
              have := (List.getElem?_eq_some_iff.1 hj).1
              simp at this; omega
            rw [List.getElem?_take] at hj
            obtain ⟨ao, co, hv⟩ := hbs.val j (by omega)
            by_cases h9 : j < i - o
            · rw [if_pos h9, hv] at hj
              cases hj
              rfl
            · rw [if_neg h9] at hj
              cases hj
          refine L_appendS rfl Try.underlying29 Try.ti36 rfl (by decide) (M := []) (by rw [List.append_nil]; exact hs) Bl.nil rfl rfl (by simp; omega) hsl h1c (by omega) (by omega) ?_
          intro v' w M' hs hbl
          rw [List.nil_append, Nat.zero_add] at hbl
          refine L_assign rfl rfl ?_
          refine L_assign rfl rfl ?_
          refine RL_then ?_
          refine W_ret' ?_
          refine Ex_done2 rfl rfl rfl ?_
          have hrows := hbs.rows (L := [(b32, Row 36 vs)] ++ M') (hs.mem_perm (by simpa using List.perm_append_comm))
          obtain ⟨a2, c2, rfl, hsl2⟩ := SlC.of_bl hbl hs
          refine ⟨_, rfl, a2, c2, vs.take (i - o), rs.take (i - o), rfl, hs.forget ((Own.cons hb32 hbs.own).app hbl.own), by simp; omega, ⟨hsl2, by simp [hvl2], fun j hj => ?_⟩, fun j hj => ?_, hcan⟩
          · simp at hj
            obtain ⟨aj, cj, h1, h2⟩ := hrows j (by omega)
            rw [getD_take (by omega)]
            refine ⟨aj, cj, ?_, h2⟩
            rw [List.getElem?_take_of_lt (by omega), h1, hbs.rowlen j (by omega)]
          · simp at hj
            rw [getD_take (by omega)]; exact hbs.rowlen j (by omega)
end Go.Proofs.Ytfehgelggjpaaaa
