/-
  A part of the proof: what functions that the statement reaches do, or a plain law on what they do. Each theorem holds under its own premises alone.
-/
import Derived.Test.YtfehgelggjpaaaaTX2
import Derived.Test.YtfehgelggjpaaaaKit
namespace Go.Proofs.Ytfehgelggjpaaaa
open Go Go.Lk
def m39 (z : Int) : Nat := FloatKind.f64.nearest (z.tmod 549755813888)
def cOf (q : Int × Int) : Nat × Nat := (m39 q.1, m39 q.2)
structure IsMin (rows : List (List (Int × Int))) (n : Nat) : Prop where
  le : ∀ j, j < rows.length → n ≤ (rows.getD j []).length
  ex : 0 < rows.length → ∃ j, j < rows.length ∧ n = (rows.getD j []).length
theorem whole_ok (a : Option Addr) (c : Nat) (rows : List (List (Int × Int))) (rvs : List Value) (w0 : World) (hr : RowsP w0 a rows rvs) (hk63 : 0 < rows.length ∧ rows.length ≤ 200) :
    Ret Try.prog 11 [.slice a rows.length c] w0 fun v w' => ∃ n vs M0 Ms, IsMin rows n ∧ Bl w0 36 1 v rows.length vs M0 ∧ BlL w0 n vs (rows.map fun r => (r.take n).map cOf) Ms ∧ HS w0 w' (Ms ++ M0) := by
  refine Ret.start fun w hs => ?_
  obtain ⟨k, hkk⟩ : ∃ k, k = rows.length := ⟨_, rfl⟩
  have hrl := hr.len
  rw [← hkk] at hk63 hrl ⊢
  have hla : a = some (aD a) := hr.sl.ao (by omega)
  refine calls_of_W Try.func11 rfl rfl rfl ?_
  refine W_seq ?_
  refine W_region ?_
  refine L_assign rfl rfl ?_
  refine RL_then ?_
  refine W_seq ?_
  refine W_region ?_
  refine L_assign rfl rfl ?_
  refine RL_then ?_
  refine W_seq ?_
  refine W_seq ?_
  refine W_region ?_
  refine L_assign rfl rfl ?_
  refine RL_then ?_
  refine W_block ?_
  refine W_loop3 (fun (i : Nat) (n : Nat) (w : World) => [(0, .slice a k c), (3, .int .i64 n), (4, .int .i64 i)]) (fun (i : Nat) (n : Nat) (w : World) => w) (fun (i : Nat) (n : Nat) (w : World) => (i ≤ k) ∧ (n ≤ 8796093021952) ∧ (∀ j, j < i → n ≤ (rows.getD j []).length) ∧ (0 < i → ∃ j, j < i ∧ n = (rows.getD j []).length) ∧ (HS w0 w [])) (fun (i : Nat) (n : Nat) (w : World) => k - i) (0) (0) (w) (is := [0, 3, 4]) rfl rfl ?_ ?_
  · exact ⟨Nat.zero_le _, by omega, fun j hj => absurd hj (Nat.not_lt_zero j), fun h => absurd h (Nat.lt_irrefl 0), hs⟩
  · clear hs
    intro i n w hI
    show W _ _ _ _ [(0, .slice a k c), (3, .int .i64 n), (4, .int .i64 i)] w
    obtain ⟨hi, hn63, hle, hat, hs⟩ := hI
    by_cases hlt : i < k
    · obtain ⟨ai, ci, h1, h3, h2⟩ := hr.row i (by omega)
      obtain ⟨l1, hl1⟩ : ∃ l1, l1 = (rows.getD i []).length := ⟨_, rfl⟩
      rw [← hl1] at h1 h3
      refine W_seq ?_
      refine W_seq ?_
      refine W_region ?_
      refine L_move rfl rfl ?_
      refine L_move rfl rfl ?_
      refine L_len rfl Try.underlying26 rfl ?_
      first | refine L_lss rfl rfl rfl (dtrue (by omega)) ?_ | refine L_lss rfl rfl rfl (dfalse (by omega)) ?_ | refine L_lss rfl rfl rfl rfl ?_
      refine RL_then ?_
      refine W_if_true rfl ?_
      by_cases hset : i = 0 ∨ l1 < n
      · by_cases hi0 : i = 0
        · refine W_skip' ?_
          refine Nx_then ?_
          refine W_seq ?_
          refine W_block ?_
          refine W_seq ?_
          refine W_region ?_
          refine L_move rfl rfl ?_
          first | refine L_eql rfl rfl rfl (dtrue (by omega)) ?_ | refine L_eql rfl rfl rfl (dfalse (by omega)) ?_ | refine L_eql rfl rfl rfl rfl ?_
          refine L_move rfl rfl ?_
          first | (refine RL_want rfl rfl ?_; refine L_move rfl rfl ?_) | refine RL_skip rfl rfl rfl rfl ?_ | refine RL_skipU rfl rfl rfl ?_
          first | (refine RL_want rfl rfl ?_; refine L_move rfl rfl ?_) | refine RL_skip rfl rfl rfl rfl ?_ | refine RL_skipU rfl rfl rfl ?_
          first | (refine RL_want rfl rfl ?_; refine L_idx1 rfl Try.underlying26 Try.ti28 rfl rfl (by with_reducible first | exact natc_k _ | exact natc_a1 _ | exact natc_0 | exact natc_1 | exact natc_2 | exact natc_s1 _ (by omega) | exact natc_a2 _ | exact natc_add _ _ | exact natc_mul _ _ | exact natc (by omega)) (by omega) hla ?_) | refine RL_skip rfl rfl rfl rfl ?_ | refine RL_skipU rfl rfl rfl ?_
          first | (refine RL_want rfl rfl ?_; refine L_load rfl Try.one28 rfl (by exact (hr.sl.old hs Own.nil).get h1) ?_) | refine RL_skip rfl rfl rfl rfl ?_ | refine RL_skipU rfl rfl rfl ?_
          first | (refine RL_want rfl rfl ?_; refine L_len rfl Try.underlying28 rfl ?_) | refine RL_skip rfl rfl rfl rfl ?_ | refine RL_skipU rfl rfl rfl ?_
          first | (refine RL_want rfl rfl ?_; refine L_move rfl rfl ?_) | refine RL_skip rfl rfl rfl rfl ?_ | refine RL_skipU rfl rfl rfl ?_
          first | (refine RL_want rfl rfl ?_; (first | refine L_lss rfl rfl rfl (dtrue (by omega)) ?_ | refine L_lss rfl rfl rfl (dfalse (by omega)) ?_ | refine L_lss rfl rfl rfl rfl ?_)) | refine RL_skip rfl rfl rfl rfl ?_ | refine RL_skipU rfl rfl rfl ?_
          first | refine L_pick_t rfl rfl rfl ?_ | refine L_pick_f rfl rfl rfl ?_
          refine RL_then ?_
          refine W_if_true rfl ?_
          refine W_region ?_
          refine L_move rfl rfl ?_
          refine L_move rfl rfl ?_
          refine L_idx1 rfl Try.underlying26 Try.ti28 rfl rfl (by with_reducible first | exact natc_k _ | exact natc_a1 _ | exact natc_0 | exact natc_1 | exact natc_2 | exact natc_s1 _ (by omega) | exact natc_a2 _ | exact natc_add _ _ | exact natc_mul _ _ | exact natc (by omega)) (by omega) hla ?_
          refine L_load rfl Try.one28 rfl (by exact (hr.sl.old hs Own.nil).get h1) ?_
          refine L_len rfl Try.underlying28 rfl ?_
          refine L_assign rfl rfl ?_
          refine RL_nil' ?_
          refine Nx_block ?_
          refine Nx_then ?_
          refine W_region ?_
          refine L_move rfl rfl ?_
          first | refine L_add rfl rfl rfl (wrp_i64 (by omega)) ?_ | refine L_add rfl rfl rfl rfl ?_
          refine L_assign rfl rfl ?_
          refine RL_nil' ?_
          refine Nx_loopP (i + 1, l1, w) (is := [0, 3, 4]) (I' := (fun (i : Nat) (n : Nat) (w : World) => (i ≤ k) ∧ (n ≤ 8796093021952) ∧ (∀ j, j < i → n ≤ (rows.getD j []).length) ∧ (0 < i → ∃ j, j < i ∧ n = (rows.getD j []).length) ∧ (HS w0 w [])) (i + 1) (l1) (w)) rfl rfl rfl ?_ ?_
          · refine ⟨by omega, by omega, fun j hj => ?_, fun _ => ⟨i, by omega, hl1⟩, hs⟩
            obtain rfl : j = i := by omega
            omega
          · omega
        · have hlt4 : l1 < n := by omega
          refine W_skip' ?_
          refine Nx_then ?_
          refine W_seq ?_
          refine W_block ?_
          refine W_seq ?_
          refine W_region ?_
          refine L_move rfl rfl ?_
          first | refine L_eql rfl rfl rfl (dtrue (by omega)) ?_ | refine L_eql rfl rfl rfl (dfalse (by omega)) ?_ | refine L_eql rfl rfl rfl rfl ?_
          refine L_move rfl rfl ?_
          first | (refine RL_want rfl rfl ?_; refine L_move rfl rfl ?_) | refine RL_skip rfl rfl rfl rfl ?_ | refine RL_skipU rfl rfl rfl ?_
          first | (refine RL_want rfl rfl ?_; refine L_move rfl rfl ?_) | refine RL_skip rfl rfl rfl rfl ?_ | refine RL_skipU rfl rfl rfl ?_
          first | (refine RL_want rfl rfl ?_; refine L_idx1 rfl Try.underlying26 Try.ti28 rfl rfl (by with_reducible first | exact natc_k _ | exact natc_a1 _ | exact natc_0 | exact natc_1 | exact natc_2 | exact natc_s1 _ (by omega) | exact natc_a2 _ | exact natc_add _ _ | exact natc_mul _ _ | exact natc (by omega)) (by omega) hla ?_) | refine RL_skip rfl rfl rfl rfl ?_ | refine RL_skipU rfl rfl rfl ?_
          first | (refine RL_want rfl rfl ?_; refine L_load rfl Try.one28 rfl (by exact (hr.sl.old hs Own.nil).get h1) ?_) | refine RL_skip rfl rfl rfl rfl ?_ | refine RL_skipU rfl rfl rfl ?_
          first | (refine RL_want rfl rfl ?_; refine L_len rfl Try.underlying28 rfl ?_) | refine RL_skip rfl rfl rfl rfl ?_ | refine RL_skipU rfl rfl rfl ?_
          first | (refine RL_want rfl rfl ?_; refine L_move rfl rfl ?_) | refine RL_skip rfl rfl rfl rfl ?_ | refine RL_skipU rfl rfl rfl ?_
          first | (refine RL_want rfl rfl ?_; (first | refine L_lss rfl rfl rfl (dtrue (by omega)) ?_ | refine L_lss rfl rfl rfl (dfalse (by omega)) ?_ | refine L_lss rfl rfl rfl rfl ?_)) | refine RL_skip rfl rfl rfl rfl ?_ | refine RL_skipU rfl rfl rfl ?_
          first | refine L_pick_t rfl rfl rfl ?_ | refine L_pick_f rfl rfl rfl ?_
          refine RL_then ?_
          refine W_if_true rfl ?_
          refine W_region ?_
          refine L_move rfl rfl ?_
          refine L_move rfl rfl ?_
          refine L_idx1 rfl Try.underlying26 Try.ti28 rfl rfl (by with_reducible first | exact natc_k _ | exact natc_a1 _ | exact natc_0 | exact natc_1 | exact natc_2 | exact natc_s1 _ (by omega) | exact natc_a2 _ | exact natc_add _ _ | exact natc_mul _ _ | exact natc (by omega)) (by omega) hla ?_
          refine L_load rfl Try.one28 rfl (by exact (hr.sl.old hs Own.nil).get h1) ?_
          refine L_len rfl Try.underlying28 rfl ?_
          refine L_assign rfl rfl ?_
          refine RL_nil' ?_
          refine Nx_block ?_
          refine Nx_then ?_
          refine W_region ?_
          refine L_move rfl rfl ?_
          first | refine L_add rfl rfl rfl (wrp_i64 (by omega)) ?_ | refine L_add rfl rfl rfl rfl ?_
          refine L_assign rfl rfl ?_
          refine RL_nil' ?_
          refine Nx_loopP (i + 1, l1, w) (is := [0, 3, 4]) (I' := (fun (i : Nat) (n : Nat) (w : World) => (i ≤ k) ∧ (n ≤ 8796093021952) ∧ (∀ j, j < i → n ≤ (rows.getD j []).length) ∧ (0 < i → ∃ j, j < i ∧ n = (rows.getD j []).length) ∧ (HS w0 w [])) (i + 1) (l1) (w)) rfl rfl rfl ?_ ?_
          · refine ⟨by omega, by omega, fun j hj => ?_, fun _ => ⟨i, by omega, hl1⟩, hs⟩
            rcases Nat.lt_or_ge j i with h5 | h5
            · have := hle j h5; omega
            · obtain rfl : j = i := by omega
              omega
          · omega
      · have hi0 : ¬ i = 0 := by omega
        have hlt4 : ¬ l1 < n := by omega
        refine W_skip' ?_
        refine Nx_then ?_
        refine W_seq ?_
        refine W_block ?_
        refine W_seq ?_
        refine W_region ?_
        refine L_move rfl rfl ?_
        first | refine L_eql rfl rfl rfl (dtrue (by omega)) ?_ | refine L_eql rfl rfl rfl (dfalse (by omega)) ?_ | refine L_eql rfl rfl rfl rfl ?_
        refine L_move rfl rfl ?_
        first | (refine RL_want rfl rfl ?_; refine L_move rfl rfl ?_) | refine RL_skip rfl rfl rfl rfl ?_ | refine RL_skipU rfl rfl rfl ?_
        first | (refine RL_want rfl rfl ?_; refine L_move rfl rfl ?_) | refine RL_skip rfl rfl rfl rfl ?_ | refine RL_skipU rfl rfl rfl ?_
        first | (refine RL_want rfl rfl ?_; refine L_idx1 rfl Try.underlying26 Try.ti28 rfl rfl (by with_reducible first | exact natc_k _ | exact natc_a1 _ | exact natc_0 | exact natc_1 | exact natc_2 | exact natc_s1 _ (by omega) | exact natc_a2 _ | exact natc_add _ _ | exact natc_mul _ _ | exact natc (by omega)) (by omega) hla ?_) | refine RL_skip rfl rfl rfl rfl ?_ | refine RL_skipU rfl rfl rfl ?_
        first | (refine RL_want rfl rfl ?_; refine L_load rfl Try.one28 rfl (by exact (hr.sl.old hs Own.nil).get h1) ?_) | refine RL_skip rfl rfl rfl rfl ?_ | refine RL_skipU rfl rfl rfl ?_
        first | (refine RL_want rfl rfl ?_; refine L_len rfl Try.underlying28 rfl ?_) | refine RL_skip rfl rfl rfl rfl ?_ | refine RL_skipU rfl rfl rfl ?_
        first | (refine RL_want rfl rfl ?_; refine L_move rfl rfl ?_) | refine RL_skip rfl rfl rfl rfl ?_ | refine RL_skipU rfl rfl rfl ?_
        first | (refine RL_want rfl rfl ?_; (first | refine L_lss rfl rfl rfl (dtrue (by omega)) ?_ | refine L_lss rfl rfl rfl (dfalse (by omega)) ?_ | refine L_lss rfl rfl rfl rfl ?_)) | refine RL_skip rfl rfl rfl rfl ?_ | refine RL_skipU rfl rfl rfl ?_
        first | refine L_pick_t rfl rfl rfl ?_ | refine L_pick_f rfl rfl rfl ?_
        refine RL_then ?_
        refine W_if_false rfl ?_
        refine W_skip' ?_
        refine Nx_block ?_
        refine Nx_then ?_
        refine W_region ?_
        refine L_move rfl rfl ?_
        first | refine L_add rfl rfl rfl (wrp_i64 (by omega)) ?_ | refine L_add rfl rfl rfl rfl ?_
        refine L_assign rfl rfl ?_
        refine RL_nil' ?_
        refine Nx_loopP (i + 1, n, w) (is := [0, 3, 4]) (I' := (fun (i : Nat) (n : Nat) (w : World) => (i ≤ k) ∧ (n ≤ 8796093021952) ∧ (∀ j, j < i → n ≤ (rows.getD j []).length) ∧ (0 < i → ∃ j, j < i ∧ n = (rows.getD j []).length) ∧ (HS w0 w [])) (i + 1) (n) (w)) rfl rfl rfl ?_ ?_
        · refine ⟨by omega, by omega, fun j hj => ?_, fun _ => ?_, hs⟩
          · rcases Nat.lt_or_ge j i with h5 | h5
            · exact hle j h5
            · obtain rfl : j = i := by omega
              omega
          · obtain ⟨j, h5, h6⟩ := hat (by omega)
            exact ⟨j, by omega, h6⟩
        · omega
    · refine W_seq ?_
      refine W_seq ?_
      refine W_region ?_
      refine L_move rfl rfl ?_
      refine L_move rfl rfl ?_
      refine L_len rfl Try.underlying26 rfl ?_
      first | refine L_lss rfl rfl rfl (dtrue (by omega)) ?_ | refine L_lss rfl rfl rfl (dfalse (by omega)) ?_ | refine L_lss rfl rfl rfl rfl ?_
      refine RL_then ?_
      refine W_if_false rfl ?_
      obtain rfl : i = k := by omega
      have hmin : IsMin rows n := ⟨fun j hj => hle j (by omega), fun h => by rw [← hkk]; exact hat (by omega)⟩
      clear hle hat hlt hi
      refine W_exit' ?_
      refine Ex_then_exit ?_
      refine Ex_loop_exit ?_
      refine Ex_block_hit ?_
      refine Nx_then ?_
      refine W_seq ?_
      refine W_region ?_
      refine L_assign rfl rfl ?_
      refine RL_then ?_
      refine W_seq ?_
      refine W_seq ?_
      refine W_region ?_
      refine L_assign rfl rfl ?_
      refine RL_then ?_
      refine W_block ?_
      refine W_loop6 (fun (p : Nat) (v : Value) (vs : List Value) (M0 : List (Nat × Obj)) (Ms : List (Nat × Obj)) (w : World) => [(0, .slice a i c), (3, .int .i64 n), (5, v), (6, .int .i64 p)]) (fun (p : Nat) (v : Value) (vs : List Value) (M0 : List (Nat × Obj)) (Ms : List (Nat × Obj)) (w : World) => w) (fun (p : Nat) (v : Value) (vs : List Value) (M0 : List (Nat × Obj)) (Ms : List (Nat × Obj)) (w : World) => (p ≤ i) ∧ (Bl w0 36 1 v p vs M0) ∧ (BlL w0 n vs ((rows.take p).map fun r => (r.take n).map cOf) Ms) ∧ (HS w0 w (Ms ++ M0))) (fun (p : Nat) (v : Value) (vs : List Value) (M0 : List (Nat × Obj)) (Ms : List (Nat × Obj)) (w : World) => i - p) (0) (.slice none 0 0) ([]) ([]) ([]) (w) (is := [0, 3, 5, 6]) rfl rfl ?_ ?_
      · exact ⟨Nat.zero_le _, .nil, .nil, hs⟩
      · clear hs
        intro p v vs M0 Ms w hI
        show W _ _ _ _ [(0, .slice a i c), (3, .int .i64 n), (5, v), (6, .int .i64 p)] w
        obtain ⟨hp, hbo, hbs, hs⟩ := hI
        by_cases hlt : p < i
        · obtain ⟨ai, ci, h1, h3, h2⟩ := hr.row p (by omega)
          obtain ⟨row, hrow⟩ : ∃ row, row = rows.getD p [] := ⟨_, rfl⟩
          rw [← hrow] at h1 h3 h2
          have hnr : n ≤ row.length := by rw [hrow]; exact hmin.le p (by omega)
          refine W_seq ?_
          refine W_seq ?_
          refine W_region ?_
          refine L_move rfl rfl ?_
          refine L_move rfl rfl ?_
          refine L_len rfl Try.underlying26 rfl ?_
          first | refine L_lss rfl rfl rfl (dtrue (by omega)) ?_ | refine L_lss rfl rfl rfl (dfalse (by omega)) ?_ | refine L_lss rfl rfl rfl rfl ?_
          refine RL_then ?_
          refine W_if_true rfl ?_
          refine W_skip' ?_
          refine Nx_then ?_
          refine W_seq ?_
          refine W_block ?_
          refine W_seq ?_
          refine W_region ?_
          refine L_assign rfl rfl ?_
          refine RL_then ?_
          refine W_seq ?_
          refine W_seq ?_
          refine W_region ?_
          refine L_assign rfl rfl ?_
          refine RL_then ?_
          refine W_block ?_
          refine W_loop5 (fun (q : Nat) (v' : Value) (xs : List (Nat × Nat)) (M : List (Nat × Obj)) (w : World) => [(0, .slice a i c), (3, .int .i64 n), (5, v), (6, .int .i64 p), (7, v'), (8, .int .i64 q)]) (fun (q : Nat) (v' : Value) (xs : List (Nat × Nat)) (M : List (Nat × Obj)) (w : World) => w) (fun (q : Nat) (v' : Value) (xs : List (Nat × Nat)) (M : List (Nat × Obj)) (w : World) => (q ≤ n) ∧ (xs = (row.take q).map cOf) ∧ (Bl w0 34 1 v' q (cl xs) M) ∧ (HS w0 w ((Ms ++ M0) ++ M))) (fun (q : Nat) (v' : Value) (xs : List (Nat × Nat)) (M : List (Nat × Obj)) (w : World) => n - q) (0) (.slice none 0 0) ([]) ([]) (w) (is := [0, 3, 5, 6, 7, 8]) rfl rfl ?_ ?_
          · exact ⟨Nat.zero_le _, rfl, .nil, by rw [List.append_nil]; exact hs⟩
          · clear hs
            intro q v' xs M w hI
            show W _ _ _ _ [(0, .slice a i c), (3, .int .i64 n), (5, v), (6, .int .i64 p), (7, v'), (8, .int .i64 q)] w
            obtain ⟨hq, hxs, hbl, hs⟩ := hI
            have hO : Own w0 ((Ms ++ M0) ++ M) := (hbs.own.app hbo.own).app hbl.own
            by_cases hlt2 : q < n
            · have hai := h2.ao (by omega)
              refine W_seq ?_
              refine W_seq ?_
              refine W_region ?_
              refine L_move rfl rfl ?_
              refine L_move rfl rfl ?_
              first | refine L_lss rfl rfl rfl (dtrue (by omega)) ?_ | refine L_lss rfl rfl rfl (dfalse (by omega)) ?_ | refine L_lss rfl rfl rfl rfl ?_
              refine RL_then ?_
              refine W_if_true rfl ?_
              refine W_skip' ?_
              refine Nx_then ?_
              refine W_seq ?_
              refine W_block ?_
              refine W_pht [0, 1, 2, 3, 5, 11, 12, 13, 15] [4, 6, 7, 8, 9, 10, 14, 16, 17, 18, 19, 20, 21] [22, 23, 24] (fun _ _ _ => False) Try.mixed (by kernel_rfl) (fun _ _ _ _ _ h => h) hs ?_
              refine PL_val rfl (fun w => R_move rfl) ?_
              refine PL_val rfl (fun w => R_move rfl) ?_
              refine PL_val rfl (fun w => R_move rfl) ?_
              refine PL_val rfl (fun w => R_idx1 Try.underlying26 Try.ti28 rfl rfl (by with_reducible first | exact natc_k _ | exact natc_a1 _ | exact natc_0 | exact natc_1 | exact natc_2 | exact natc_s1 _ (by omega) | exact natc_a2 _ | exact natc_add _ _ | exact natc_mul _ _ | exact natc (by omega)) (by omega) (by first | exact hla | exact hai)) ?_
              refine PL_val rfl (fun w => R_move rfl) ?_
              refine PL_val rfl (fun w => R_move rfl) ?_
              refine PL_val rfl (fun w => R_move rfl) ?_
              refine PL_val rfl (fun w => R_idx1 Try.underlying26 Try.ti28 rfl rfl (by with_reducible first | exact natc_k _ | exact natc_a1 _ | exact natc_0 | exact natc_1 | exact natc_2 | exact natc_s1 _ (by omega) | exact natc_a2 _ | exact natc_add _ _ | exact natc_mul _ _ | exact natc (by omega)) (by omega) (by first | exact hla | exact hai)) ?_
              refine PL_val rfl (fun w => R_move rfl) ?_
              refine PL_end ?_
              refine HL_val rfl (fun w hs => R_load Try.one28 rfl (by first | exact (hr.sl.old hs hO).get h1 | (rw [add_add, Nat.zero_mul, Nat.add_zero]; exact (h2.old hs hO).c0 q (by omega)) | (rw [add_add, Nat.one_mul]; exact (h2.old hs hO).c1 q (by omega)))) ?_
              refine HL_val rfl (fun w hs => R_idxN Try.underlying28 Try.ti27 rfl rfl (by with_reducible first | exact natc_k _ | exact natc_a1 _ | exact natc_0 | exact natc_1 | exact natc_2 | exact natc_s1 _ (by omega) | exact natc_a2 _ | exact natc_add _ _ | exact natc_mul _ _ | exact natc (by omega)) (by omega) (by first | exact hla | exact hai)) ?_
              refine HL_val rfl (fun w hs => R_idxA Try.underlying27 Try.ti2 rfl rfl (by with_reducible first | exact natc_k _ | exact natc_a1 _ | exact natc_0 | exact natc_1 | exact natc_2 | exact natc_s1 _ (by omega) | exact natc_a2 _ | exact natc_add _ _ | exact natc_mul _ _ | exact natc (by omega)) (by omega)) ?_
              refine HL_val rfl (fun w hs => R_load Try.one2 rfl (by first | exact (hr.sl.old hs hO).get h1 | (rw [add_add, Nat.zero_mul, Nat.add_zero]; exact (h2.old hs hO).c0 q (by omega)) | (rw [add_add, Nat.one_mul]; exact (h2.old hs hO).c1 q (by omega)))) ?_
              refine HL_val rfl (fun w hs => R_rem rfl rfl (by omega)) ?_
              refine HL_val rfl (fun w hs => R_itof Try.underlying2 Try.underlying35 rfl) ?_
              refine HL_val rfl (fun w hs => R_load Try.one28 rfl (by first | exact (hr.sl.old hs hO).get h1 | (rw [add_add, Nat.zero_mul, Nat.add_zero]; exact (h2.old hs hO).c0 q (by omega)) | (rw [add_add, Nat.one_mul]; exact (h2.old hs hO).c1 q (by omega)))) ?_
              refine HL_val rfl (fun w hs => R_idxN Try.underlying28 Try.ti27 rfl rfl (by with_reducible first | exact natc_k _ | exact natc_a1 _ | exact natc_0 | exact natc_1 | exact natc_2 | exact natc_s1 _ (by omega) | exact natc_a2 _ | exact natc_add _ _ | exact natc_mul _ _ | exact natc (by omega)) (by omega) (by first | exact hla | exact hai)) ?_
              refine HL_val rfl (fun w hs => R_idxA Try.underlying27 Try.ti2 rfl rfl (by with_reducible first | exact natc_k _ | exact natc_a1 _ | exact natc_0 | exact natc_1 | exact natc_2 | exact natc_s1 _ (by omega) | exact natc_a2 _ | exact natc_add _ _ | exact natc_mul _ _ | exact natc (by omega)) (by omega)) ?_
              refine HL_val rfl (fun w hs => R_load Try.one2 rfl (by first | exact (hr.sl.old hs hO).get h1 | (rw [add_add, Nat.zero_mul, Nat.add_zero]; exact (h2.old hs hO).c0 q (by omega)) | (rw [add_add, Nat.one_mul]; exact (h2.old hs hO).c1 q (by omega)))) ?_
              refine HL_val rfl (fun w hs => R_rem rfl rfl (by omega)) ?_
              refine HL_val rfl (fun w hs => R_itof Try.underlying2 Try.underlying35 rfl) ?_
              refine HL_val rfl (fun w hs => R_complex rfl rfl) ?_
              refine HL_tail ?_
              intro w hs
              refine L_buildSlice rfl hs Try.underlying36 Try.ti34 rfl (by decide) rfl (by simp [Value.cells]) ?_
              intro b64 w hb64 hnb64 hs
              try simp only [List.flatMap_cons, List.flatMap_nil, cells_int, cells_float, cells_complex, cells_bool, cells_string, cells_pointer, cells_slice, cells_map, cells_agg, List.append_nil, List.set_cons_succ, List.set_cons_zero, List.cons_append, List.nil_append] at hs
              refine L_appendT rfl Try.underlying36 Try.ti34 rfl (L := (Ms ++ M0)) hs (by assumption) hbl rfl rfl rfl (by simp [Value.oneCell'] ) (by omega) (by omega) ?_
              intro v65 w M65 hs hbl
              refine L_assign rfl rfl ?_
              refine RL_nil' ?_
              refine Nx_block ?_
              refine Nx_then ?_
              refine W_region ?_
              refine L_move rfl rfl ?_
              first | refine L_add rfl rfl rfl (wrp_i64 (by omega)) ?_ | refine L_add rfl rfl rfl rfl ?_
              refine L_assign rfl rfl ?_
              refine RL_nil' ?_
              rw [cl_snoc] at hbl
              refine Nx_loopP (q + 1, v65, xs ++ [cOf (row.getD q (0, 0))], M65, w) (is := [0, 3, 5, 6, 7, 8]) (I' := (fun (q : Nat) (v' : Value) (xs : List (Nat × Nat)) (M : List (Nat × Obj)) (w : World) => (q ≤ n) ∧ (xs = (row.take q).map cOf) ∧ (Bl w0 34 1 v' q (cl xs) M) ∧ (HS w0 w ((Ms ++ M0) ++ M))) (q + 1) (v65) (xs ++ [cOf (row.getD q (0, 0))]) (M65) (w)) rfl rfl rfl ?_ ?_
              · refine ⟨by omega, ?_, hbl, hs⟩
                rw [hxs, List.take_succ_eq_append_getElem (by omega), List.map_append]
                simp only [List.getD, List.getElem?_eq_getElem (show q < row.length by omega), Option.getD_some, List.map_cons, List.map_nil]
              · omega
            · obtain ⟨aq, cq, rfl, _⟩ := hbl.slice
              obtain rfl : n = q := by omega
              refine W_seq ?_
              refine W_seq ?_
              refine W_region ?_
              refine L_move rfl rfl ?_
              refine L_move rfl rfl ?_
              first | refine L_lss rfl rfl rfl (dtrue (by omega)) ?_ | refine L_lss rfl rfl rfl (dfalse (by omega)) ?_ | refine L_lss rfl rfl rfl rfl ?_
              refine RL_then ?_
              refine W_if_false rfl ?_
              refine W_exit' ?_
              refine Ex_then_exit ?_
              refine Ex_loop_exit ?_
              refine Ex_block_hit ?_
              refine Nx_then ?_
              refine W_region ?_
              refine L_move rfl rfl ?_
              refine L_move rfl rfl ?_
              refine L_buildSlice rfl hs Try.underlying29 Try.ti36 rfl (by decide) rfl (by simp [Value.cells]) ?_
              intro b68 w hb68 hnb68 hs
              try simp only [List.flatMap_cons, List.flatMap_nil, cells_int, cells_float, cells_complex, cells_bool, cells_string, cells_pointer, cells_slice, cells_map, cells_agg, List.append_nil, List.set_cons_succ, List.set_cons_zero, List.cons_append, List.nil_append] at hs
              refine L_appendT rfl Try.underlying29 Try.ti36 rfl (L := (Ms ++ M)) (hs.mem_perm (by simp only [List.append_assoc]; exact List.Perm.append_left _ (List.perm_append_comm_assoc _ _ _))) (by assumption) hbo rfl rfl rfl (by simp [Value.oneCell'] ) (by omega) (by omega) ?_
              intro v69 w M69 hs hbo
              refine L_assign rfl rfl ?_
              refine RL_nil' ?_
              refine Nx_block ?_
              refine Nx_then ?_
              refine W_region ?_
              refine L_move rfl rfl ?_
              first | refine L_add rfl rfl rfl (wrp_i64 (by omega)) ?_ | refine L_add rfl rfl rfl rfl ?_
              refine L_assign rfl rfl ?_
              refine RL_nil' ?_
              have hbs2 := hbs.snoc hbl
              rw [show ((rows.take p).map fun r => (r.take n).map cOf) ++ [xs] = (rows.take (p + 1)).map fun r => (r.take n).map cOf by
                rw [List.take_succ_eq_append_getElem (by omega), List.map_append, hxs, hrow]
                simp [List.getD, show p < rows.length by omega]] at hbs2
              refine Nx_loopP (p + 1, v69, vs ++ [.slice aq n cq], M69, Ms ++ M, w) (is := [0, 3, 5, 6]) (I' := (fun (p : Nat) (v : Value) (vs : List Value) (M0 : List (Nat × Obj)) (Ms : List (Nat × Obj)) (w : World) => (p ≤ i) ∧ (Bl w0 36 1 v p vs M0) ∧ (BlL w0 n vs ((rows.take p).map fun r => (r.take n).map cOf) Ms) ∧ (HS w0 w (Ms ++ M0))) (p + 1) (v69) (vs ++ [.slice aq n cq]) (M69) (Ms ++ M) (w)) rfl rfl rfl ?_ ?_
              · exact ⟨by omega, hbo, hbs2, hs⟩
              · omega
        · refine W_seq ?_
          refine W_seq ?_
          refine W_region ?_
          refine L_move rfl rfl ?_
          refine L_move rfl rfl ?_
          refine L_len rfl Try.underlying26 rfl ?_
          first | refine L_lss rfl rfl rfl (dtrue (by omega)) ?_ | refine L_lss rfl rfl rfl (dfalse (by omega)) ?_ | refine L_lss rfl rfl rfl rfl ?_
          refine RL_then ?_
          refine W_if_false rfl ?_
          refine W_exit' ?_
          refine Ex_then_exit ?_
          refine Ex_loop_exit ?_
          refine Ex_block_hit ?_
          refine Nx_then ?_
          refine W_seq ?_
          refine W_region ?_
          refine L_move rfl rfl ?_
          refine L_assign rfl rfl ?_
          refine RL_then ?_
          refine W_ret' ?_
          refine Ex_done1 rfl rfl ?_
          have hpi : p = i := by omega
          rw [hpi] at hbo hbs
          rw [hkk, List.take_length] at hbs
          exact ⟨_, rfl, n, vs, M0, Ms, hmin, hbo, hbs, hs⟩
end Go.Proofs.Ytfehgelggjpaaaa
