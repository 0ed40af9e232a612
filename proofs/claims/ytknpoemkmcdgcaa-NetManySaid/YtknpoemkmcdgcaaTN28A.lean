/-
 A part of the proof: laws for walks, and plain laws, over any program of the model. Each theorem holds under its own premises alone.
-/
import Derived.Test.YtknpoemkmcdgcaaTNH
import Derived.Test.YtknpoemkmcdgcaaKit
import Derived.Test.YtknpoemkmcdgcaaKitY
namespace Go.Proofs.Ytknpoemkmcdgcaa
open Go Go.Lk Go.Pr
/-! ### The document's answer: what it looks at first, and what mates cost -/
theorem rcheck_ok (a : Option Addr) (k c : Nat) (rows : List (List Int)) (rvs : List Value) (w0 : World) (hr : RowsI w0 a rows rvs) (hk : rows.length = k) (hk63 : k ≤ 17592186043904) :
  Ret Try.prog 74 [.slice a k c] w0 fun v w' => v = .int .i64 (chk rows) ∧ HS w0 w' [] := by
 refine Ret.start fun w hs => ?_
 have hrl := hr.len
 refine calls_of_W Try.func74 rfl rfl rfl ?_
 by_cases hbig : 256 < k
 ·
  have he : chk rows = 3 := by unfold chk; rw [decide_eq_true (by omega), Bool.true_or, if_pos rfl]
  refine W_seq (W_region (L_assign rfl rfl (RL_then (W_seq (W_seq (W_region (L_move rfl rfl (L_len rfl Try.underlying89 rfl (L_gtr rfl rfl rfl (dtrue (by omega)) ?_)))))))))
  refine RL_then (W_if_true rfl (W_seq (W_region (L_assign rfl rfl (RL_then (W_ret' (Ex_then_ret (Ex_done1 rfl rfl ?_))))))))
  exact ⟨_, rfl, by rw [he], hs⟩
 ·
  refine W_seq (W_region (L_assign rfl rfl (RL_then (W_seq (W_seq (W_region (L_move rfl rfl (L_len rfl Try.underlying89 rfl (L_gtr rfl rfl rfl (dfalse (by omega)) ?_)))))))))
  refine RL_then (W_if_false rfl (W_skip' (Nx_then (W_seq (W_seq (W_region (L_assign rfl rfl (RL_then (W_block ?_)))))))))
  refine W_loop2 (fun (i : Nat) (w : World) => [(0, .slice a k c), (3, .int .i64 i)]) (fun (i : Nat) (w : World) => w) (fun (i : Nat) (w : World) => (i ≤ k) ∧ (∀ q, q < i → wid rows q ≤ 256) ∧ (HS w0 w [])) (fun (i : Nat) (w : World) => k - i) (0) (w) (is := [0, 3]) rfl rfl ?_ ?_
  ·
   exact ⟨Nat.zero_le _, fun _ h => absurd h (Nat.not_lt_zero _), hs⟩
  ·
   clear hs
   intro i w hI
   show W _ _ _ _ [(0, .slice a k c), (3, .int .i64 i)] w
   obtain ⟨hi, hA, hs⟩ := hI
   by_cases hlt : i < k
   ·
    obtain ⟨ai, ci, g1, g2, g3, g4⟩ := hr.row i (by omega)
    by_cases hw : 256 < (rows.getD i []).length
    ·
     have he : chk rows = 3 := by
      unfold chk
      rw [any_idx (p := fun r : List Int => decide (256 < r.length)).2 ⟨i, by omega, show (fun r : List Int => decide (256 < r.length)) (rows.getD i []) = true from decide_eq_true hw⟩, Bool.or_true, if_pos rfl]
     refine W_seq (W_seq (W_region (L_move rfl rfl (L_move rfl rfl (L_len rfl Try.underlying89 rfl (L_lss rfl rfl rfl (dtrue (by omega)) ?_))))))
     refine RL_then (W_if_true rfl (W_skip' (Nx_then (W_seq (W_block (W_seq (W_region (L_move rfl rfl (L_move rfl rfl (L_idx1 rfl Try.underlying89 Try.ti93 rfl rfl (natc_k _) (by omega) (hr.sl.ao (by omega)) ?_))))))))))
     refine L_load rfl Try.one93 rfl (by exact (hr.sl.old hs Own.nil).get g1) ?_
     refine L_len rfl Try.underlying93 rfl (L_gtr rfl rfl rfl (dtrue (by omega)) ?_)
     refine RL_then (W_if_true rfl (W_seq (W_region (L_assign rfl rfl (RL_then (W_ret' (Ex_block_ret (Ex_then_ret (Ex_loop_ret (Ex_block_ret (Ex_then_ret (Ex_done1 rfl rfl ?_))))))))))))
     exact ⟨_, rfl, by rw [he], hs⟩
    ·
     refine W_seq (W_seq (W_region (L_move rfl rfl (L_move rfl rfl (L_len rfl Try.underlying89 rfl (L_lss rfl rfl rfl (dtrue (by omega)) ?_))))))
     refine RL_then (W_if_true rfl (W_skip' (Nx_then (W_seq (W_block (W_seq (W_region (L_move rfl rfl (L_move rfl rfl (L_idx1 rfl Try.underlying89 Try.ti93 rfl rfl (natc_k _) (by omega) (hr.sl.ao (by omega)) ?_))))))))))
     refine L_load rfl Try.one93 rfl (by exact (hr.sl.old hs Own.nil).get g1) ?_
     refine L_len rfl Try.underlying93 rfl (L_gtr rfl rfl rfl (dfalse (by omega)) ?_)
     refine RL_then (W_if_false rfl (W_skip' (Nx_block (Nx_then (W_region (L_move rfl rfl (L_add rfl rfl rfl (wrp_i64 (by omega)) ?_)))))))
     refine L_assign rfl rfl (RL_nil' ?_)
     refine Nx_loopP (i + 1, w) (is := [0, 3]) (I' := (fun (i : Nat) (w : World) => (i ≤ k) ∧ (∀ q, q < i → wid rows q ≤ 256) ∧ (HS w0 w [])) (i + 1) (w)) rfl rfl rfl ?_ ?_
     ·
      refine ⟨by omega, fun q hq => ?_, hs⟩
      by_cases hqi : q = i
      ·
       rw [hqi]; simp only [wid]; omega
      ·
       exact hA q (by omega)
     ·
      omega
   ·
    obtain rfl : k = i := by omega
    have h1 : (decide (256 < rows.length) || rows.any (fun r => decide (256 < r.length))) = false := by
     rw [decide_eq_false (by omega), Bool.false_or]
     exact any_no fun q hq => decide_eq_false (by have := hA q (by omega); simp only [wid] at this; omega)
    refine W_seq (W_seq (W_region (L_move rfl rfl (L_move rfl rfl (L_len rfl Try.underlying89 rfl (L_lss rfl rfl rfl (dfalse (by omega)) ?_))))))
    refine RL_then (W_if_false rfl (W_exit' (Ex_then_exit (Ex_loop_exit (Ex_block_hit (Nx_then (W_seq (W_seq (W_region (L_assign rfl rfl (RL_then (W_block ?_))))))))))))
    refine W_loop2 (fun (i : Nat) (w : World) => [(0, .slice a k c), (4, .int .i64 i)]) (fun (i : Nat) (w : World) => w) (fun (i : Nat) (w : World) => (i ≤ k) ∧ (∀ q, q < i → wid rows q = wid rows 0) ∧ (HS w0 w [])) (fun (i : Nat) (w : World) => k - i) (0) (w) (is := [0, 4]) rfl rfl ?_ ?_
    ·
     exact ⟨Nat.zero_le _, fun _ h => absurd h (Nat.not_lt_zero _), hs⟩
    ·
     clear hs hi
     intro i w hI
     show W _ _ _ _ [(0, .slice a k c), (4, .int .i64 i)] w
     obtain ⟨hi, hB, hs⟩ := hI
     by_cases hlt : i < k
     ·
      obtain ⟨ai, ci, g1, g2, g3, g4⟩ := hr.row i (by omega)
      obtain ⟨a0, c0, k1, k2, k3, k4⟩ := hr.row 0 (by omega)
      have hold : ∀ {w : World}, HS w0 w [] → ∀ {j : Nat} {v : Value}, rvs[j]? = some v → w.cell? ((aD a).add j) = some v := by intro w hs j v hv; exact (hr.sl.old hs Own.nil).get hv
      by_cases hw : (rows.getD i []).length ≠ (rows.getD 0 []).length
      ·
       have he : chk rows = 5 := by
        unfold chk
        rw [h1, any_idx (p := fun r : List Int => decide (r.length ≠ wid rows 0)).2 ⟨i, by omega, show (fun r : List Int => decide (r.length ≠ wid rows 0)) (rows.getD i []) = true from decide_eq_true hw⟩]
        rfl
       refine W_seq (W_seq (W_region (L_move rfl rfl (L_move rfl rfl (L_len rfl Try.underlying89 rfl (L_lss rfl rfl rfl (dtrue (by omega)) ?_))))))
       refine RL_then (W_if_true rfl (W_skip' (Nx_then (W_seq (W_block (W_seq (W_pht [0, 1, 2, 5, 6] [3, 4, 7, 8, 9] [] (fun _ _ _ => False) Try.mixed (by kernel_rfl) (fun _ _ _ _ _ h => h) hs ?_)))))))
       refine PL_val rfl (fun w => R_move rfl) ?_
       refine PL_val rfl (fun w => R_move rfl) ?_
       refine PL_val rfl (fun w => R_idx1 Try.underlying89 Try.ti93 rfl rfl (natc_k _) (by omega) (hr.sl.ao (by omega))) ?_
       refine PL_val rfl (fun w => R_move rfl) ?_
       refine PL_val rfl (fun w => R_idx1 Try.underlying89 Try.ti93 rfl rfl natc_0 (by omega) (hr.sl.ao (by omega))) ?_
       refine PL_end (HL_val rfl (fun w hs => R_load Try.one93 rfl (hold hs g1)) ?_)
       refine HL_val rfl (fun w hs => R_len Try.underlying93 rfl) ?_
       refine HL_val rfl (fun w hs => R_load Try.one93 rfl (hold hs k1)) ?_
       refine HL_val rfl (fun w hs => R_len Try.underlying93 rfl) ?_
       refine HL_val rfl (fun w hs => R_neq rfl rfl (dtrue (by omega))) ?_
       refine HL_tail ?_
       intro w hs
       refine RL_then (W_if_true rfl (W_seq (W_region (L_assign rfl rfl (RL_then (W_ret' (Ex_block_ret (Ex_then_ret (Ex_loop_ret (Ex_block_ret (Ex_then_ret (Ex_done1 rfl rfl ?_))))))))))))
       exact ⟨_, rfl, by rw [he], hs⟩
      ·
       rw [Classical.not_not] at hw
       refine W_seq (W_seq (W_region (L_move rfl rfl (L_move rfl rfl (L_len rfl Try.underlying89 rfl (L_lss rfl rfl rfl (dtrue (by omega)) ?_))))))
       refine RL_then (W_if_true rfl (W_skip' (Nx_then (W_seq (W_block (W_seq (W_pht [0, 1, 2, 5, 6] [3, 4, 7, 8, 9] [] (fun _ _ _ => False) Try.mixed (by kernel_rfl) (fun _ _ _ _ _ h => h) hs ?_)))))))
       refine PL_val rfl (fun w => R_move rfl) ?_
       refine PL_val rfl (fun w => R_move rfl) ?_
       refine PL_val rfl (fun w => R_idx1 Try.underlying89 Try.ti93 rfl rfl (natc_k _) (by omega) (hr.sl.ao (by omega))) ?_
       refine PL_val rfl (fun w => R_move rfl) ?_
       refine PL_val rfl (fun w => R_idx1 Try.underlying89 Try.ti93 rfl rfl natc_0 (by omega) (hr.sl.ao (by omega))) ?_
       refine PL_end (HL_val rfl (fun w hs => R_load Try.one93 rfl (hold hs g1)) ?_)
       refine HL_val rfl (fun w hs => R_len Try.underlying93 rfl) ?_
       refine HL_val rfl (fun w hs => R_load Try.one93 rfl (hold hs k1)) ?_
       refine HL_val rfl (fun w hs => R_len Try.underlying93 rfl) ?_
       refine HL_val rfl (fun w hs => R_neq rfl rfl (dfalse (by omega))) ?_
       refine HL_tail ?_
       intro w hs
       refine RL_then (W_if_false rfl (W_skip' (Nx_block (Nx_then (W_region (L_move rfl rfl (L_add rfl rfl rfl (wrp_i64 (by omega)) ?_)))))))
       refine L_assign rfl rfl (RL_nil' ?_)
       refine Nx_loopP (i + 1, _) (is := [0, 4]) (I' := (fun (i : Nat) (w : World) => (i ≤ k) ∧ (∀ q, q < i → wid rows q = wid rows 0) ∧ (HS w0 w [])) (i + 1) (_)) rfl rfl rfl ?_ ?_
       ·
        refine ⟨by omega, fun q hq => ?_, hs⟩
        by_cases hqi : q = i
        ·
         rw [hqi]; exact hw
        ·
         exact hB q (by omega)
       ·
        omega
     ·
      obtain rfl : k = i := by omega
      have h2 : rows.any (fun r => decide (r.length ≠ wid rows 0)) = false := any_no fun q hq => decide_eq_false fun hn => hn (hB q (by omega))
      refine W_seq (W_seq (W_region (L_move rfl rfl (L_move rfl rfl (L_len rfl Try.underlying89 rfl (L_lss rfl rfl rfl (dfalse (by omega)) ?_))))))
      refine RL_then (W_if_false rfl (W_exit' (Ex_then_exit (Ex_loop_exit (Ex_block_hit (Nx_then (W_seq (W_seq (W_region (L_assign rfl rfl (RL_then (W_block ?_))))))))))))
      refine W_loop2 (fun (i : Nat) (w : World) => [(0, .slice a k c), (5, .int .i64 i)]) (fun (i : Nat) (w : World) => w) (fun (i : Nat) (w : World) => (i ≤ k) ∧ (∀ q j, q < i → j < wid rows q → el rows q j ≤ 1099511627776) ∧ (HS w0 w [])) (fun (i : Nat) (w : World) => k - i) (0) (w) (is := [0, 5]) rfl rfl ?_ ?_
      ·
       exact ⟨Nat.zero_le _, fun _ _ h => absurd h (Nat.not_lt_zero _), hs⟩
      ·
       clear hs hi
       intro i w hI
       show W _ _ _ _ [(0, .slice a k c), (5, .int .i64 i)] w
       obtain ⟨hi, hD, hs⟩ := hI
       by_cases hlt : i < k
       ·
        obtain ⟨ai, ci, g1, g2, g3, g4⟩ := hr.row i (by omega)
        obtain ⟨m, hm⟩ : ∃ m, m = (rows.getD i []).length := ⟨_, rfl⟩
        rw [← hm] at g1 g2 g3
        have hra := hr.sl.ao (by omega)
        refine W_seq (W_seq (W_region (L_move rfl rfl (L_move rfl rfl (L_len rfl Try.underlying89 rfl (L_lss rfl rfl rfl (dtrue (by omega)) ?_))))))
        refine RL_then (W_if_true rfl (W_skip' (Nx_then (W_seq (W_block (W_seq (W_region (L_assign rfl rfl (RL_then (W_block ?_))))))))))
        refine W_loop2 (fun (j : Nat) (w : World) => [(0, .slice a k c), (5, .int .i64 i), (6, .int .i64 j)]) (fun (j : Nat) (w : World) => w) (fun (j : Nat) (w : World) => (j ≤ m) ∧ (∀ q, q < j → el rows i q ≤ 1099511627776) ∧ (HS w0 w [])) (fun (j : Nat) (w : World) => m - j) (0) (w) (is := [0, 5, 6]) rfl rfl ?_ ?_
        ·
         exact ⟨Nat.zero_le _, fun _ h => absurd h (Nat.not_lt_zero _), hs⟩
        ·
         clear hs
         intro j w hI
         show W _ _ _ _ [(0, .slice a k c), (5, .int .i64 i), (6, .int .i64 j)] w
         obtain ⟨hj, hE, hs⟩ := hI
         by_cases hlt2 : j < m
         ·
          by_cases hw : 1099511627776 < (rows.getD i []).getD j 0
          ·
           have he : chk rows = 2 := by
            unfold chk
            rw [h1, h2, any_idx (p := fun r : List Int => r.any fun c => decide (1099511627776 < c)).2 ⟨i, by omega, show (fun r : List Int => r.any fun c => decide (1099511627776 < c)) (rows.getD i []) = true from anyI.2 ⟨j, by omega, decide_eq_true hw⟩⟩]
            rfl
           refine W_seq (W_seq (W_region (L_move rfl rfl (L_move rfl rfl (L_move rfl rfl (L_idx1 rfl Try.underlying89 Try.ti93 rfl rfl (natc_k _) (by omega) (by exact hra) ?_))))))
           refine L_load rfl Try.one93 rfl (by exact (hr.sl.old hs Own.nil).get g1) ?_
           refine L_len rfl Try.underlying93 rfl (L_lss rfl rfl rfl (dtrue (by omega)) ?_)
           refine RL_then (W_if_true rfl (W_skip' (Nx_then (W_seq (W_block (W_seq (W_region (L_move rfl rfl (L_move rfl rfl (L_idx1 rfl Try.underlying89 Try.ti93 rfl rfl (natc_k _) (by omega) (by exact hra) ?_))))))))))
           refine L_load rfl Try.one93 rfl (by exact (hr.sl.old hs Own.nil).get g1) ?_
           refine L_move rfl rfl ?_
           refine L_idx1 rfl Try.underlying93 Try.ti2 rfl rfl (natc_k _) (by omega) (by exact g4.ao (by rw [il_length]; omega)) ?_
           refine L_load rfl Try.one2 rfl (by exact (g4.old hs Own.nil).get (il_get (by omega))) ?_
           refine L_gtr rfl rfl rfl (dtrue (by omega)) ?_
           refine RL_then (W_if_true rfl (W_seq (W_region (L_assign rfl rfl (RL_then (W_ret' (Ex_block_ret (Ex_then_ret (Ex_loop_ret (Ex_block_ret (Ex_block_ret (Ex_then_ret ?_))))))))))))
           refine Ex_loop_ret (Ex_block_ret (Ex_then_ret (Ex_done1 rfl rfl ?_)))
           exact ⟨_, rfl, by rw [he], hs⟩
          ·
           refine W_seq (W_seq (W_region (L_move rfl rfl (L_move rfl rfl (L_move rfl rfl (L_idx1 rfl Try.underlying89 Try.ti93 rfl rfl (natc_k _) (by omega) (by exact hra) ?_))))))
           refine L_load rfl Try.one93 rfl (by exact (hr.sl.old hs Own.nil).get g1) ?_
           refine L_len rfl Try.underlying93 rfl (L_lss rfl rfl rfl (dtrue (by omega)) ?_)
           refine RL_then (W_if_true rfl (W_skip' (Nx_then (W_seq (W_block (W_seq (W_region (L_move rfl rfl (L_move rfl rfl (L_idx1 rfl Try.underlying89 Try.ti93 rfl rfl (natc_k _) (by omega) (by exact hra) ?_))))))))))
           refine L_load rfl Try.one93 rfl (by exact (hr.sl.old hs Own.nil).get g1) ?_
           refine L_move rfl rfl ?_
           refine L_idx1 rfl Try.underlying93 Try.ti2 rfl rfl (natc_k _) (by omega) (by exact g4.ao (by rw [il_length]; omega)) ?_
           refine L_load rfl Try.one2 rfl (by exact (g4.old hs Own.nil).get (il_get (by omega))) ?_
           refine L_gtr rfl rfl rfl (dfalse (by omega)) ?_
           refine RL_then (W_if_false rfl (W_skip' (Nx_block (Nx_then (W_region (L_move rfl rfl (L_add rfl rfl rfl (wrp_i64 (by omega)) ?_)))))))
           refine L_assign rfl rfl (RL_nil' ?_)
           refine Nx_loopP (j + 1, w) (is := [0, 5, 6]) (I' := (fun (j : Nat) (w : World) => (j ≤ m) ∧ (∀ q, q < j → el rows i q ≤ 1099511627776) ∧ (HS w0 w [])) (j + 1) (w)) rfl rfl rfl ?_ ?_
           ·
            refine ⟨by omega, fun q hq => ?_, hs⟩
            by_cases hqj : q = j
            ·
             rw [hqj]; simp only [el]; omega
            ·
             exact hE q (by omega)
           ·
            omega
         ·
          refine W_seq (W_seq (W_region (L_move rfl rfl (L_move rfl rfl (L_move rfl rfl (L_idx1 rfl Try.underlying89 Try.ti93 rfl rfl (natc_k _) (by omega) (by exact hra) ?_))))))
          refine L_load rfl Try.one93 rfl (by exact (hr.sl.old hs Own.nil).get g1) ?_
          refine L_len rfl Try.underlying93 rfl (L_lss rfl rfl rfl (dfalse (by omega)) ?_)
          refine RL_then (W_if_false rfl (W_exit' (Ex_then_exit (Ex_loop_exit (Ex_block_hit (Nx_block (Nx_then (W_region (L_move rfl rfl (L_add rfl rfl rfl (wrp_i64 (by omega)) ?_))))))))))
          refine L_assign rfl rfl (RL_nil' ?_)
          refine Nx_loopP (i + 1, w) (is := [0, 5]) (I' := (fun (i : Nat) (w : World) => (i ≤ k) ∧ (∀ q j, q < i → j < wid rows q → el rows q j ≤ 1099511627776) ∧ (HS w0 w [])) (i + 1) (w)) rfl rfl rfl ?_ ?_
          ·
           refine ⟨by omega, fun q j2 hq hj2 => ?_, hs⟩
           by_cases hqi : q = i
           ·
            rw [hqi] at hj2 ⊢; exact hE j2 (by simp only [wid] at hj2; omega)
           ·
            exact hD q j2 (by omega) hj2
          ·
           omega
       ·
        obtain rfl : k = i := by omega
        have he : chk rows = 0 := by
         unfold chk
         rw [h1, h2, any_no fun q hq => anyI_no fun j hj => decide_eq_false (by have := hD q j (by omega) hj; simp only [el] at this; omega)]
         rfl
        refine W_seq (W_seq (W_region (L_move rfl rfl (L_move rfl rfl (L_len rfl Try.underlying89 rfl (L_lss rfl rfl rfl (dfalse (by omega)) ?_))))))
        refine RL_then (W_if_false rfl (W_exit' (Ex_then_exit (Ex_loop_exit (Ex_block_hit (Nx_then (W_seq (W_region (L_assign rfl rfl (RL_then (W_ret' (Ex_done1 rfl rfl ?_))))))))))))
        exact ⟨_, rfl, by rw [he], hs⟩
end Go.Proofs.Ytknpoemkmcdgcaa

namespace Go.Proofs.Ytknpoemkmcdgcaa
open Go Go.Lk Go.Pr
/-! ### Tables in new memory -/
inductive RB (p : Value → List Int → List (Nat × Obj) → Prop) : List Value → List (List Int) → List (Nat × Obj) → Prop
 | nil : RB p [] [] []
 | cons {v : Value} {r : List Int} {M : List (Nat × Obj)} {vs : List Value} {rs : List (List Int)} {Ms : List (Nat × Obj)} (h : p v r M) (t : RB p vs rs Ms) : RB p (v :: vs) (r :: rs) (M ++ Ms)
/-- a row that grew in new memory -/
def pB (w0 : World) (v : Value) (r : List Int) (M : List (Nat × Obj)) : Prop := Bl w0 2 1 v r.length (il r) M
/-- a row whose spare room is marked -/
def p77 (w0 : World) (v : Value) (r : List Int) (M : List (Nat × Obj)) : Prop := ∃ g cap sp, v = .slice (some ⟨g, 0, none⟩) r.length cap ∧ M = [(g, Row 2 (il r ++ .int .i64 77 :: sp))] ∧ w0.heap.size ≤ g ∧ r.length + 1 + sp.length = cap
section
variable {p q : Value → List Int → List (Nat × Obj) → Prop} {vs : List Value} {rs : List (List Int)} {Ms : List (Nat × Obj)} {w0 : World}
theorem p77.bl {v : Value} {r : List Int} {M : List (Nat × Obj)} (h : p77 w0 v r M) : pB w0 v r M := by
 obtain ⟨g, cap, sp, rfl, rfl, hg, hc⟩ := h
 exact .row hg (by simp) (by simp; omega) (by omega)
theorem RB.imp (h : RB p vs rs Ms) (hpq : ∀ v r M, p v r M → q v r M) : RB q vs rs Ms := by
 induction h with
 | nil => exact .nil
 | cons h1 _ ih => exact .cons (hpq _ _ _ h1) ih
theorem RB.snoc (h : RB p vs rs Ms) {v : Value} {r : List Int} {M : List (Nat × Obj)} (hv : p v r M) : RB p (vs ++ [v]) (rs ++ [r]) (Ms ++ M) := by
 induction h with
 | nil => simpa using RB.cons hv .nil
 | cons h1 _ ih => simpa [List.append_assoc] using RB.cons h1 ih
theorem RB.len (h : RB p vs rs Ms) : vs.length = rs.length := by induction h <;> simp [*]
theorem RB.own (h : RB (pB w0) vs rs Ms) : Own w0 Ms := by
 induction h with
 | nil => exact Own.nil
 | cons h1 _ ih => exact (Bl.own h1).app ih
theorem RB.mono {w : World} (h : RB (pB w) vs rs Ms) (hle : w0.heap.size ≤ w.heap.size) : RB (pB w0) vs rs Ms := h.imp fun _ _ _ h1 => Bl.mono h1 hle
theorem p77.mono {w : World} {v : Value} {r : List Int} {M : List (Nat × Obj)} (h : p77 w v r M) (hle : w0.heap.size ≤ w.heap.size) : p77 w0 v r M := by
 obtain ⟨g, cap, sp, h1, h2, h3, h4⟩ := h
 exact ⟨g, cap, sp, h1, h2, Nat.le_trans hle h3, h4⟩
theorem RB.at (h : RB p vs rs Ms) : ∀ i, i < rs.length → ∃ v M Mr, vs[i]? = some v ∧ p v (rs.getD i []) M ∧ Ms.Perm (Mr ++ M) ∧ ∀ v' r' M', p v' r' M' → ∃ Ms', RB p (vs.set i v') (rs.set i r') Ms' ∧ Ms'.Perm (Mr ++ M') := by
 induction h with
 | nil => intro i hi; simp at hi
 | @cons v r M vs rs Ms h1 t ih =>
  intro i hi
  cases i with
  | zero => exact ⟨v, M, Ms, by simp, by simpa using h1, List.perm_append_comm, fun v' r' M' h' => ⟨M' ++ Ms, by simpa using RB.cons h' t, List.perm_append_comm⟩⟩
  | succ i =>
   obtain ⟨v1, M1, Mr, h2, h3, h4, h5⟩ := ih i (by simpa using hi)
   refine ⟨v1, M1, M ++ Mr, by simpa using h2, by simpa using h3, by rw [List.append_assoc]; exact List.Perm.append_left M h4, fun v' r' M' h' => ?_⟩
   obtain ⟨Ms', h6, h7⟩ := h5 v' r' M' h'
   exact ⟨M ++ Ms', by simpa using RB.cons h1 h6, by rw [List.append_assoc]; exact List.Perm.append_left M h7⟩
/-- Read in a world that holds them. -/
theorem RB.row {w : World} {L : List (Nat × Obj)} (h : RB (pB w0) vs rs Ms) (hs : HS w0 w (L ++ Ms)) : ∀ i, i < rs.length → ∃ ai ci, vs[i]? = some (.slice ai (rs.getD i []).length ci) ∧ (rs.getD i []).length ≤ ci ∧ SlC w ai (il (rs.getD i [])) := by
 intro i hi
 obtain ⟨v, M, Mr, h1, h2, h3, _⟩ := h.at i hi
 obtain ⟨a, c, rfl, hac⟩ := Bl.slice h2
 refine ⟨a, c, h1, hac, ?_⟩
 exact Bl.slc (L := L ++ Mr) h2 (hs.mem_perm (by rw [List.append_assoc]; exact List.Perm.append_left L h3))
theorem RB.rowsI {w : World} {L : List (Nat × Obj)} {a : Option Addr} (h : RB (pB w0) vs rs Ms) (hs : HS w0 w (L ++ Ms)) (ha : SlC w a vs) (hl : ∀ i, i < rs.length → (rs.getD i []).length ≤ 17592186043904) : RowsI w a rs vs :=
 ⟨ha, h.len, fun i hi => let ⟨ai, ci, h1, h2, h3⟩ := h.row hs i hi; ⟨ai, ci, h1, h2, hl i hi, h3⟩⟩
end
end Go.Proofs.Ytknpoemkmcdgcaa
