/-
  A part of the proof: what functions that the statement reaches do, or a plain law on what they do. Each theorem holds under its own premises alone.
-/
import Derived.Test.YtihhloeakenfgaaTD4
namespace Go.Proofs.Ytihhloeakenfgaa
open Go Go.Lk
theorem taken_ok (w0 : World) : Ret Try.prog 29 [.bool false] w0 fun v w' => ∃ c, v = .func (.func 37) #[] #[.pointer (some ⟨c, 0, none⟩)] ∧ HS w0 w' [(c, Row 3 [.int .i64 (-1)])] ∧ w0.heap.size ≤ c := by
  refine Ret.start fun w hs => ?_
  refine calls_of_W Try.func29 rfl rfl rfl ?_
  refine W_seq ?_
  refine W_region ?_
  refine L_assign rfl rfl ?_
  refine RL_then ?_
  refine W_seq ?_
  refine W_region ?_
  refine L_alloc rfl hs Try.ti3 ?_
  intro b3 w hb3 hnb3 hs
  try dsimp only [List.set_cons_succ, List.set_cons_zero, List.cons_append, List.nil_append] at hs
  refine L_store hs (i := 0) rfl Try.ti3 rfl rfl (by first | rfl | exact add_lit0 _ _ | exact Addr.add_lit ..) (by decide) rfl ?_
  intro w hs
  try dsimp only [List.set_cons_succ, List.set_cons_zero, List.cons_append, List.nil_append] at hs
  refine RL_then ?_
  refine W_seq ?_
  refine W_seq ?_
  refine W_region ?_
  refine L_move rfl rfl ?_
  refine RL_then ?_
  refine W_if_false rfl ?_
  refine W_skip' ?_
  refine Nx_then ?_
  refine W_seq ?_
  refine W_region ?_
  refine RL_val rfl (R_makeFunc rfl rfl) ?_
  refine L_assign rfl rfl ?_
  refine RL_then ?_
  refine W_ret' ?_
  refine Ex_done1 rfl rfl ?_
  exact ⟨_, rfl, b3, rfl, hs, hb3⟩
theorem unitc_ok (k : Nat) (n : Nat) (c : Nat) (w0 : World) (hc : w0.heap[c]? = some (Row 3 [.int .i64 (-1)])) (h1 : 1 ≤ n) (h2 : n ≤ 1000000) (h3 : k ≤ 1000000) : Ret Try.prog 37 [.int .i64 k, .int .i64 n, .pointer (some ⟨c, 0, none⟩)] w0 fun v w' => ∃ re im, v = .complex .f64 re im ∧ HS w0 w' [] ∧ UnitR (-(k : Int)) n re im := by
  refine Ret.start fun w hs => ?_
  have hcw : w.heap[c]? = some (Row 3 [.int .i64 (-1)]) := by rw [hs.old (Array.getElem?_eq_some_iff.1 hc).1 (by simp)]; exact hc
  refine calls_of_W Try.func37 rfl rfl rfl ?_
  refine W_seq ?_
  refine W_region ?_
  refine L_assign rfl rfl ?_
  refine RL_then ?_
  refine W_seq ?_
  refine W_region ?_
  refine L_load rfl Try.one3 rfl (by exact Lk.cell_of_row (i := 0) hcw rfl) ?_
  refine L_move rfl rfl ?_
  first | refine L_mul rfl rfl rfl (wrp_i64 (by omega)) ?_ | refine L_mul rfl rfl rfl rfl ?_
  refine L_move rfl rfl ?_
  rw [show (-1 : Int) * (k : Int) = -(k : Int) by omega]
  refine L_call rfl Try.fun26 rfl (unit_ok (-(k : Int)) n (by omega) (by omega) (by omega) w) ?_
  rintro _ w1 ⟨re, im, rfl, hs', hU⟩
  refine L_assign rfl rfl ?_
  refine RL_then ?_
  refine W_ret' ?_
  refine Ex_done1 rfl rfl ?_
  exact ⟨_, rfl, _, _, rfl, hs.nil hs', hU⟩
structure SlowR (zs os : CL) (n : Nat) : Prop where
  ex : ∃ U : CL, U.length = n ∧ (∀ k, k < n → UnitR (-(k : Int)) n (U.getD k (0, 0)).1 (U.getD k (0, 0)).2) ∧ ∀ j, j < n → ∃ ts : CL, ts.length = n ∧ (∀ k, k < n → cn (ts.getD k (0, 0)).1 = (mulF (zs.getD k (0, 0)) (U.getD (j * k % n) (0, 0))).1 ∧ cn (ts.getD k (0, 0)).2 = (mulF (zs.getD k (0, 0)) (U.getD (j * k % n) (0, 0))).2) ∧ cn (os.getD j (0, 0)).1 = cn (sumN ts (n - 1)).1 ∧ cn (os.getD j (0, 0)).2 = cn (sumN ts (n - 1)).2
set_option maxHeartbeats 1000000 in
theorem slow_ok (a : Option Addr) (n c : Nat) (zs : CL) (w0 : World) (hz : SlC w0 a (cl zs)) (hn : zs.length = n) (h2 : n ≤ 1024) :
    Ret Try.prog 23 [.slice a n c, .bool false] w0 fun v w' => ∃ go os N, v = .tuple #[.slice (some ⟨go, 0, none⟩) n n, .int .i64 0] ∧ HS w0 w' ((go, Row 28 (cl os)) :: N) ∧ w0.heap.size ≤ go ∧ Own w0 N ∧ os.length = n ∧ SlowR zs os n := by
  refine Ret.start fun w hs => ?_
  refine calls_of_W Try.func23 rfl rfl rfl ?_
  refine W_seq ?_
  refine W_region ?_
  refine L_assign rfl rfl ?_
  refine L_assign rfl rfl ?_
  refine RL_then ?_
  refine W_seq ?_
  refine W_region ?_
  refine L_move rfl rfl ?_
  refine L_len rfl Try.underlying27 rfl ?_
  refine L_assign rfl rfl ?_
  refine RL_then ?_
  refine W_seq ?_
  refine W_seq ?_
  refine W_region ?_
  refine L_move rfl rfl ?_
  first | refine L_gtr rfl rfl rfl (dtrue (by omega)) ?_ | refine L_gtr rfl rfl rfl (dfalse (by omega)) ?_ | refine L_gtr rfl rfl rfl rfl ?_
  refine RL_then ?_
  refine W_if_false rfl ?_
  refine W_skip' ?_
  refine Nx_then ?_
  refine W_seq ?_
  refine W_region ?_
  refine L_move rfl rfl ?_
  refine L_call rfl Try.fun29 rfl (taken_ok w) ?_
  rintro _ w1 ⟨f, rfl, hs', hf⟩
  have hf0 := Nat.le_trans hs.size hf
  replace hs := hs.call hs' (Own.cons hf Own.nil)
  clear hs'
  replace hs : HS w0 w1 [(f, Row 3 [.int .i64 (-1)])] := hs
  refine L_assign rfl rfl ?_
  refine RL_then ?_
  refine W_seq ?_
  refine W_region ?_
  refine L_move rfl rfl ?_
  refine L_make1 (l := n) (c := n) rfl hs Try.underlying27 Try.ti28 rfl rfl rfl rfl (Nat.le_refl _) (by omega) (by omega) rfl ?_
  intro u w hu hnu hs
  replace hs : HS w0 w [(f, Row 3 [.int .i64 (-1)]), (u, Row 28 (cl (List.replicate n (0, 0))))] := by simpa [cl] using hs
  refine L_assign rfl rfl ?_
  refine RL_then ?_
  refine W_seq ?_
  refine W_seq ?_
  refine W_region ?_
  refine L_move rfl rfl ?_
  refine L_len rfl Try.underlying27 rfl ?_
  refine L_move rfl rfl ?_
  refine RL_then ?_
  refine W_block ?_
  refine W_loop3 (fun (k : Nat) (U : CL) (w : World) => [(0, .slice a n c), (1, .bool false), (6, .int .i64 n), (7, .func (.func 37) #[] #[.pointer (some ⟨f, 0, none⟩)]), (8, .slice (some ⟨u, 0, none⟩) n n), (24, .int .i64 n), (25, .int .i64 k)]) (fun (k : Nat) (U : CL) (w : World) => w) (fun (k : Nat) (U : CL) (w : World) => (k ≤ n) ∧ (U.length = n) ∧ (∀ q, q < k → UnitR (-(q : Int)) n (U.getD q (0, 0)).1 (U.getD q (0, 0)).2) ∧ (HS w0 w [(f, Row 3 [.int .i64 (-1)]), (u, Row 28 (cl U))])) (fun (k : Nat) (U : CL) (w : World) => n - k) (0) (List.replicate n (0, 0)) (w) (is := [0, 1, 6, 7, 8, 24, 25]) rfl rfl ?_ ?_
  · exact ⟨Nat.zero_le _, by simp, fun _ h => absurd h (Nat.not_lt_zero _), hs⟩
  · clear hs
    intro k U w hI
    show W _ _ _ _ [(0, .slice a n c), (1, .bool false), (6, .int .i64 n), (7, .func (.func 37) #[] #[.pointer (some ⟨f, 0, none⟩)]), (8, .slice (some ⟨u, 0, none⟩) n n), (24, .int .i64 n), (25, .int .i64 k)] w
    obtain ⟨hk, hUl, hU, hs⟩ := hI
    by_cases hlt : k < n
    · refine W_seq ?_
      refine W_region ?_
      first | refine L_lss rfl rfl rfl (dtrue (by omega)) ?_ | refine L_lss rfl rfl rfl (dfalse (by omega)) ?_ | refine L_lss rfl rfl rfl rfl ?_
      refine RL_then ?_
      refine W_seq ?_
      refine W_if_true rfl ?_
      refine W_skip' ?_
      refine Nx_then ?_
      refine W_seq ?_
      refine W_block ?_
      refine W_seq ?_
      refine W_region ?_
      refine L_move rfl rfl ?_
      refine L_assign rfl rfl ?_
      refine RL_then ?_
      refine W_region ?_
      refine L_move rfl rfl ?_
      refine L_move rfl rfl ?_
      refine L_move rfl rfl ?_
      refine L_move rfl rfl ?_
      refine L_move rfl rfl ?_
      refine L_callV rfl Try.fun37 rfl rfl (unitc_ok k n f w (hs.get (i := 0) rfl) (by omega) (by omega) (by omega)) ?_
      rintro _ w2 ⟨re, im, rfl, hs', hUk⟩
      replace hs := hs.nil hs'
      clear hs'
      refine L_idx1 rfl Try.underlying27 Try.ti28 rfl rfl (by with_reducible first | exact natc_k _ | exact natc_a1 _ | exact natc_0 | exact natc_1 | exact natc_2 | exact natc_s1 _ (by omega) | exact natc_a2 _ | exact natc_add _ _ | exact natc_mul _ _ | exact natc (by omega)) (by omega) rfl ?_
      refine L_store hs (i := 1) rfl Try.ti28 rfl rfl (by first | rfl | exact add_lit0 _ _ | exact Addr.add_lit ..) (by simp; omega) rfl ?_
      intro w hs
      try dsimp only [List.set_cons_succ, List.set_cons_zero, List.cons_append, List.nil_append] at hs
      refine RL_nil' ?_
      refine Nx_block ?_
      refine Nx_then ?_
      refine W_region ?_
      first | refine L_add rfl rfl rfl (wrp_i64 (by omega)) ?_ | refine L_add rfl rfl rfl rfl ?_
      refine L_move rfl rfl ?_
      refine RL_nil' ?_
      rw [cl_set1] at hs
      refine Nx_loopP (k + 1, U.set k (re, im), _) (is := [0, 1, 6, 7, 8, 24, 25]) (I' := (fun (k : Nat) (U : CL) (w : World) => (k ≤ n) ∧ (U.length = n) ∧ (∀ q, q < k → UnitR (-(q : Int)) n (U.getD q (0, 0)).1 (U.getD q (0, 0)).2) ∧ (HS w0 w [(f, Row 3 [.int .i64 (-1)]), (u, Row 28 (cl U))])) (k + 1) (U.set k (re, im)) (_)) rfl rfl rfl ?_ ?_
      · refine ⟨by omega, by simp [hUl], fun q hq => ?_, hs⟩
        rw [czset (by omega)]
        by_cases hqk : q = k
        · rw [if_pos hqk, hqk]; exact hUk
        · rw [if_neg hqk]; exact hU q (by omega)
      · omega
    · obtain rfl : n = k := by omega
      refine W_seq ?_
      refine W_region ?_
      first | refine L_lss rfl rfl rfl (dtrue (by omega)) ?_ | refine L_lss rfl rfl rfl (dfalse (by omega)) ?_ | refine L_lss rfl rfl rfl rfl ?_
      refine RL_then ?_
      refine W_seq ?_
      refine W_if_false rfl ?_
      refine W_exit' ?_
      refine Ex_then_exit ?_
      refine Ex_loop_exit ?_
      refine Ex_block_hit ?_
      refine Nx_then ?_
      refine W_seq ?_
      refine W_sg Try.mixed ?_
      replace hs := hs.drewN 1
      refine SG_stage [0, 2] [] [] (fun _ _ _ => False) (g' := 4) (by kernel_rfl) (by kernel_rfl) (fun _ _ _ _ _ h => h) hs ?_
      refine PL_val rfl (fun w => R_move rfl) ?_
      refine PL_val rfl (fun w => R_move rfl) ?_
      refine PL_end ?_
      refine HL_tail ?_
      intro w hs
      refine RL_sg ?_
      refine SG_join (g' := 1) (l' := #[true, true, true, true, true, false]) (fun S => ∀ (go : Nat) (gt : Nat) (w : World), (HS w0 w [(f, Row 3 [.int .i64 (-1)]), (u, Row 28 (cl U)), (go, Row 28 (List.replicate n (.complex .f64 0 0))), (gt, Row 28 (List.replicate n (.complex .f64 0 0)))]) ∧ (w0.heap.size ≤ go ∧ w0.heap.size ≤ gt) → S [(0, .slice a n c), (1, .bool false), (6, .int .i64 n), (8, .slice (some ⟨u, 0, none⟩) n n), (10, .slice (some ⟨go, 0, none⟩) n n), (39, .slice (some ⟨gt, 0, none⟩) n n)] w) ?_ ?_
      · intro fin
        refine SG_pick2 (i := 1) (l1 := #[true, true, true, false, false, false]) (j := 3) (l2 := #[true, false, true, true, false, false]) (by kernel_rfl) (by kernel_rfl) (by kernel_rfl) (by kernel_rfl) ?_ ?_
        · refine L_make1 (l := n) (c := n) rfl hs Try.underlying27 Try.ti28 rfl rfl rfl rfl (Nat.le_refl _) (by omega) (by omega) rfl ?_; intro b37 w hb37 hnb37 hs
          refine RL_sg ?_
          refine SG_pick2 (i := 3) (l1 := #[true, true, true, true, false, false]) (j := 4) (l2 := #[true, true, true, false, true, false]) (by kernel_rfl) (by kernel_rfl) (by kernel_rfl) (by kernel_rfl) ?_ ?_
          · refine L_make1 (l := n) (c := n) rfl hs Try.underlying27 Try.ti28 rfl rfl rfl rfl (Nat.le_refl _) (by omega) (by omega) rfl ?_; intro b39 w hb39 hnb39 hs
            refine RL_sg ?_
            refine SG_pick1 (i := 4) (l1 := #[true, true, true, true, true, false]) (by kernel_rfl) (by kernel_rfl) (by kernel_rfl) ?_
            refine L_assign rfl rfl ?_
            refine RL_sg ?_
            refine SG_env (fin b37 b39 w ⟨by first | exact hs | exact hs.mem_perm (List.Perm.cons _ (List.Perm.cons _ (List.Perm.swap _ _ _))), hb37, hb39⟩) (looks_cons rfl (looks_cons rfl (looks_cons rfl (looks_cons rfl (looks_cons rfl (looks_cons rfl looks_nil))))))
          · refine L_assign rfl rfl ?_
            refine RL_sg ?_
            refine SG_pick1 (i := 3) (l1 := #[true, true, true, true, true, false]) (by kernel_rfl) (by kernel_rfl) (by kernel_rfl) ?_
            refine L_make1 (l := n) (c := n) rfl hs Try.underlying27 Try.ti28 rfl rfl rfl rfl (Nat.le_refl _) (by omega) (by omega) rfl ?_; intro b39 w hb39 hnb39 hs
            refine RL_sg ?_
            refine SG_env (fin b37 b39 w ⟨by first | exact hs | exact hs.mem_perm (List.Perm.cons _ (List.Perm.cons _ (List.Perm.swap _ _ _))), hb37, hb39⟩) (looks_cons rfl (looks_cons rfl (looks_cons rfl (looks_cons rfl (looks_cons rfl (looks_cons rfl looks_nil))))))
        · refine L_make1 (l := n) (c := n) rfl hs Try.underlying27 Try.ti28 rfl rfl rfl rfl (Nat.le_refl _) (by omega) (by omega) rfl ?_; intro b39 w hb39 hnb39 hs
          refine RL_sg ?_
          refine SG_pick1 (i := 1) (l1 := #[true, true, true, true, false, false]) (by kernel_rfl) (by kernel_rfl) (by kernel_rfl) ?_
          refine L_make1 (l := n) (c := n) rfl hs Try.underlying27 Try.ti28 rfl rfl rfl rfl (Nat.le_refl _) (by omega) (by omega) rfl ?_; intro b37 w hb37 hnb37 hs
          refine RL_sg ?_
          refine SG_pick1 (i := 4) (l1 := #[true, true, true, true, true, false]) (by kernel_rfl) (by kernel_rfl) (by kernel_rfl) ?_
          refine L_assign rfl rfl ?_
          refine RL_sg ?_
          refine SG_env (fin b37 b39 w ⟨by first | exact hs | exact hs.mem_perm (List.Perm.cons _ (List.Perm.cons _ (List.Perm.swap _ _ _))), hb37, hb39⟩) (looks_cons rfl (looks_cons rfl (looks_cons rfl (looks_cons rfl (looks_cons rfl (looks_cons rfl looks_nil))))))
      · clear hs
        intro go gt w hI
        show SG _ _ _ _ _ _ [(0, .slice a n c), (1, .bool false), (6, .int .i64 n), (8, .slice (some ⟨u, 0, none⟩) n n), (10, .slice (some ⟨go, 0, none⟩) n n), (39, .slice (some ⟨gt, 0, none⟩) n n)] w
        obtain ⟨hs, hgo, hgt⟩ := hI
        replace hs : HS w0 w [(f, Row 3 [.int .i64 (-1)]), (u, Row 28 (cl U)), (go, Row 28 (cl (List.replicate n (0, 0)))), (gt, Row 28 (cl (List.replicate n (0, 0))))] := by simpa [cl] using hs
        have hO : ∀ {o1 o2 o3 o4 : Obj}, Own w0 [(f, o1), (u, o2), (go, o3), (gt, o4)] := Own.cons hf0 (Own.cons hu (Own.cons hgo (Own.cons hgt Own.nil)))
        refine SG_pick1 (i := 5) (l1 := #[true, true, true, true, true, true]) (by kernel_rfl) (by kernel_rfl) (by kernel_rfl) ?_
        refine L_assign rfl rfl ?_
        refine RL_sg ?_
        refine SG_end (by kernel_rfl) ?_
        refine Nx_then ?_
        refine W_seq ?_
        refine W_seq ?_
        refine W_region ?_
        refine L_move rfl rfl ?_
        refine L_len rfl Try.underlying27 rfl ?_
        refine L_move rfl rfl ?_
        refine RL_then ?_
        refine W_block ?_
        refine W_loop4 (fun (j : Nat) (os : CL) (us : CL) (w : World) => [(0, .slice a n c), (1, .bool false), (6, .int .i64 n), (8, .slice (some ⟨u, 0, none⟩) n n), (10, .slice (some ⟨go, 0, none⟩) n n), (11, .slice (some ⟨gt, 0, none⟩) n n), (41, .int .i64 n), (42, .int .i64 j)]) (fun (j : Nat) (os : CL) (us : CL) (w : World) => w) (fun (j : Nat) (os : CL) (us : CL) (w : World) => (j ≤ n) ∧ (os.length = n ∧ us.length = n) ∧ (∀ q, q < j → ∃ ts : CL, ts.length = n ∧ (∀ k, k < n → cn (ts.getD k (0, 0)).1 = (mulF (zs.getD k (0, 0)) (U.getD (q * k % n) (0, 0))).1 ∧ cn (ts.getD k (0, 0)).2 = (mulF (zs.getD k (0, 0)) (U.getD (q * k % n) (0, 0))).2) ∧ cn (os.getD q (0, 0)).1 = cn (sumN ts (n - 1)).1 ∧ cn (os.getD q (0, 0)).2 = cn (sumN ts (n - 1)).2) ∧ (HS w0 w [(f, Row 3 [.int .i64 (-1)]), (u, Row 28 (cl U)), (go, Row 28 (cl os)), (gt, Row 28 (cl us))])) (fun (j : Nat) (os : CL) (us : CL) (w : World) => n - j) (0) (List.replicate n (0, 0)) (List.replicate n (0, 0)) (w) (is := [0, 1, 6, 8, 10, 11, 41, 42]) rfl rfl ?_ ?_
        · exact ⟨Nat.zero_le _, ⟨by simp, by simp⟩, fun _ h => absurd h (Nat.not_lt_zero _), hs⟩
        · clear hs
          intro j os us w hI
          show W _ _ _ _ [(0, .slice a n c), (1, .bool false), (6, .int .i64 n), (8, .slice (some ⟨u, 0, none⟩) n n), (10, .slice (some ⟨go, 0, none⟩) n n), (11, .slice (some ⟨gt, 0, none⟩) n n), (41, .int .i64 n), (42, .int .i64 j)] w
          obtain ⟨hj, ⟨hol, husl⟩, hS, hs⟩ := hI
          by_cases hlt : j < n
          · refine W_seq ?_
            refine W_region ?_
            first | refine L_lss rfl rfl rfl (dtrue (by omega)) ?_ | refine L_lss rfl rfl rfl (dfalse (by omega)) ?_ | refine L_lss rfl rfl rfl rfl ?_
            refine RL_then ?_
            refine W_seq ?_
            refine W_if_true rfl ?_
            refine W_skip' ?_
            refine Nx_then ?_
            refine W_seq ?_
            refine W_block ?_
            refine W_seq ?_
            refine W_region ?_
            refine L_move rfl rfl ?_
            refine L_assign rfl rfl ?_
            refine RL_then ?_
            refine W_seq ?_
            refine W_seq ?_
            refine W_region ?_
            refine L_move rfl rfl ?_
            refine L_len rfl Try.underlying27 rfl ?_
            refine L_move rfl rfl ?_
            refine RL_then ?_
            refine W_block ?_
            refine W_loop3 (fun (k : Nat) (ts : CL) (w : World) => [(0, .slice a n c), (1, .bool false), (6, .int .i64 n), (8, .slice (some ⟨u, 0, none⟩) n n), (10, .slice (some ⟨go, 0, none⟩) n n), (11, .slice (some ⟨gt, 0, none⟩) n n), (12, .int .i64 j), (41, .int .i64 n), (42, .int .i64 j), (45, .slice a n c), (46, .int .i64 n), (47, .int .i64 k)]) (fun (k : Nat) (ts : CL) (w : World) => w) (fun (k : Nat) (ts : CL) (w : World) => (k ≤ n) ∧ (ts.length = n) ∧ (∀ q, q < k → cn (ts.getD q (0, 0)).1 = (mulF (zs.getD q (0, 0)) (U.getD (j * q % n) (0, 0))).1 ∧ cn (ts.getD q (0, 0)).2 = (mulF (zs.getD q (0, 0)) (U.getD (j * q % n) (0, 0))).2) ∧ (HS w0 w [(f, Row 3 [.int .i64 (-1)]), (u, Row 28 (cl U)), (go, Row 28 (cl os)), (gt, Row 28 (cl ts))])) (fun (k : Nat) (ts : CL) (w : World) => n - k) (0) (us) (w) (is := [0, 1, 6, 8, 10, 11, 12, 41, 42, 45, 46, 47]) rfl rfl ?_ ?_
            · exact ⟨Nat.zero_le _, husl, fun _ h => absurd h (Nat.not_lt_zero _), hs⟩
            · clear hs
              intro k ts w hI
              show W _ _ _ _ [(0, .slice a n c), (1, .bool false), (6, .int .i64 n), (8, .slice (some ⟨u, 0, none⟩) n n), (10, .slice (some ⟨go, 0, none⟩) n n), (11, .slice (some ⟨gt, 0, none⟩) n n), (12, .int .i64 j), (41, .int .i64 n), (42, .int .i64 j), (45, .slice a n c), (46, .int .i64 n), (47, .int .i64 k)] w
              obtain ⟨hk, htl, hT, hs⟩ := hI
              by_cases hlt2 : k < n
              · have ha := hz.ao (by rw [cl_length]; omega)
                have hjk : (j : Int) * (k : Int) = ((j * k : Nat) : Int) := by simp
                have hjk2 : j * k ≤ 1024 * 1024 := Nat.mul_le_mul (by omega) (by omega)
                have hmod := Nat.mod_lt (j * k) (show 0 < n by omega)
                obtain ⟨J, hJ⟩ : ∃ J, J = j * k := ⟨_, rfl⟩
                rw [← hJ] at hjk hjk2 hmod
                have hrem : Int.tmod ((j : Int) * (k : Int)) (n : Int) = ((J % n : Nat) : Int) := by rw [hjk]; rfl
                obtain ⟨r, hr⟩ : ∃ r, r = J % n := ⟨_, rfl⟩
                rw [← hr] at hmod hrem
                refine W_seq ?_
                refine W_region ?_
                first | refine L_lss rfl rfl rfl (dtrue (by omega)) ?_ | refine L_lss rfl rfl rfl (dfalse (by omega)) ?_ | refine L_lss rfl rfl rfl rfl ?_
                refine RL_then ?_
                refine W_seq ?_
                refine W_if_true rfl ?_
                refine W_skip' ?_
                refine Nx_then ?_
                refine W_seq ?_
                refine W_block ?_
                refine W_seq ?_
                refine W_region ?_
                refine L_move rfl rfl ?_
                refine L_idx1 rfl Try.underlying27 Try.ti28 rfl rfl (by with_reducible first | exact natc_k _ | exact natc_a1 _ | exact natc_0 | exact natc_1 | exact natc_2 | exact natc_s1 _ (by omega) | exact natc_a2 _ | exact natc_add _ _ | exact natc_mul _ _ | exact natc (by omega)) (by omega) ha ?_
                refine L_load rfl Try.one28 rfl (by exact (hz.old hs hO).get (cl_get (by omega))) ?_
                refine L_assign rfl rfl ?_
                refine L_assign rfl rfl ?_
                refine RL_then ?_
                refine W_region ?_
                refine L_move rfl rfl ?_
                refine L_move rfl rfl ?_
                refine L_move rfl rfl ?_
                refine L_move rfl rfl ?_
                refine L_move rfl rfl ?_
                refine L_move rfl rfl ?_
                first | refine L_mul rfl rfl rfl (wrp_i64 (by omega)) ?_ | refine L_mul rfl rfl rfl rfl ?_
                refine L_move rfl rfl ?_
                refine L_rem rfl rfl rfl (by omega) ?_
                refine L_idx1 rfl Try.underlying27 Try.ti28 rfl rfl hrem (by omega) rfl ?_
                refine L_load rfl Try.one28 rfl (by exact hs.cellA (i := 1) rfl (cl_get (by omega))) ?_
                refine L_call rfl Try.fun18 rfl (mul_ok _ _ _ _ w) ?_
                rintro _ w1 ⟨re, im, rfl, hs', hre, him⟩
                replace hs := hs.nil hs'
                clear hs'
                refine L_idx1 rfl Try.underlying27 Try.ti28 rfl rfl (by with_reducible first | exact natc_k _ | exact natc_a1 _ | exact natc_0 | exact natc_1 | exact natc_2 | exact natc_s1 _ (by omega) | exact natc_a2 _ | exact natc_add _ _ | exact natc_mul _ _ | exact natc (by omega)) (by omega) rfl ?_
                refine L_store hs (i := 3) rfl Try.ti28 rfl rfl (by first | rfl | exact add_lit0 _ _ | exact Addr.add_lit ..) (by simp; omega) rfl ?_
                intro w hs
                try dsimp only [List.set_cons_succ, List.set_cons_zero, List.cons_append, List.nil_append] at hs
                refine RL_nil' ?_
                refine Nx_block ?_
                refine Nx_then ?_
                refine W_region ?_
                first | refine L_add rfl rfl rfl (wrp_i64 (by omega)) ?_ | refine L_add rfl rfl rfl rfl ?_
                refine L_move rfl rfl ?_
                refine RL_nil' ?_
                rw [cl_set1] at hs
                refine Nx_loopP (k + 1, ts.set k (re, im), _) (is := [0, 1, 6, 8, 10, 11, 12, 41, 42, 45, 46, 47]) (I' := (fun (k : Nat) (ts : CL) (w : World) => (k ≤ n) ∧ (ts.length = n) ∧ (∀ q, q < k → cn (ts.getD q (0, 0)).1 = (mulF (zs.getD q (0, 0)) (U.getD (j * q % n) (0, 0))).1 ∧ cn (ts.getD q (0, 0)).2 = (mulF (zs.getD q (0, 0)) (U.getD (j * q % n) (0, 0))).2) ∧ (HS w0 w [(f, Row 3 [.int .i64 (-1)]), (u, Row 28 (cl U)), (go, Row 28 (cl os)), (gt, Row 28 (cl ts))])) (k + 1) (ts.set k (re, im)) (_)) rfl rfl rfl ?_ ?_
                · refine ⟨by omega, by simp [htl], fun q hq => ?_, hs⟩
                  rw [czset (by omega)]
                  by_cases hqk : q = k
                  · subst hqk
                    rw [if_pos rfl, ← hJ, ← hr]
                    exact ⟨hre, him⟩
                  · rw [if_neg hqk]
                    exact hT q (by omega)
                · omega
              · obtain rfl : n = k := by omega
                refine W_seq ?_
                refine W_region ?_
                first | refine L_lss rfl rfl rfl (dtrue (by omega)) ?_ | refine L_lss rfl rfl rfl (dfalse (by omega)) ?_ | refine L_lss rfl rfl rfl rfl ?_
                refine RL_then ?_
                refine W_seq ?_
                refine W_if_false rfl ?_
                refine W_exit' ?_
                refine Ex_then_exit ?_
                refine Ex_loop_exit ?_
                refine Ex_block_hit ?_
                refine Nx_then ?_
                refine W_region ?_
                refine L_move rfl rfl ?_
                refine L_move rfl rfl ?_
                refine L_move rfl rfl ?_
                refine L_call rfl Try.fun19 rfl (sum_ok (some ⟨gt, 0, none⟩) n n ts w (SlC.of_row (sp := []) (by rw [List.append_nil]; exact hs.get (i := 3) rfl)) htl (by omega) (Nat.le_refl _) (by omega)) ?_
                rintro _ w1 ⟨re, im, rfl, hs', hre, him⟩
                replace hs := hs.nil hs'
                clear hs'
                refine L_idx1 rfl Try.underlying27 Try.ti28 rfl rfl (by with_reducible first | exact natc_k _ | exact natc_a1 _ | exact natc_0 | exact natc_1 | exact natc_2 | exact natc_s1 _ (by omega) | exact natc_a2 _ | exact natc_add _ _ | exact natc_mul _ _ | exact natc (by omega)) (by omega) rfl ?_
                refine L_store hs (i := 2) rfl Try.ti28 rfl rfl (by first | rfl | exact add_lit0 _ _ | exact Addr.add_lit ..) (by simp; omega) rfl ?_
                intro w hs
                try dsimp only [List.set_cons_succ, List.set_cons_zero, List.cons_append, List.nil_append] at hs
                refine RL_nil' ?_
                refine Nx_block ?_
                refine Nx_then ?_
                refine W_region ?_
                first | refine L_add rfl rfl rfl (wrp_i64 (by omega)) ?_ | refine L_add rfl rfl rfl rfl ?_
                refine L_move rfl rfl ?_
                refine RL_nil' ?_
                rw [cl_set1] at hs
                refine Nx_loopP (j + 1, os.set j (re, im), ts, _) (is := [0, 1, 6, 8, 10, 11, 41, 42]) (I' := (fun (j : Nat) (os : CL) (us : CL) (w : World) => (j ≤ n) ∧ (os.length = n ∧ us.length = n) ∧ (∀ q, q < j → ∃ ts : CL, ts.length = n ∧ (∀ k, k < n → cn (ts.getD k (0, 0)).1 = (mulF (zs.getD k (0, 0)) (U.getD (q * k % n) (0, 0))).1 ∧ cn (ts.getD k (0, 0)).2 = (mulF (zs.getD k (0, 0)) (U.getD (q * k % n) (0, 0))).2) ∧ cn (os.getD q (0, 0)).1 = cn (sumN ts (n - 1)).1 ∧ cn (os.getD q (0, 0)).2 = cn (sumN ts (n - 1)).2) ∧ (HS w0 w [(f, Row 3 [.int .i64 (-1)]), (u, Row 28 (cl U)), (go, Row 28 (cl os)), (gt, Row 28 (cl us))])) (j + 1) (os.set j (re, im)) (ts) (_)) rfl rfl rfl ?_ ?_
                · refine ⟨by omega, ⟨by simp [hol], htl⟩, fun q hq => ?_, hs⟩
                  rw [czset (by omega)]
                  by_cases hqj : q = j
                  · subst hqj
                    rw [if_pos rfl]
                    exact ⟨ts, htl, hT, hre, him⟩
                  · rw [if_neg hqj]
                    exact hS q (by omega)
                · omega
          · obtain rfl : n = j := by omega
            refine W_seq ?_
            refine W_region ?_
            first | refine L_lss rfl rfl rfl (dtrue (by omega)) ?_ | refine L_lss rfl rfl rfl (dfalse (by omega)) ?_ | refine L_lss rfl rfl rfl rfl ?_
            refine RL_then ?_
            refine W_seq ?_
            refine W_if_false rfl ?_
            refine W_exit' ?_
            refine Ex_then_exit ?_
            refine Ex_loop_exit ?_
            refine Ex_block_hit ?_
            refine Nx_then ?_
            refine W_seq ?_
            refine W_seq ?_
            refine W_region ?_
            refine L_move rfl rfl ?_
            refine RL_then ?_
            refine W_if_false rfl ?_
            refine W_skip' ?_
            refine Nx_then ?_
            refine W_seq ?_
            refine W_region ?_
            refine L_move rfl rfl ?_
            refine L_assign rfl rfl ?_
            refine L_assign rfl rfl ?_
            refine RL_then ?_
            refine W_ret' ?_
            refine Ex_done2 rfl rfl rfl ?_
            exact ⟨_, rfl, go, os, [(f, Row 3 [.int .i64 (-1)]), (u, Row 28 (cl U)), (gt, Row 28 (cl us))], rfl, hs.mem_perm (perm_by fun c => by simp only [List.map_append, List.map_cons, List.map_nil, List.sum_append, List.sum_cons, List.sum_nil] <;> omega), hgo, Own.cons hf0 (Own.cons hu (Own.cons hgt Own.nil)), hol, ⟨U, hUl, hU, hS⟩⟩
end Go.Proofs.Ytihhloeakenfgaa
