/-
  A part of the proof: what functions that the statement reaches do, or a plain law on what they do. Each theorem holds under its own premises alone.
-/
import Derived.Test.YtihhloeakenfgaaTD1
import Derived.Test.YtihhloeakenfgaaTYU
namespace Go.Proofs.Ytihhloeakenfgaa
open Go Go.Lk
/-- a row of a table in one piece -/
def bval (A n q : Nat) : Value := .slice (slA (some ⟨A, 0, none⟩) (q * n) (q * n + n) 1) n n
theorem slA_in {A n q : Nat} (hn : 0 < n) : slA (some ⟨A, 0, none⟩) (q * n) (q * n + n) 1 = some ((Addr.mk A 0 none).add (q * n)) := by
  unfold slA
  rw [if_neg (by omega), Nat.mul_one]; rfl
theorem blank_ok (m n : Nat) (hmn : m * n ≤ 262144) (hm : m ≤ 1000000) (hn : n ≤ 1000000) (w0 : World) :
    Ret Try.prog 22 [.int .i64 m, .int .i64 n] w0 fun v w' => ∃ A Bk vs, v = .slice (some ⟨Bk, 0, none⟩) m m ∧ HS w0 w' [(A, Row 28 (cl (List.replicate (m * n) (0, 0)))), (Bk, Row 27 vs)] ∧ w0.heap.size ≤ A ∧ w0.heap.size ≤ Bk ∧ vs.length = m ∧ ∀ q, q < m → vs[q]? = some (bval A n q) := by
  refine Ret.start fun w hs => ?_
  have hmn' : (m : Int) * (n : Int) = ((m * n : Nat) : Int) := by simp
  obtain ⟨N, hN⟩ : ∃ N, N = m * n := ⟨_, rfl⟩
  rw [← hN] at hmn hmn'
  have hN0 : (0 : Int) ≤ (m : Int) * (n : Int) ∧ (m : Int) * (n : Int) ≤ 262144 := by rw [hmn']; omega
  refine calls_of_W Try.func22 rfl rfl rfl ?_
  refine W_seq ?_
  refine W_region ?_
  refine L_assign rfl rfl ?_
  refine RL_then ?_
  refine W_seq ?_
  refine W_sg Try.mixed ?_
  replace hs := hs.drewN 1
  refine SG_stage [0, 1, 2, 4] [] [] (fun _ _ _ => False) (g' := 4) (by kernel_rfl) (by kernel_rfl) (fun _ _ _ _ _ h => h) hs ?_
  refine PL_val rfl (fun w => R_move rfl) ?_
  refine PL_val rfl (fun w => R_move rfl) ?_
  first | refine PL_val rfl (fun w => R_mul rfl rfl (wrp_i64 (by omega))) ?_ | refine PL_val rfl (fun w => R_mul rfl rfl rfl) ?_
  refine PL_val rfl (fun w => R_move rfl) ?_
  refine PL_end ?_
  refine HL_tail ?_
  intro w hs
  refine RL_sg ?_
  refine SG_join (g' := 1) (l' := #[true, true, true, true, true, true, true, false]) (fun S => ∀ (A : Nat) (Bk : Nat) (w : World), (HS w0 w [(A, Row 28 (List.replicate N (.complex .f64 0 0))), (Bk, Row 27 (List.replicate m (.slice none 0 0)))]) ∧ (w0.heap.size ≤ A ∧ w0.heap.size ≤ Bk) → S [(0, .int .i64 m), (1, .int .i64 n), (5, .slice (some ⟨A, 0, none⟩) N N), (13, .slice (some ⟨Bk, 0, none⟩) m m)] w) ?_ ?_
  · intro fin
    refine SG_pick2 (i := 3) (l1 := #[true, true, true, true, true, false, false, false]) (j := 5) (l2 := #[true, true, true, false, true, true, false, false]) (by kernel_rfl) (by kernel_rfl) (by kernel_rfl) (by kernel_rfl) ?_ ?_
    · refine L_make1 (l := N) (c := N) rfl hs Try.underlying27 Try.ti28 rfl rfl hmn' hmn' (Nat.le_refl _) (by omega) (by omega) rfl ?_; intro b11 w hb11 hnb11 hs
      refine RL_sg ?_
      refine SG_pick2 (i := 5) (l1 := #[true, true, true, true, true, true, false, false]) (j := 6) (l2 := #[true, true, true, true, true, false, true, false]) (by kernel_rfl) (by kernel_rfl) (by kernel_rfl) (by kernel_rfl) ?_ ?_
      · refine L_make1 (l := m) (c := m) rfl hs Try.underlying39 Try.ti27 rfl rfl rfl rfl (Nat.le_refl _) (by omega) (by omega) rfl ?_; intro b13 w hb13 hnb13 hs
        refine RL_sg ?_
        refine SG_pick1 (i := 6) (l1 := #[true, true, true, true, true, true, true, false]) (by kernel_rfl) (by kernel_rfl) (by kernel_rfl) ?_
        refine L_assign rfl rfl ?_
        refine RL_sg ?_
        refine SG_env (fin b11 b13 w ⟨by first | exact hs | exact hs.mem_perm (List.Perm.swap _ _ _), hb11, hb13⟩) (looks_cons rfl (looks_cons rfl (looks_cons rfl (looks_cons rfl looks_nil))))
      · refine L_assign rfl rfl ?_
        refine RL_sg ?_
        refine SG_pick1 (i := 5) (l1 := #[true, true, true, true, true, true, true, false]) (by kernel_rfl) (by kernel_rfl) (by kernel_rfl) ?_
        refine L_make1 (l := m) (c := m) rfl hs Try.underlying39 Try.ti27 rfl rfl rfl rfl (Nat.le_refl _) (by omega) (by omega) rfl ?_; intro b13 w hb13 hnb13 hs
        refine RL_sg ?_
        refine SG_env (fin b11 b13 w ⟨by first | exact hs | exact hs.mem_perm (List.Perm.swap _ _ _), hb11, hb13⟩) (looks_cons rfl (looks_cons rfl (looks_cons rfl (looks_cons rfl looks_nil))))
    · refine L_make1 (l := m) (c := m) rfl hs Try.underlying39 Try.ti27 rfl rfl rfl rfl (Nat.le_refl _) (by omega) (by omega) rfl ?_; intro b13 w hb13 hnb13 hs
      refine RL_sg ?_
      refine SG_pick1 (i := 3) (l1 := #[true, true, true, true, true, true, false, false]) (by kernel_rfl) (by kernel_rfl) (by kernel_rfl) ?_
      refine L_make1 (l := N) (c := N) rfl hs Try.underlying27 Try.ti28 rfl rfl hmn' hmn' (Nat.le_refl _) (by omega) (by omega) rfl ?_; intro b11 w hb11 hnb11 hs
      refine RL_sg ?_
      refine SG_pick1 (i := 6) (l1 := #[true, true, true, true, true, true, true, false]) (by kernel_rfl) (by kernel_rfl) (by kernel_rfl) ?_
      refine L_assign rfl rfl ?_
      refine RL_sg ?_
      refine SG_env (fin b11 b13 w ⟨by first | exact hs | exact hs.mem_perm (List.Perm.swap _ _ _), hb11, hb13⟩) (looks_cons rfl (looks_cons rfl (looks_cons rfl (looks_cons rfl looks_nil))))
  · clear hs
    intro A Bk w hI
    show SG _ _ _ _ _ _ [(0, .int .i64 m), (1, .int .i64 n), (5, .slice (some ⟨A, 0, none⟩) N N), (13, .slice (some ⟨Bk, 0, none⟩) m m)] w
    obtain ⟨hs, hA, hB⟩ := hI
    refine SG_pick1 (i := 7) (l1 := #[true, true, true, true, true, true, true, true]) (by kernel_rfl) (by kernel_rfl) (by kernel_rfl) ?_
    refine L_assign rfl rfl ?_
    refine RL_sg ?_
    refine SG_end (by kernel_rfl) ?_
    refine Nx_then ?_
    refine W_seq ?_
    refine W_seq ?_
    refine W_region ?_
    refine L_move rfl rfl ?_
    refine L_move rfl rfl ?_
    refine RL_then ?_
    refine W_block ?_
    refine W_loop3 (fun (i : Nat) (vs : List Value) (w : World) => [(1, .int .i64 n), (5, .slice (some ⟨A, 0, none⟩) N N), (6, .slice (some ⟨Bk, 0, none⟩) m m), (14, .int .i64 m), (15, .int .i64 i)]) (fun (i : Nat) (vs : List Value) (w : World) => w) (fun (i : Nat) (vs : List Value) (w : World) => (i ≤ m) ∧ (vs.length = m) ∧ (∀ q, q < i → vs[q]? = some (bval A n q)) ∧ (HS w0 w [(A, Row 28 (List.replicate N (.complex .f64 0 0))), (Bk, Row 27 vs)])) (fun (i : Nat) (vs : List Value) (w : World) => m - i) (0) (List.replicate m (.slice none 0 0)) (w) (is := [1, 5, 6, 14, 15]) rfl rfl ?_ ?_
    · exact ⟨Nat.zero_le _, by simp, fun _ h => absurd h (Nat.not_lt_zero _), hs⟩
    · clear hs
      intro i vs w hI
      show W _ _ _ _ [(1, .int .i64 n), (5, .slice (some ⟨A, 0, none⟩) N N), (6, .slice (some ⟨Bk, 0, none⟩) m m), (14, .int .i64 m), (15, .int .i64 i)] w
      obtain ⟨hi, hvl, hv, hs⟩ := hI
      by_cases hlt : i < m
      · have e1 : (i : Int) * (n : Int) = ((i * n : Nat) : Int) := by simp
        have hle : i * n + n ≤ N := by
          rw [hN]
          have : (i + 1) * n ≤ m * n := Nat.mul_le_mul_right n (by omega)
          rw [Nat.add_mul, Nat.one_mul] at this
          exact this
        obtain ⟨I, hI⟩ : ∃ I, I = i * n := ⟨_, rfl⟩
        rw [← hI] at e1 hle
        have e2 : (i : Int) * (n : Int) + (n : Int) = ((I + n : Nat) : Int) := by omega
        refine W_seq ?_
        refine W_region ?_
        first | refine L_lss rfl rfl rfl (dtrue (by omega)) ?_ | refine L_lss rfl rfl rfl (dfalse (by omega)) ?_ | refine L_lss rfl rfl rfl rfl ?_
        refine RL_then ?_
        refine W_seq ?_
        refine W_if_true rfl ?_
        refine W_skip' ?_
        refine Nx_then ?_
        refine W_seq ?_
        refine W_block ?_
        refine W_seq ?_
        refine W_region ?_
        refine L_move rfl rfl ?_
        refine L_assign rfl rfl ?_
        refine RL_then ?_
        refine W_region ?_
        refine L_move rfl rfl ?_
        refine L_move rfl rfl ?_
        refine L_move rfl rfl ?_
        refine L_move rfl rfl ?_
        refine L_move rfl rfl ?_
        first | refine L_mul rfl rfl rfl (wrp_i64 (by omega)) ?_ | refine L_mul rfl rfl rfl rfl ?_
        refine L_move rfl rfl ?_
        refine L_move rfl rfl ?_
        first | refine L_mul rfl rfl rfl (wrp_i64 (by omega)) ?_ | refine L_mul rfl rfl rfl rfl ?_
        refine L_move rfl rfl ?_
        first | refine L_add rfl rfl rfl (wrp_i64 (by omega)) ?_ | refine L_add rfl rfl rfl rfl ?_
        refine L_move rfl rfl ?_
        refine L_move rfl rfl ?_
        first | refine L_mul rfl rfl rfl (wrp_i64 (by omega)) ?_ | refine L_mul rfl rfl rfl rfl ?_
        refine L_move rfl rfl ?_
        first | refine L_add rfl rfl rfl (wrp_i64 (by omega)) ?_ | refine L_add rfl rfl rfl rfl ?_
        refine RL_val rfl (R_slice111 Try.underlying27 Try.ti28 rfl rfl rfl rfl e1 e2 e2 (by omega)) ?_
        refine L_idx1 rfl Try.underlying39 Try.ti27 rfl rfl (by with_reducible first | exact natc_k _ | exact natc_a1 _ | exact natc_0 | exact natc_1 | exact natc_2 | exact natc_s1 _ (by omega) | exact natc_a2 _ | exact natc_add _ _ | exact natc_mul _ _ | exact natc (by omega)) (by omega) rfl ?_
        refine L_store hs (i := 1) rfl Try.ti27 rfl rfl (by first | rfl | exact add_lit0 _ _ | exact Addr.add_lit ..) (by omega) rfl ?_
        intro w hs
        try dsimp only [List.set_cons_succ, List.set_cons_zero, List.cons_append, List.nil_append] at hs
        refine RL_nil' ?_
        refine Nx_block ?_
        refine Nx_then ?_
        refine W_region ?_
        first | refine L_add rfl rfl rfl (wrp_i64 (by omega)) ?_ | refine L_add rfl rfl rfl rfl ?_
        refine L_move rfl rfl ?_
        refine RL_nil' ?_
        rw [Nat.add_sub_cancel_left] at hs
        refine Nx_loopP (i + 1, vs.set i (bval A n i), w) (is := [1, 5, 6, 14, 15]) (I' := (fun (i : Nat) (vs : List Value) (w : World) => (i ≤ m) ∧ (vs.length = m) ∧ (∀ q, q < i → vs[q]? = some (bval A n q)) ∧ (HS w0 w [(A, Row 28 (List.replicate N (.complex .f64 0 0))), (Bk, Row 27 vs)])) (i + 1) (vs.set i (bval A n i)) (w)) rfl rfl rfl ?_ ?_
        · refine ⟨by omega, by simp [hvl], fun q hq => ?_, by unfold bval; rw [← hI]; exact hs⟩
          by_cases hqi : q = i
          · rw [hqi, List.getElem?_set_self (by omega)]
          · rw [List.getElem?_set_ne (Ne.symm hqi)]
            exact hv q (by omega)
        · omega
      · obtain rfl : m = i := by omega
        refine W_seq ?_
        refine W_region ?_
        first | refine L_lss rfl rfl rfl (dtrue (by omega)) ?_ | refine L_lss rfl rfl rfl (dfalse (by omega)) ?_ | refine L_lss rfl rfl rfl rfl ?_
        refine RL_then ?_
        refine W_seq ?_
        refine W_if_false rfl ?_
        refine W_exit' ?_
        refine Ex_then_exit ?_
        refine Ex_loop_exit ?_
        refine Ex_block_hit ?_
        refine Nx_then ?_
        refine W_seq ?_
        refine W_region ?_
        refine L_move rfl rfl ?_
        refine L_assign rfl rfl ?_
        refine RL_then ?_
        refine W_ret' ?_
        refine Ex_done1 rfl rfl ?_
        exact ⟨_, rfl, A, Bk, vs, rfl, by simpa [cl, hN] using hs, hA, hB, hvl, hv⟩
end Go.Proofs.Ytihhloeakenfgaa
