/-
  A part of the proof: what functions that the statement reaches do, or a plain law on what they do. Each theorem holds under its own premises alone.
-/
import Derived.Test.YtknpoemkmcdgcaaTNC
namespace Go.Proofs.Ytknpoemkmcdgcaa
open Go Go.Lk
theorem tindex_ok (a : Option Addr) (k c : Nat) (ts : List Tk) (w0 : World) (hx : SlC w0 a (tcs ts)) (hk : ts.length = k) (hk2 : k ≤ 1000000) :
    Ret Try.prog 60 [.slice a k c, .func (.func 41) #[] #[]] w0 fun v w' => ∃ j, v = .int .i64 j ∧ HS w0 w' [] ∧ Found (fun i => (ts.getD i tk0).kind ≠ 1) k j := by
  refine Ret.start fun w hs => ?_
  refine calls_of_W Try.func60 rfl rfl rfl ?_
  refine W_seq ?_
  refine W_region ?_
  refine L_assign rfl rfl ?_
  refine RL_then ?_
  refine W_seq ?_
  refine W_seq ?_
  refine W_region ?_
  refine L_move rfl rfl ?_
  refine L_len rfl Try.underlying38 rfl ?_
  refine L_move rfl rfl ?_
  refine RL_then ?_
  refine W_block ?_
  refine W_loop2 (fun (i : Nat) (w : World) => [(0, .slice a k c), (1, .func (.func 41) #[] #[]), (7, .int .i64 k), (8, .int .i64 i)]) (fun (i : Nat) (w : World) => w) (fun (i : Nat) (w : World) => (i ≤ k) ∧ (∀ q, q < i → (ts.getD q tk0).kind = 1) ∧ (HS w0 w [])) (fun (i : Nat) (w : World) => k - i) (0) (w) (is := [0, 1, 7, 8]) rfl rfl ?_ ?_
  · exact ⟨Nat.zero_le _, fun _ h => absurd h (Nat.not_lt_zero _), hs⟩
  · clear hs
    intro i w hI
    show W _ _ _ _ [(0, .slice a k c), (1, .func (.func 41) #[] #[]), (7, .int .i64 k), (8, .int .i64 i)] w
    obtain ⟨hi, hq, hs⟩ := hI
    by_cases hlt2 : i < k
    · refine W_seq ?_
      refine W_region ?_
      first | refine L_lss rfl rfl rfl (dtrue (by omega)) ?_ | refine L_lss rfl rfl rfl (dfalse (by omega)) ?_ | refine L_lss rfl rfl rfl rfl ?_
      refine RL_then ?_
      refine W_seq ?_
      refine W_if_true rfl ?_
      refine W_skip' ?_
      refine Nx_then ?_
      refine W_seq ?_
      refine W_block ?_
      refine W_seq ?_
      refine W_region ?_
      refine L_move rfl rfl ?_
      refine L_assign rfl rfl ?_
      refine RL_then ?_
      refine W_seq ?_
      refine W_region ?_
      refine L_move rfl rfl ?_
      refine L_move rfl rfl ?_
      refine L_move rfl rfl ?_
      refine L_idxN rfl Try.underlying38 Try.ti48 rfl rfl (by with_reducible first | exact natc_k _ | exact natc_a1 _ | exact natc_0 | exact natc_1 | exact natc_2 | exact natc_s1 _ (by omega) | exact natc_a2 _ | exact natc_add _ _ | exact natc_mul _ _ | exact natc (by omega)) (by omega) (hx.ao (by rw [tcs_len]; omega)) ?_
      refine L_loadA rfl Try.agg48 Try.ti48 rfl (by exact tk_at (hx.old hs Own.nil) (by omega)) ?_
      refine L_callV rfl Try.fun41 rfl rfl (notfirm_ok (ts.getD i tk0) w) ?_
      rintro _ w' ⟨rfl, hs'⟩
      replace hs := hs.nil hs'
      clear hs'
      by_cases hf : (ts.getD i tk0).kind = 1
      · rw [decide_eq_true hf]
        refine RL_then ?_
        refine W_if_false rfl ?_
        refine W_skip' ?_
        refine Nx_block ?_
        refine Nx_then ?_
        refine W_region ?_
        first | refine L_add rfl rfl rfl (wrp_i64 (by omega)) ?_ | refine L_add rfl rfl rfl rfl ?_
        refine L_move rfl rfl ?_
        refine RL_nil' ?_
        refine Nx_loopP (i + 1, _) (is := [0, 1, 7, 8]) (I' := (fun (i : Nat) (w : World) => (i ≤ k) ∧ (∀ q, q < i → (ts.getD q tk0).kind = 1) ∧ (HS w0 w [])) (i + 1) (_)) rfl rfl rfl ?_ ?_
        · refine ⟨by omega, fun q hq2 => ?_, hs⟩
          by_cases hqi : q = i
          · rw [hqi]; exact hf
          · exact hq q (by omega)
        · omega
      · rw [decide_eq_false hf]
        refine RL_then ?_
        refine W_if_true rfl ?_
        refine W_seq ?_
        refine W_region ?_
        refine L_move rfl rfl ?_
        refine L_assign rfl rfl ?_
        refine RL_then ?_
        refine W_ret' ?_
        refine Ex_block_ret ?_
        refine Ex_then_ret ?_
        refine Ex_loop_ret ?_
        refine Ex_block_ret ?_
        refine Ex_then_ret ?_
        refine Ex_done1 rfl rfl ?_
        exact ⟨_, rfl, _, rfl, hs, .inl ⟨i, hlt2, rfl, hf, fun q hqi h => h (hq q hqi)⟩⟩
    · obtain rfl : k = i := by omega
      refine W_seq ?_
      refine W_region ?_
      first | refine L_lss rfl rfl rfl (dtrue (by omega)) ?_ | refine L_lss rfl rfl rfl (dfalse (by omega)) ?_ | refine L_lss rfl rfl rfl rfl ?_
      refine RL_then ?_
      refine W_seq ?_
      refine W_if_false rfl ?_
      refine W_exit' ?_
      refine Ex_then_exit ?_
      refine Ex_loop_exit ?_
      refine Ex_block_hit ?_
      refine Nx_then ?_
      refine W_seq ?_
      refine W_region ?_
      refine L_assign rfl rfl ?_
      refine RL_then ?_
      refine W_ret' ?_
      refine Ex_done1 rfl rfl ?_
      exact ⟨_, rfl, _, rfl, hs, .inr ⟨rfl, fun q hq2 h => h (hq q hq2)⟩⟩
theorem delete_firm (a : Option Addr) (k c : Nat) (ts : List Tk) (w0 : World) (hx : SlC w0 a (tcs ts)) (hk : ts.length = k) (hk2 : k ≤ 1000000) (hf : ∀ i, i < k → (ts.getD i tk0).kind = 1) :
    Ret Try.prog 39 [.slice a k c, .func (.func 41) #[] #[]] w0 fun v w' => v = .slice a k c ∧ HS w0 w' [] := by
  refine Ret.start fun w hs => ?_
  refine calls_of_W Try.func39 rfl rfl rfl ?_
  refine W_seq ?_
  refine W_region ?_
  refine L_assign rfl rfl ?_
  refine RL_then ?_
  refine W_seq ?_
  refine W_region ?_
  refine L_move rfl rfl ?_
  refine L_move rfl rfl ?_
  refine L_call rfl Try.fun60 rfl (tindex_ok a k c ts w (hx.old hs Own.nil) hk hk2) ?_
  rintro _ w1 ⟨j, rfl, hs', hF⟩
  replace hs := hs.nil hs'
  clear hs'
  obtain ⟨i, hi, _, hp, _⟩ | ⟨rfl, hn⟩ := hF
  · exact absurd (hf i hi) hp
  · refine L_assign rfl rfl ?_
    refine RL_then ?_
    refine W_seq ?_
    refine W_seq ?_
    refine W_region ?_
    refine L_move rfl rfl ?_
    first | refine L_eql rfl rfl rfl (dtrue (by omega)) ?_ | refine L_eql rfl rfl rfl (dfalse (by omega)) ?_ | refine L_eql rfl rfl rfl rfl ?_
    refine RL_then ?_
    refine W_if_true rfl ?_
    refine W_seq ?_
    refine W_region ?_
    refine L_move rfl rfl ?_
    refine L_assign rfl rfl ?_
    refine RL_then ?_
    refine W_ret' ?_
    refine Ex_then_ret ?_
    refine Ex_done1 rfl rfl ?_
    exact ⟨_, rfl, rfl, hs⟩
end Go.Proofs.Ytknpoemkmcdgcaa
