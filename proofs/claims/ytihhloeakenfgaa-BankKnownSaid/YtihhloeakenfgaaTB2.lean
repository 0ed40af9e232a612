/-
  A part of the proof: what functions that the statement reaches do, or a plain law on what they do. Each theorem holds under its own premises alone.
-/
import Derived.Test.YtihhloeakenfgaaTB1
namespace Go.Proofs.Ytihhloeakenfgaa
open Go Go.Lk
/-- sums from the left -/
def sumN (zs : List (Nat × Nat)) : Nat → Nat × Nat
  | 0 => zs.getD 0 (0, 0)
  | i + 1 => (fop .add (sumN zs i).1 (zs.getD (i + 1) (0, 0)).1, fop .add (sumN zs i).2 (zs.getD (i + 1) (0, 0)).2)
theorem sum_ok (a : Option Addr) (k c : Nat) (zs : List (Nat × Nat)) (w0 : World) (hz : SlC w0 a (cl zs)) (hk : zs.length = k) (h1 : 1 ≤ k) (h2 : k ≤ c) (h3 : k ≤ 17592186043904) :
    Ret Try.prog 19 [.slice a k c] w0 fun v w' => ∃ re im, v = .complex .f64 re im ∧ HS w0 w' [] ∧ cn re = cn (sumN zs (k - 1)).1 ∧ cn im = cn (sumN zs (k - 1)).2 := by
  refine Ret.start fun w hs => ?_
  have hao : a = some (aD a) := hz.ao (by rw [cl_length]; omega)
  refine calls_of_W Try.func19 rfl rfl rfl ?_
  refine W_seq ?_
  refine W_region ?_
  refine L_assign rfl rfl ?_
  refine RL_then ?_
  refine W_seq ?_
  refine W_seq ?_
  refine W_region ?_
  refine L_move rfl rfl ?_
  refine L_len rfl Try.underlying27 rfl ?_
  first | refine L_eql rfl rfl rfl (dtrue (by omega)) ?_ | refine L_eql rfl rfl rfl (dfalse (by omega)) ?_ | refine L_eql rfl rfl rfl rfl ?_
  refine RL_then ?_
  refine W_if_false rfl ?_
  refine W_skip' ?_
  refine Nx_then ?_
  refine W_seq ?_
  refine W_region ?_
  refine L_move rfl rfl ?_
  refine L_idx1 rfl Try.underlying27 Try.ti28 rfl rfl (by with_reducible first | exact natc_k _ | exact natc_a1 _ | exact natc_0 | exact natc_1 | exact natc_2 | exact natc_s1 _ (by omega) | exact natc_a2 _ | exact natc_add _ _ | exact natc_mul _ _ | exact natc (by omega)) (by omega) hao ?_
  refine L_load rfl Try.one28 rfl (by exact (hz.old hs Own.nil).get (cl_get (by omega))) ?_
  refine L_assign rfl rfl ?_
  refine RL_then ?_
  refine W_seq ?_
  refine W_seq ?_
  refine W_region ?_
  refine L_move rfl rfl ?_
  refine RL_val rfl (R_slice100 Try.underlying27 Try.ti28 rfl rfl natc_1 (by omega)) ?_
  refine L_len rfl Try.underlying27 rfl ?_
  refine L_move rfl rfl ?_
  refine RL_then ?_
  refine W_block ?_
  rw [show ((k - 1 : Nat) : Int) = ((k - 1 : Nat) : Int) from rfl]
  refine W_loop4 (fun (i : Nat) (re : Nat) (im : Nat) (w : World) => [(3, .complex .f64 re im), (13, .slice (slA a 1 c 1) (k - 1) (c - 1)), (14, .int .i64 (k - 1 : Nat)), (15, .int .i64 i)]) (fun (i : Nat) (re : Nat) (im : Nat) (w : World) => w) (fun (i : Nat) (re : Nat) (im : Nat) (w : World) => (i ≤ k - 1) ∧ (cn re = cn (sumN zs i).1) ∧ (cn im = cn (sumN zs i).2) ∧ (HS w0 w [])) (fun (i : Nat) (re : Nat) (im : Nat) (w : World) => k - i) (0) (_) (_) (w) (is := [3, 13, 14, 15]) rfl rfl ?_ ?_
  · exact ⟨Nat.zero_le _, rfl, rfl, hs⟩
  · clear hs
    intro i re im w hI
    show W _ _ _ _ [(3, .complex .f64 re im), (13, .slice (slA a 1 c 1) (k - 1) (c - 1)), (14, .int .i64 (k - 1 : Nat)), (15, .int .i64 i)] w
    obtain ⟨hi, hre, him, hs⟩ := hI
    by_cases hlt : i < k - 1
    · have hsa : slA a 1 c 1 = some ((aD a).add 1) := by unfold slA; rw [if_neg (by omega)]; rw [hao]; rfl
      have hld : ∀ {w : World}, HS w0 w [] → w.cell? (((aD a).add 1).add i) = some (.complex .f64 (zs.getD (i + 1) (0, 0)).1 (zs.getD (i + 1) (0, 0)).2) := fun hs => by
        rw [Lk.add_add, Nat.add_comm]
        exact (hz.old hs Own.nil).get (cl_get (by omega))
      refine W_seq ?_
      refine W_region ?_
      first | refine L_lss rfl rfl rfl (dtrue (by omega)) ?_ | refine L_lss rfl rfl rfl (dfalse (by omega)) ?_ | refine L_lss rfl rfl rfl rfl ?_
      refine RL_then ?_
      refine W_seq ?_
      refine W_if_true rfl ?_
      refine W_skip' ?_
      refine Nx_then ?_
      refine W_seq ?_
      refine W_block ?_
      refine W_seq ?_
      refine W_region ?_
      refine L_idx1 rfl Try.underlying27 Try.ti28 rfl rfl (by with_reducible first | exact natc_k _ | exact natc_a1 _ | exact natc_0 | exact natc_1 | exact natc_2 | exact natc_s1 _ (by omega) | exact natc_a2 _ | exact natc_add _ _ | exact natc_mul _ _ | exact natc (by omega)) (by omega) hsa ?_
      refine L_load rfl Try.one28 rfl (by exact hld hs) ?_
      refine L_assign rfl rfl ?_
      refine RL_then ?_
      refine W_region ?_
      refine L_move rfl rfl ?_
      refine L_move rfl rfl ?_
      refine L_csum rfl (op := .add) (by simp) rfl rfl ?_
      intro r21 s21 k21 hr21 hi21
      try replace hs := hs.drewN k21
      refine L_assign rfl rfl ?_
      refine RL_nil' ?_
      refine Nx_block ?_
      refine Nx_then ?_
      refine W_region ?_
      first | refine L_add rfl rfl rfl (wrp_i64 (by omega)) ?_ | refine L_add rfl rfl rfl rfl ?_
      refine L_move rfl rfl ?_
      refine RL_nil' ?_
      refine Nx_loopP (i + 1, r21, s21, _) (is := [3, 13, 14, 15]) (I' := (fun (i : Nat) (re : Nat) (im : Nat) (w : World) => (i ≤ k - 1) ∧ (cn re = cn (sumN zs i).1) ∧ (cn im = cn (sumN zs i).2) ∧ (HS w0 w [])) (i + 1) (r21) (s21) (_)) rfl rfl rfl ?_ ?_
      · exact ⟨by omega, (Fs.cn hr21).trans ((fop_congr hre rfl).trans (cn_fop ..).symm), (Fs.cn hi21).trans ((fop_congr him rfl).trans (cn_fop ..).symm), hs⟩
      · omega
    · have hie : i = k - 1 := by omega
      refine W_seq ?_
      refine W_region ?_
      first | refine L_lss rfl rfl rfl (dtrue (by omega)) ?_ | refine L_lss rfl rfl rfl (dfalse (by omega)) ?_ | refine L_lss rfl rfl rfl rfl ?_
      refine RL_then ?_
      refine W_seq ?_
      refine W_if_false rfl ?_
      refine W_exit' ?_
      refine Ex_then_exit ?_
      refine Ex_loop_exit ?_
      refine Ex_block_hit ?_
      refine Nx_then ?_
      refine W_seq ?_
      refine W_region ?_
      refine L_move rfl rfl ?_
      refine L_assign rfl rfl ?_
      refine RL_then ?_
      refine W_ret' ?_
      refine Ex_done1 rfl rfl ?_
      exact ⟨_, rfl, _, _, rfl, hs, hie ▸ hre, hie ▸ him⟩
end Go.Proofs.Ytihhloeakenfgaa
