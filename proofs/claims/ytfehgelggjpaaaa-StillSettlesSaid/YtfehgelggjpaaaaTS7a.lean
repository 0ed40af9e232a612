/-
  A part of the proof: what functions that the statement reaches do, or a plain law on what they do. Each theorem holds under its own premises alone.
-/
import Derived.Test.YtfehgelggjpaaaaTP13a
import Derived.Test.YtfehgelggjpaaaaTQ4
import Derived.Laws.BitsAll
namespace Go.Proofs.Ytfehgelggjpaaaa
open Go Go.Lk
theorem and_low (b : Nat) (h : b < 18446744073709551616) : b &&& 9223372036854775807 = b % 9223372036854775808 := Nat.and_two_pow_sub_one_eq_mod b 63
theorem abs_ok (b : Nat) (h : b < 18446744073709551616) (w : World) : Ret Try.prog 22 [.float .f64 b] w fun v w' => v = .float .f64 (b % 9223372036854775808) ∧ w' = w := by
  refine calls_of_W Try.func22 rfl rfl rfl ?_
  refine W_seq ?_
  refine W_region ?_
  refine L_assign rfl rfl ?_
  refine RL_then ?_
  refine W_seq ?_
  refine W_region ?_
  refine L_move rfl rfl ?_
  refine RL_val rfl (R_f64bits Try.ext21 rfl) ?_
  refine L_bin rfl rfl rfl (fun _ _ => eqGuard_andNot ..) (v := .int .u64 ((b % 9223372036854775808 : Nat) : Int)) ?_ ?_
  · rw [binOp_andNot]
    have h1 := u64_andNot_nat b 9223372036854775808 h (by decide)
    have h2 : (Op.intBits .andNot .u64 (b : Int) 9223372036854775808).run Try.prog w = .ok (.int .u64 (bits .andNot .u64 (b : Int) ((9223372036854775808 : Nat) : Int))) w := rfl
    rw [h1, show 18446744073709551615 - 9223372036854775808 = 9223372036854775807 by decide, and_low b h] at h2
    exact h2
  · skip
    refine RL_val rfl (R_f64from Try.ext24 rfl) ?_
    refine L_assign rfl rfl ?_
    refine RL_then ?_
    refine W_ret' ?_
    refine Ex_done1 rfl rfl ?_
    exact ⟨_, rfl, rfl, rfl⟩
end Go.Proofs.Ytfehgelggjpaaaa
