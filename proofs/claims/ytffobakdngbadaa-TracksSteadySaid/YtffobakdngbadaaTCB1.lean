/-
 A part of the proof: what functions that the statement reaches do, or a plain law on what they do. Each theorem holds under its own premises alone.
-/
import Derived.Test.YtffobakdngbadaaTT19
import Derived.Test.YtffobakdngbadaaKitY
import Derived.Test.YtffobakdngbadaaKit
import Derived.Laws.BitsAll
namespace Go.Proofs.Ytffobakdngbadaa
open Go Go.Lk
/-- complex numbers as cells -/
abbrev cv (z : Nat × Nat) : Value := .complex .f64 z.1 z.2
theorem and_low (b : Nat) (h : b < 18446744073709551616) : b &&& 9223372036854775807 = b % 9223372036854775808 := Nat.and_two_pow_sub_one_eq_mod b 63
theorem abs_ok (b : Nat) (h : b < 18446744073709551616) (w : World) : Ret Try.prog 23 [.float .f64 b] w fun v w' => v = .float .f64 (b % 9223372036854775808) ∧ w' = w := by
 refine calls_of_W Try.func23 rfl rfl rfl (W_seq (W_region (L_assign rfl rfl (RL_then (W_seq (W_region (L_move rfl rfl (RL_val rfl (R_f64bits Try.ext55 rfl) ?_))))))))
 refine L_bin rfl rfl rfl (fun _ _ => eqGuard_andNot ..) (v := .int .u64 ((b % 9223372036854775808 : Nat) : Int)) ?_ ?_
 ·
  rw [binOp_andNot]
  have h1 := u64_andNot_nat b 9223372036854775808 h (by decide)
  have h2 : (Op.intBits .andNot .u64 (b : Int) 9223372036854775808).run Try.prog w = .ok (.int .u64 (bits .andNot .u64 (b : Int) ((9223372036854775808 : Nat) : Int))) w := rfl
  rw [h1, show 18446744073709551615 - 9223372036854775808 = 9223372036854775807 by decide, and_low b h] at h2
  exact h2
 ·
  skip
  refine RL_val rfl (R_f64from Try.ext54 rfl) (L_assign rfl rfl (RL_then (W_ret' (Ex_done1 rfl rfl ?_))))
  exact ⟨_, rfl, rfl, rfl⟩
/-- a float that is a number -/
structure Fin1 (x : Nat) : Prop where
 lt : x < 18446744073709551616
 self : FloatKind.f64.format.order x x = some .eq
 fin : FloatKind.f64.format.order (x % 9223372036854775808) 9218868437227405311 ≠ some .gt
end Go.Proofs.Ytffobakdngbadaa
