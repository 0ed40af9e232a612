/-
  A part of the proof: what functions that the statement reaches do, or a plain law on what they do. Each theorem holds under its own premises alone.
-/
import Derived.Test.YtdllakfojligjaaTTT
import Derived.Test.YtdllakfojligjaaKitY
import Derived.Test.YtdllakfojligjaaKit
import Derived.Laws.BitsAll
namespace Go.Proofs.Ytdllakfojligjaa
open Go Go.Lk
/-- complex numbers as cells -/
abbrev cv (z : Nat × Nat) : Value := .complex .f64 z.1 z.2
theorem and_low (b : Nat) (h : b < 18446744073709551616) : b &&& 9223372036854775807 = b % 9223372036854775808 := Nat.and_two_pow_sub_one_eq_mod b 63
theorem abs_ok (b : Nat) (h : b < 18446744073709551616) (w : World) : Ret Try.prog 30 [.float .f64 b] w fun v w' => v = .float .f64 (b % 9223372036854775808) ∧ w' = w := by
 refine calls_of_W Try.func30 rfl rfl rfl ?_
 refine W_seq ?_
 refine W_region ?_
 refine L_assign rfl rfl ?_
 refine RL_then ?_
 refine W_seq ?_
 refine W_region ?_
 refine L_move rfl rfl ?_
 refine RL_val rfl (R_f64bits Try.ext46 rfl) ?_
 refine L_bin rfl rfl rfl (fun _ _ => eqGuard_andNot ..) (v := .int .u64 ((b % 9223372036854775808 : Nat) : Int)) ?_ ?_
 ·
  rw [binOp_andNot]
  have h1 := u64_andNot_nat b 9223372036854775808 h (by decide)
  have h2 : (Op.intBits .andNot .u64 (b : Int) 9223372036854775808).run Try.prog w = .ok (.int .u64 (bits .andNot .u64 (b : Int) ((9223372036854775808 : Nat) : Int))) w := rfl
  rw [h1, show 18446744073709551615 - 9223372036854775808 = 9223372036854775807 by decide, and_low b h] at h2
  exact h2
 ·
  skip
  refine RL_val rfl (R_f64from Try.ext62 rfl) ?_
  refine L_assign rfl rfl ?_
  refine RL_then ?_
  refine W_ret' ?_
  refine Ex_done1 rfl rfl ?_
  exact ⟨_, rfl, rfl, rfl⟩
/-- a float that is a number -/
structure Fin1 (x : Nat) : Prop where
 lt : x < 18446744073709551616
 self : FloatKind.f64.format.order x x = some .eq
 fin : FloatKind.f64.format.order (x % 9223372036854775808) 9218868437227405311 ≠ some .gt
theorem isnan_ok (x : Nat) (hx : Fin1 x) (w : World) : Ret Try.prog 31 [.float .f64 x] w fun v w' => v = .bool false ∧ w' = w := by
 refine calls_of_W Try.func31 rfl rfl rfl ?_
 refine W_seq ?_
 refine W_region ?_
 refine L_assign rfl rfl ?_
 refine RL_then ?_
 refine W_seq ?_
 refine W_region ?_
 refine L_move rfl rfl ?_
 refine L_move rfl rfl ?_
 refine L_fcmp rfl rfl rfl (fun _ => by rw [binOp_float_cmp_neq]; rfl) ?_
 refine L_assign rfl rfl ?_
 refine RL_then ?_
 refine W_ret' ?_
 refine Ex_done1 rfl rfl ?_
 refine ⟨_, rfl, ?_, rfl⟩
 rw [hx.self]; rfl
theorem isinf_ok (x : Nat) (hx : Fin1 x) (w : World) : Ret Try.prog 32 [.float .f64 x, .int .i64 0] w fun v w' => v = .bool false ∧ w' = w := by
 refine calls_of_W Try.func32 rfl rfl rfl ?_
 refine W_seq ?_
 refine W_region ?_
 refine L_assign rfl rfl ?_
 refine RL_then ?_
 refine W_seq ?_
 refine W_seq ?_
 refine W_region ?_
 refine L_move rfl rfl ?_
 first | refine L_eql rfl rfl rfl (dtrue (by omega)) ?_ | refine L_eql rfl rfl rfl (dfalse (by omega)) ?_ | refine L_eql rfl rfl rfl rfl ?_
 refine RL_then ?_
 refine W_if_true rfl ?_
 refine W_region ?_
 refine L_move rfl rfl ?_
 refine L_call rfl Try.fun30 rfl (abs_ok x hx.lt w) ?_
 rintro _ w ⟨rfl, rfl⟩
 refine L_assign rfl rfl ?_
 refine RL_then ?_
 refine W_seq ?_
 refine W_region ?_
 refine L_move rfl rfl ?_
 refine L_fcmp rfl rfl rfl (fun _ => by rw [binOp_float_cmp_gtr]; rfl) ?_
 refine L_assign rfl rfl ?_
 refine RL_then ?_
 refine W_ret' ?_
 refine Ex_done1 rfl rfl ?_
 refine ⟨_, rfl, ?_, rfl⟩
 have := hx.fin
 revert this
 cases FloatKind.f64.format.order (x % 9223372036854775808) 9218868437227405311 with
 | none => intro _; rfl
 | some o => cases o <;> simp
end Go.Proofs.Ytdllakfojligjaa
