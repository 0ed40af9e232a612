/-
  A part of the proof: what functions that the statement reaches do, or a plain law on what they do. Each theorem holds under its own premises alone.
-/
import Derived.Test.YtknpoemkmcdgcaaTT28
import Derived.Test.YtknpoemkmcdgcaaKitY
import Derived.Test.YtknpoemkmcdgcaaKit
import Derived.Laws.BitsAll
namespace Go.Proofs.Ytknpoemkmcdgcaa
open Go Go.Lk
/-- complex numbers as cells -/
abbrev cv (z : Nat × Nat) : Value := .complex .f64 z.1 z.2
theorem mul_ok (a b c d : Nat) (w0 : World) : Ret Try.prog 48 [.complex .f64 a b, .complex .f64 c d] w0 fun v w' => ∃ re im, v = .complex .f64 re im ∧ HS w0 w' [] ∧ cn re = fop .sub (fop .mul a c) (fop .mul b d) ∧ cn im = fop .add (fop .mul a d) (fop .mul b c) := by
  refine Ret.start fun w hs => ?_
  refine calls_of_W Try.func48 rfl rfl rfl ?_
  refine W_seq ?_
  refine W_region ?_
  refine L_assign rfl rfl ?_
  refine RL_then ?_
  refine W_seq ?_
  refine W_region ?_
  refine L_move rfl rfl ?_
  refine L_real rfl rfl ?_
  refine L_move rfl rfl ?_
  refine L_real rfl rfl ?_
  refine L_farith rfl (op := .mul) rfl rfl rfl ?_
  intro r11 k11 hr11
  try replace hs := hs.drewN k11
  refine L_move rfl rfl ?_
  refine L_imag rfl rfl ?_
  refine L_move rfl rfl ?_
  refine L_imag rfl rfl ?_
  refine L_farith rfl (op := .mul) rfl rfl rfl ?_
  intro r16 k16 hr16
  try replace hs := hs.drewN k16
  refine L_farith rfl (op := .sub) rfl rfl rfl ?_
  intro r17 k17 hr17
  try replace hs := hs.drewN k17
  refine L_assign rfl rfl ?_
  refine RL_then ?_
  refine W_seq ?_
  refine W_region ?_
  refine L_move rfl rfl ?_
  refine L_real rfl rfl ?_
  refine L_move rfl rfl ?_
  refine L_imag rfl rfl ?_
  refine L_farith rfl (op := .mul) rfl rfl rfl ?_
  intro r22 k22 hr22
  try replace hs := hs.drewN k22
  refine L_move rfl rfl ?_
  refine L_imag rfl rfl ?_
  refine L_move rfl rfl ?_
  refine L_real rfl rfl ?_
  refine L_farith rfl (op := .mul) rfl rfl rfl ?_
  intro r27 k27 hr27
  try replace hs := hs.drewN k27
  refine L_farith rfl (op := .add) rfl rfl rfl ?_
  intro r28 k28 hr28
  try replace hs := hs.drewN k28
  refine L_assign rfl rfl ?_
  refine RL_then ?_
  refine W_seq ?_
  refine W_region ?_
  refine L_move rfl rfl ?_
  refine L_move rfl rfl ?_
  refine L_complex rfl rfl rfl ?_
  refine L_assign rfl rfl ?_
  refine RL_then ?_
  refine W_ret' ?_
  refine Ex_done1 rfl rfl ?_
  exact ⟨_, rfl, _, _, rfl, hs, (Fs.cn hr17).trans (fop_congr ((Fs.cn hr11).trans (cn_fop ..).symm) ((Fs.cn hr16).trans (cn_fop ..).symm)), (Fs.cn hr28).trans (fop_congr ((Fs.cn hr22).trans (cn_fop ..).symm) ((Fs.cn hr27).trans (cn_fop ..).symm))⟩
/-- sums from the left -/
def sumL (s : Nat × Nat) : List (Nat × Nat) → Nat × Nat
  | [] => s
  | x :: l => sumL (fop .add s.1 x.1, fop .add s.2 x.2) l
def sumC : List (Nat × Nat) → Nat × Nat
  | [] => (0, 0)
  | x :: l => sumL x l
theorem and_low (b : Nat) (h : b < 18446744073709551616) : b &&& 9223372036854775807 = b % 9223372036854775808 := Nat.and_two_pow_sub_one_eq_mod b 63
theorem abs_ok (b : Nat) (h : b < 18446744073709551616) (w : World) : Ret Try.prog 26 [.float .f64 b] w fun v w' => v = .float .f64 (b % 9223372036854775808) ∧ w' = w := by
  refine calls_of_W Try.func26 rfl rfl rfl ?_
  refine W_seq ?_
  refine W_region ?_
  refine L_assign rfl rfl ?_
  refine RL_then ?_
  refine W_seq ?_
  refine W_region ?_
  refine L_move rfl rfl ?_
  refine RL_val rfl (R_f64bits Try.ext27 rfl) ?_
  refine L_bin rfl rfl rfl (fun _ _ => eqGuard_andNot ..) (v := .int .u64 ((b % 9223372036854775808 : Nat) : Int)) ?_ ?_
  · rw [binOp_andNot]
    have h1 := u64_andNot_nat b 9223372036854775808 h (by decide)
    have h2 : (Op.intBits .andNot .u64 (b : Int) 9223372036854775808).run Try.prog w = .ok (.int .u64 (bits .andNot .u64 (b : Int) ((9223372036854775808 : Nat) : Int))) w := rfl
    rw [h1, show 18446744073709551615 - 9223372036854775808 = 9223372036854775807 by decide, and_low b h] at h2
    exact h2
  · skip
    refine RL_val rfl (R_f64from Try.ext46 rfl) ?_
    refine L_assign rfl rfl ?_
    refine RL_then ?_
    refine W_ret' ?_
    refine Ex_done1 rfl rfl ?_
    exact ⟨_, rfl, rfl, rfl⟩
/-- a float that is a number -/
structure Fin1 (x : Nat) : Prop where
  lt : x < 18446744073709551616
  self : FloatKind.f64.format.order x x = some .eq
  fin : FloatKind.f64.format.order (x % 9223372036854775808) 9218868437227405311 ≠ some .gt
theorem isnan_ok (x : Nat) (hx : Fin1 x) (w : World) : Ret Try.prog 54 [.float .f64 x] w fun v w' => v = .bool false ∧ w' = w := by
  refine calls_of_W Try.func54 rfl rfl rfl ?_
  refine W_seq ?_
  refine W_region ?_
  refine L_assign rfl rfl ?_
  refine RL_then ?_
  refine W_seq ?_
  refine W_region ?_
  refine L_move rfl rfl ?_
  refine L_move rfl rfl ?_
  refine L_fcmp rfl rfl rfl (fun _ => by rw [binOp_float_cmp_neq]; rfl) ?_
  refine L_assign rfl rfl ?_
  refine RL_then ?_
  refine W_ret' ?_
  refine Ex_done1 rfl rfl ?_
  refine ⟨_, rfl, ?_, rfl⟩
  rw [hx.self]; rfl
theorem isinf_ok (x : Nat) (hx : Fin1 x) (w : World) : Ret Try.prog 55 [.float .f64 x, .int .i64 0] w fun v w' => v = .bool false ∧ w' = w := by
  refine calls_of_W Try.func55 rfl rfl rfl ?_
  refine W_seq ?_
  refine W_region ?_
  refine L_assign rfl rfl ?_
  refine RL_then ?_
  refine W_seq ?_
  refine W_seq ?_
  refine W_region ?_
  refine L_move rfl rfl ?_
  first | refine L_eql rfl rfl rfl (dtrue (by omega)) ?_ | refine L_eql rfl rfl rfl (dfalse (by omega)) ?_ | refine L_eql rfl rfl rfl rfl ?_
  refine RL_then ?_
  refine W_if_true rfl ?_
  refine W_region ?_
  refine L_move rfl rfl ?_
  refine L_call rfl Try.fun26 rfl (abs_ok x hx.lt w) ?_
  rintro _ w ⟨rfl, rfl⟩
  refine L_assign rfl rfl ?_
  refine RL_then ?_
  refine W_seq ?_
  refine W_region ?_
  refine L_move rfl rfl ?_
  refine L_fcmp rfl rfl rfl (fun _ => by rw [binOp_float_cmp_gtr]; rfl) ?_
  refine L_assign rfl rfl ?_
  refine RL_then ?_
  refine W_ret' ?_
  refine Ex_done1 rfl rfl ?_
  refine ⟨_, rfl, ?_, rfl⟩
  have := hx.fin
  revert this
  cases FloatKind.f64.format.order (x % 9223372036854775808) 9218868437227405311 with
  | none => intro _; rfl
  | some o => cases o <;> simp
end Go.Proofs.Ytknpoemkmcdgcaa
