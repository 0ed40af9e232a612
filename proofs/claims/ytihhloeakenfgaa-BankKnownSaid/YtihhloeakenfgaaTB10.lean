/-
  A part of the proof: what functions that the statement reaches do, or a plain law on what they do. Each theorem holds under its own premises alone.
-/
import Derived.Test.YtihhloeakenfgaaTB9
namespace Go.Proofs.Ytihhloeakenfgaa
open Go Go.Lk
set_option maxHeartbeats 1000000 in
theorem turn_ok (x : Nat) (hx2 : x < 18446744073709551616) (w0 : World) : Ret Try.prog 35 [.float .f64 x] w0 fun v w' => ∃ re im, v = .complex .f64 re im ∧ HS w0 w' [] ∧ (x = 0 → re = 4607182418800017408 ∧ im = 0) ∧ (x = 4602678819172646912 → re = 13830554455654793216 ∧ im = 0) := by
  refine Ret.start fun w hs => ?_
  refine calls_of_W Try.func35 rfl rfl rfl ?_
  refine W_seq ?_
  refine W_region ?_
  refine L_assign rfl rfl ?_
  refine RL_then ?_
  refine W_seq ?_
  refine W_region ?_
  refine L_move rfl rfl ?_
  refine L_call rfl Try.fun39 rfl (wrap_ok x hx2 w) ?_
  rintro _ w1 ⟨r, rfl, hW, hs'⟩
  replace hs := hs.nil hs'
  clear hs'
  refine L_assign rfl rfl ?_
  refine RL_then ?_
  refine W_seq ?_
  refine W_seq ?_
  refine W_region ?_
  refine L_move rfl rfl ?_
  refine L_move rfl rfl ?_
  cases hc : FloatKind.f64.format.order r r != some .eq
  · have hn : isnan r = false := order_num (o := .eq) (y := r) (by simpa using hc)
    refine L_fcmp rfl rfl rfl (fun _ => by rw [binOp_float_cmp_neq]; rfl) ?_
    refine RL_then ?_
    refine W_set 12 (v' := .bool false) rfl (by rw [hc]) ?_
    refine W_if_false rfl ?_
    refine W_skip' ?_
    refine Nx_then ?_
    refine W_seq ?_
    refine W_region ?_
    refine L_move rfl rfl ?_
    refine L_call rfl Try.fun36 rfl (abs_ok r (hW.1 hn) w1) ?_
    rintro _ w1 ⟨rfl, rfl⟩
    refine L_assign rfl rfl ?_
    refine RL_then ?_
    refine W_seq ?_
    refine W_region ?_
    refine L_move rfl rfl ?_
    cases hl : FloatKind.f64.format.order (r % 9223372036854775808) 4598175219545276416 == some .gt
    · skip
      refine L_fcmp rfl rfl rfl (fun _ => by rw [binOp_float_cmp_gtr, hl]; rfl) ?_
      refine L_assign rfl rfl ?_
      refine RL_then ?_
      refine W_seq ?_
      refine W_seq ?_
      refine W_region ?_
      refine L_move rfl rfl ?_
      refine RL_then ?_
      refine W_if_false rfl ?_
      refine W_skip' ?_
      refine Nx_then ?_
      refine W_seq ?_
      refine W_region ?_
      refine L_move rfl rfl ?_
      cases hst : FloatKind.f64.format.order (r % 9223372036854775808) 4593671619917905920 == some .gt
      · skip
        refine L_fcmp rfl rfl rfl (fun _ => by rw [binOp_float_cmp_gtr, hst]; rfl) ?_
        refine L_assign rfl rfl ?_
        refine RL_then ?_
        refine W_seq ?_
        refine W_seq ?_
        refine W_region ?_
        refine L_move rfl rfl ?_
        refine RL_then ?_
        refine W_if_false rfl ?_
        refine W_skip' ?_
        refine Nx_then ?_
        refine W_seq ?_
        refine W_region ?_
        refine L_move rfl rfl ?_
        refine L_call rfl Try.fun40 rfl (eighth_ok (r % 9223372036854775808) _) ?_
        rintro _ w2 ⟨re, im, rfl, hs', he⟩
        replace hs := hs.nil hs'
        clear hs'
        refine L_assign rfl rfl ?_
        refine RL_then ?_
        refine W_seq ?_
        refine W_seq ?_
        refine W_region ?_
        refine L_move rfl rfl ?_
        refine RL_then ?_
        refine W_if_false rfl ?_
        refine W_skip' ?_
        refine Nx_then ?_
        refine W_seq ?_
        refine W_seq ?_
        refine W_region ?_
        refine L_move rfl rfl ?_
        refine RL_then ?_
        refine W_if_false rfl ?_
        refine W_skip' ?_
        refine Nx_then ?_
        refine W_seq ?_
        refine W_seq ?_
        refine W_region ?_
        refine L_move rfl rfl ?_
        cases hng : FloatKind.f64.format.order r 0 == some .lt
        · skip
          refine L_fcmp rfl rfl rfl (fun _ => by rw [binOp_float_cmp_lss, hng]; rfl) ?_
          refine RL_then ?_
          refine W_if_false rfl ?_
          refine W_skip' ?_
          refine Nx_then ?_
          refine W_seq ?_
          refine W_region ?_
          refine L_move rfl rfl ?_
          refine L_real rfl rfl ?_
          refine L_farith rfl (op := .add) rfl rfl rfl ?_
          intro r53 k53 hr53
          try replace hs := hs.drewN k53
          refine L_move rfl rfl ?_
          refine L_imag rfl rfl ?_
          refine L_farith rfl (op := .add) rfl rfl rfl ?_
          intro r56 k56 hr56
          try replace hs := hs.drewN k56
          refine L_complex rfl rfl rfl ?_
          refine L_assign rfl rfl ?_
          refine RL_then ?_
          refine W_ret' ?_
          refine Ex_done1 rfl rfl ?_
          refine ⟨_, rfl, _, _, rfl, hs, fun h => ?_, fun h => ?_⟩
          · obtain rfl := hW.2.1 h
            obtain ⟨rfl, rfl⟩ := he (by decide)
            exact ⟨fs_val hr53 (by decide +kernel), fs_val hr56 (by decide +kernel)⟩
          · obtain rfl := hW.2.2 h
            exact absurd hl (by decide +kernel)
        · skip
          refine L_fcmp rfl rfl rfl (fun _ => by rw [binOp_float_cmp_lss, hng]; rfl) ?_
          refine RL_then ?_
          refine W_if_true rfl ?_
          refine W_region ?_
          refine L_move rfl rfl ?_
          refine L_real rfl rfl ?_
          refine L_move rfl rfl ?_
          refine L_imag rfl rfl ?_
          refine L_fneg rfl rfl ?_
          refine L_complex rfl rfl rfl ?_
          refine L_assign rfl rfl ?_
          refine RL_then ?_
          refine W_seq ?_
          refine W_region ?_
          refine L_move rfl rfl ?_
          refine L_real rfl rfl ?_
          refine L_farith rfl (op := .add) rfl rfl rfl ?_
          intro r53 k53 hr53
          try replace hs := hs.drewN k53
          refine L_move rfl rfl ?_
          refine L_imag rfl rfl ?_
          refine L_farith rfl (op := .add) rfl rfl rfl ?_
          intro r56 k56 hr56
          try replace hs := hs.drewN k56
          refine L_complex rfl rfl rfl ?_
          refine L_assign rfl rfl ?_
          refine RL_then ?_
          refine W_ret' ?_
          refine Ex_done1 rfl rfl ?_
          refine ⟨_, rfl, _, _, rfl, hs, fun h => ?_, fun h => ?_⟩
          · obtain rfl := hW.2.1 h
            exact absurd hng (by decide +kernel)
          · obtain rfl := hW.2.2 h
            exact absurd hl (by decide +kernel)
      · skip
        refine L_fcmp rfl rfl rfl (fun _ => by rw [binOp_float_cmp_gtr, hst]; rfl) ?_
        refine L_assign rfl rfl ?_
        refine RL_then ?_
        refine W_seq ?_
        refine W_seq ?_
        refine W_region ?_
        refine L_move rfl rfl ?_
        refine RL_then ?_
        refine W_if_true rfl ?_
        refine W_region ?_
        refine L_move rfl rfl ?_
        refine L_farith rfl (op := .sub) rfl rfl rfl ?_
        intro r27 k27 hr27
        try replace hs := hs.drewN k27
        refine L_assign rfl rfl ?_
        refine RL_then ?_
        refine W_seq ?_
        refine W_region ?_
        refine L_move rfl rfl ?_
        refine L_call rfl Try.fun40 rfl (eighth_ok r27 _) ?_
        rintro _ w2 ⟨re, im, rfl, hs', he⟩
        replace hs := hs.nil hs'
        clear hs'
        refine L_assign rfl rfl ?_
        refine RL_then ?_
        refine W_seq ?_
        refine W_seq ?_
        refine W_region ?_
        refine L_move rfl rfl ?_
        refine RL_then ?_
        refine W_if_true rfl ?_
        refine W_region ?_
        refine L_move rfl rfl ?_
        refine L_imag rfl rfl ?_
        refine L_move rfl rfl ?_
        refine L_real rfl rfl ?_
        refine L_complex rfl rfl rfl ?_
        refine L_assign rfl rfl ?_
        refine RL_then ?_
        refine W_seq ?_
        refine W_seq ?_
        refine W_region ?_
        refine L_move rfl rfl ?_
        refine RL_then ?_
        refine W_if_false rfl ?_
        refine W_skip' ?_
        refine Nx_then ?_
        refine W_seq ?_
        refine W_seq ?_
        refine W_region ?_
        refine L_move rfl rfl ?_
        cases hng : FloatKind.f64.format.order r 0 == some .lt
        · skip
          refine L_fcmp rfl rfl rfl (fun _ => by rw [binOp_float_cmp_lss, hng]; rfl) ?_
          refine RL_then ?_
          refine W_if_false rfl ?_
          refine W_skip' ?_
          refine Nx_then ?_
          refine W_seq ?_
          refine W_region ?_
          refine L_move rfl rfl ?_
          refine L_real rfl rfl ?_
          refine L_farith rfl (op := .add) rfl rfl rfl ?_
          intro r53 k53 hr53
          try replace hs := hs.drewN k53
          refine L_move rfl rfl ?_
          refine L_imag rfl rfl ?_
          refine L_farith rfl (op := .add) rfl rfl rfl ?_
          intro r56 k56 hr56
          try replace hs := hs.drewN k56
          refine L_complex rfl rfl rfl ?_
          refine L_assign rfl rfl ?_
          refine RL_then ?_
          refine W_ret' ?_
          refine Ex_done1 rfl rfl ?_
          refine ⟨_, rfl, _, _, rfl, hs, fun h => ?_, fun h => ?_⟩
          · obtain rfl := hW.2.1 h
            exact absurd hst (by decide +kernel)
          · obtain rfl := hW.2.2 h
            exact absurd hl (by decide +kernel)
        · skip
          refine L_fcmp rfl rfl rfl (fun _ => by rw [binOp_float_cmp_lss, hng]; rfl) ?_
          refine RL_then ?_
          refine W_if_true rfl ?_
          refine W_region ?_
          refine L_move rfl rfl ?_
          refine L_real rfl rfl ?_
          refine L_move rfl rfl ?_
          refine L_imag rfl rfl ?_
          refine L_fneg rfl rfl ?_
          refine L_complex rfl rfl rfl ?_
          refine L_assign rfl rfl ?_
          refine RL_then ?_
          refine W_seq ?_
          refine W_region ?_
          refine L_move rfl rfl ?_
          refine L_real rfl rfl ?_
          refine L_farith rfl (op := .add) rfl rfl rfl ?_
          intro r53 k53 hr53
          try replace hs := hs.drewN k53
          refine L_move rfl rfl ?_
          refine L_imag rfl rfl ?_
          refine L_farith rfl (op := .add) rfl rfl rfl ?_
          intro r56 k56 hr56
          try replace hs := hs.drewN k56
          refine L_complex rfl rfl rfl ?_
          refine L_assign rfl rfl ?_
          refine RL_then ?_
          refine W_ret' ?_
          refine Ex_done1 rfl rfl ?_
          refine ⟨_, rfl, _, _, rfl, hs, fun h => ?_, fun h => ?_⟩
          · obtain rfl := hW.2.1 h
            exact absurd hst (by decide +kernel)
          · obtain rfl := hW.2.2 h
            exact absurd hl (by decide +kernel)
    · skip
      refine L_fcmp rfl rfl rfl (fun _ => by rw [binOp_float_cmp_gtr, hl]; rfl) ?_
      refine L_assign rfl rfl ?_
      refine RL_then ?_
      refine W_seq ?_
      refine W_seq ?_
      refine W_region ?_
      refine L_move rfl rfl ?_
      refine RL_then ?_
      refine W_if_true rfl ?_
      refine W_region ?_
      refine L_move rfl rfl ?_
      refine L_farith rfl (op := .sub) rfl rfl rfl ?_
      intro r22 k22 hr22
      try replace hs := hs.drewN k22
      refine L_assign rfl rfl ?_
      refine RL_then ?_
      refine W_seq ?_
      refine W_region ?_
      refine L_move rfl rfl ?_
      cases hst : FloatKind.f64.format.order r22 4593671619917905920 == some .gt
      · skip
        refine L_fcmp rfl rfl rfl (fun _ => by rw [binOp_float_cmp_gtr, hst]; rfl) ?_
        refine L_assign rfl rfl ?_
        refine RL_then ?_
        refine W_seq ?_
        refine W_seq ?_
        refine W_region ?_
        refine L_move rfl rfl ?_
        refine RL_then ?_
        refine W_if_false rfl ?_
        refine W_skip' ?_
        refine Nx_then ?_
        refine W_seq ?_
        refine W_region ?_
        refine L_move rfl rfl ?_
        refine L_call rfl Try.fun40 rfl (eighth_ok r22 _) ?_
        rintro _ w2 ⟨re, im, rfl, hs', he⟩
        replace hs := hs.nil hs'
        clear hs'
        refine L_assign rfl rfl ?_
        refine RL_then ?_
        refine W_seq ?_
        refine W_seq ?_
        refine W_region ?_
        refine L_move rfl rfl ?_
        refine RL_then ?_
        refine W_if_false rfl ?_
        refine W_skip' ?_
        refine Nx_then ?_
        refine W_seq ?_
        refine W_seq ?_
        refine W_region ?_
        refine L_move rfl rfl ?_
        refine RL_then ?_
        refine W_if_true rfl ?_
        refine W_region ?_
        refine L_move rfl rfl ?_
        refine L_real rfl rfl ?_
        refine L_fneg rfl rfl ?_
        refine L_move rfl rfl ?_
        refine L_imag rfl rfl ?_
        refine L_complex rfl rfl rfl ?_
        refine L_assign rfl rfl ?_
        refine RL_then ?_
        refine W_seq ?_
        refine W_seq ?_
        refine W_region ?_
        refine L_move rfl rfl ?_
        cases hng : FloatKind.f64.format.order r 0 == some .lt
        · skip
          refine L_fcmp rfl rfl rfl (fun _ => by rw [binOp_float_cmp_lss, hng]; rfl) ?_
          refine RL_then ?_
          refine W_if_false rfl ?_
          refine W_skip' ?_
          refine Nx_then ?_
          refine W_seq ?_
          refine W_region ?_
          refine L_move rfl rfl ?_
          refine L_real rfl rfl ?_
          refine L_farith rfl (op := .add) rfl rfl rfl ?_
          intro r53 k53 hr53
          try replace hs := hs.drewN k53
          refine L_move rfl rfl ?_
          refine L_imag rfl rfl ?_
          refine L_farith rfl (op := .add) rfl rfl rfl ?_
          intro r56 k56 hr56
          try replace hs := hs.drewN k56
          refine L_complex rfl rfl rfl ?_
          refine L_assign rfl rfl ?_
          refine RL_then ?_
          refine W_ret' ?_
          refine Ex_done1 rfl rfl ?_
          refine ⟨_, rfl, _, _, rfl, hs, fun h => ?_, fun h => ?_⟩
          · obtain rfl := hW.2.1 h
            exact absurd hl (by decide +kernel)
          · obtain rfl := hW.2.2 h
            obtain rfl := fs_val hr22 (z := 0) (by decide +kernel)
            exact absurd hng (by decide +kernel)
        · skip
          refine L_fcmp rfl rfl rfl (fun _ => by rw [binOp_float_cmp_lss, hng]; rfl) ?_
          refine RL_then ?_
          refine W_if_true rfl ?_
          refine W_region ?_
          refine L_move rfl rfl ?_
          refine L_real rfl rfl ?_
          refine L_move rfl rfl ?_
          refine L_imag rfl rfl ?_
          refine L_fneg rfl rfl ?_
          refine L_complex rfl rfl rfl ?_
          refine L_assign rfl rfl ?_
          refine RL_then ?_
          refine W_seq ?_
          refine W_region ?_
          refine L_move rfl rfl ?_
          refine L_real rfl rfl ?_
          refine L_farith rfl (op := .add) rfl rfl rfl ?_
          intro r53 k53 hr53
          try replace hs := hs.drewN k53
          refine L_move rfl rfl ?_
          refine L_imag rfl rfl ?_
          refine L_farith rfl (op := .add) rfl rfl rfl ?_
          intro r56 k56 hr56
          try replace hs := hs.drewN k56
          refine L_complex rfl rfl rfl ?_
          refine L_assign rfl rfl ?_
          refine RL_then ?_
          refine W_ret' ?_
          refine Ex_done1 rfl rfl ?_
          refine ⟨_, rfl, _, _, rfl, hs, fun h => ?_, fun h => ?_⟩
          · obtain rfl := hW.2.1 h
            exact absurd hl (by decide +kernel)
          · obtain rfl := hW.2.2 h
            obtain rfl := fs_val hr22 (z := 0) (by decide +kernel)
            obtain ⟨rfl, rfl⟩ := he rfl
            exact ⟨fs_val hr53 (by decide +kernel), fs_val hr56 (by decide +kernel)⟩
      · skip
        refine L_fcmp rfl rfl rfl (fun _ => by rw [binOp_float_cmp_gtr, hst]; rfl) ?_
        refine L_assign rfl rfl ?_
        refine RL_then ?_
        refine W_seq ?_
        refine W_seq ?_
        refine W_region ?_
        refine L_move rfl rfl ?_
        refine RL_then ?_
        refine W_if_true rfl ?_
        refine W_region ?_
        refine L_move rfl rfl ?_
        refine L_farith rfl (op := .sub) rfl rfl rfl ?_
        intro r27 k27 hr27
        try replace hs := hs.drewN k27
        refine L_assign rfl rfl ?_
        refine RL_then ?_
        refine W_seq ?_
        refine W_region ?_
        refine L_move rfl rfl ?_
        refine L_call rfl Try.fun40 rfl (eighth_ok r27 _) ?_
        rintro _ w2 ⟨re, im, rfl, hs', he⟩
        replace hs := hs.nil hs'
        clear hs'
        refine L_assign rfl rfl ?_
        refine RL_then ?_
        refine W_seq ?_
        refine W_seq ?_
        refine W_region ?_
        refine L_move rfl rfl ?_
        refine RL_then ?_
        refine W_if_true rfl ?_
        refine W_region ?_
        refine L_move rfl rfl ?_
        refine L_imag rfl rfl ?_
        refine L_move rfl rfl ?_
        refine L_real rfl rfl ?_
        refine L_complex rfl rfl rfl ?_
        refine L_assign rfl rfl ?_
        refine RL_then ?_
        refine W_seq ?_
        refine W_seq ?_
        refine W_region ?_
        refine L_move rfl rfl ?_
        refine RL_then ?_
        refine W_if_true rfl ?_
        refine W_region ?_
        refine L_move rfl rfl ?_
        refine L_real rfl rfl ?_
        refine L_fneg rfl rfl ?_
        refine L_move rfl rfl ?_
        refine L_imag rfl rfl ?_
        refine L_complex rfl rfl rfl ?_
        refine L_assign rfl rfl ?_
        refine RL_then ?_
        refine W_seq ?_
        refine W_seq ?_
        refine W_region ?_
        refine L_move rfl rfl ?_
        cases hng : FloatKind.f64.format.order r 0 == some .lt
        · skip
          refine L_fcmp rfl rfl rfl (fun _ => by rw [binOp_float_cmp_lss, hng]; rfl) ?_
          refine RL_then ?_
          refine W_if_false rfl ?_
          refine W_skip' ?_
          refine Nx_then ?_
          refine W_seq ?_
          refine W_region ?_
          refine L_move rfl rfl ?_
          refine L_real rfl rfl ?_
          refine L_farith rfl (op := .add) rfl rfl rfl ?_
          intro r53 k53 hr53
          try replace hs := hs.drewN k53
          refine L_move rfl rfl ?_
          refine L_imag rfl rfl ?_
          refine L_farith rfl (op := .add) rfl rfl rfl ?_
          intro r56 k56 hr56
          try replace hs := hs.drewN k56
          refine L_complex rfl rfl rfl ?_
          refine L_assign rfl rfl ?_
          refine RL_then ?_
          refine W_ret' ?_
          refine Ex_done1 rfl rfl ?_
          refine ⟨_, rfl, _, _, rfl, hs, fun h => ?_, fun h => ?_⟩
          · obtain rfl := hW.2.1 h
            exact absurd hl (by decide +kernel)
          · obtain rfl := hW.2.2 h
            obtain rfl := fs_val hr22 (z := 0) (by decide +kernel)
            exact absurd hst (by decide +kernel)
        · skip
          refine L_fcmp rfl rfl rfl (fun _ => by rw [binOp_float_cmp_lss, hng]; rfl) ?_
          refine RL_then ?_
          refine W_if_true rfl ?_
          refine W_region ?_
          refine L_move rfl rfl ?_
          refine L_real rfl rfl ?_
          refine L_move rfl rfl ?_
          refine L_imag rfl rfl ?_
          refine L_fneg rfl rfl ?_
          refine L_complex rfl rfl rfl ?_
          refine L_assign rfl rfl ?_
          refine RL_then ?_
          refine W_seq ?_
          refine W_region ?_
          refine L_move rfl rfl ?_
          refine L_real rfl rfl ?_
          refine L_farith rfl (op := .add) rfl rfl rfl ?_
          intro r53 k53 hr53
          try replace hs := hs.drewN k53
          refine L_move rfl rfl ?_
          refine L_imag rfl rfl ?_
          refine L_farith rfl (op := .add) rfl rfl rfl ?_
          intro r56 k56 hr56
          try replace hs := hs.drewN k56
          refine L_complex rfl rfl rfl ?_
          refine L_assign rfl rfl ?_
          refine RL_then ?_
          refine W_ret' ?_
          refine Ex_done1 rfl rfl ?_
          refine ⟨_, rfl, _, _, rfl, hs, fun h => ?_, fun h => ?_⟩
          · obtain rfl := hW.2.1 h
            exact absurd hl (by decide +kernel)
          · obtain rfl := hW.2.2 h
            obtain rfl := fs_val hr22 (z := 0) (by decide +kernel)
            exact absurd hst (by decide +kernel)
  · refine L_fcmp rfl rfl rfl (fun _ => by rw [binOp_float_cmp_neq]; rfl) ?_
    refine RL_then ?_
    refine W_set 12 (v' := .bool true) rfl (by rw [hc]) ?_
    refine W_if_true rfl ?_
    refine W_seq ?_
    refine W_region ?_
    refine L_move rfl rfl ?_
    refine L_move rfl rfl ?_
    refine L_complex rfl rfl rfl ?_
    refine L_assign rfl rfl ?_
    refine RL_then ?_
    refine W_ret' ?_
    refine Ex_then_ret ?_
    refine Ex_done1 rfl rfl ?_
    refine ⟨_, rfl, _, _, rfl, hs, fun h => ?_, fun h => ?_⟩
    · obtain rfl := hW.2.1 h
      exact absurd hc (by decide +kernel)
    · obtain rfl := hW.2.2 h
      exact absurd hc (by decide +kernel)
end Go.Proofs.Ytihhloeakenfgaa
