/-
 A part of the proof: what functions that the statement reaches do, or a plain law on what they do. Each theorem holds under its own premises alone.
-/
import Derived.Test.YtffobakdngbadaaTKP
import Derived.Test.YtffobakdngbadaaKitY
import Derived.Test.YtffobakdngbadaaKitQ
namespace Go.Proofs.Ytffobakdngbadaa
open Go Go.Lk
/-! ### The same floats, states, tracks -/
def bitsF (x : Nat) : Nat := if isnan x then 18446744073709551615 else x
theorem bitsF_congr {x y : Nat} (h : cn x = cn y) : bitsF x = bitsF y := by
 have hn : isnan x = isnan y := by rw [← isnan_cn x, h, isnan_cn]
 unfold bitsF
 rw [hn]
 split
 ·
  rfl
 ·
  next h2 =>
  have h3 : isnan y = false := by simpa using h2
  rw [cn_num (hn ▸ h3), cn_num h3] at h
  exact h
theorem bits_ok (x : Nat) (w0 : World) : Ret Try.prog 82 [.float .f64 x] w0 fun v w' => v = .int .u64 (bitsF x : Nat) ∧ w' = w0 := by
 refine calls_of_W Try.func82 rfl rfl rfl ?_
 cases hx : isnan x
 ·
  have h1 : (FloatKind.f64.format.order x x != some .eq) = false := by rw [order_self hx]; rfl
  have e : bitsF x = x := by unfold bitsF; rw [hx, if_neg (by decide)]
  refine W_seq (W_region (L_assign rfl rfl (RL_then (W_seq (W_seq (W_region (L_move rfl rfl (L_move rfl rfl ?_))))))))
  refine L_fcmp rfl rfl rfl (fun _ => by rw [binOp_float_cmp_neq, h1]; rfl) ?_
  refine RL_then (W_if_false rfl (W_skip' (Nx_then (W_seq (W_region (L_move rfl rfl (RL_val rfl (R_f64bits Try.ext55 rfl) (L_assign rfl rfl (RL_then (W_ret' (Ex_done1 rfl rfl ?_)))))))))))
  exact ⟨_, rfl, by rw [e], rfl⟩
 ·
  have h1 : (FloatKind.f64.format.order x x != some .eq) = true := by rw [order_nanL hx]; rfl
  have e : bitsF x = 18446744073709551615 := by unfold bitsF; rw [hx, if_pos rfl]
  refine W_seq (W_region (L_assign rfl rfl (RL_then (W_seq (W_seq (W_region (L_move rfl rfl (L_move rfl rfl ?_))))))))
  refine L_fcmp rfl rfl rfl (fun _ => by rw [binOp_float_cmp_neq, h1]; rfl) ?_
  refine RL_then (W_if_true rfl (W_seq (W_region (L_assign rfl rfl (RL_then (W_ret' (Ex_then_ret (Ex_done1 rfl rfl ?_))))))))
  exact ⟨_, rfl, by rw [e]; rfl, rfl⟩
theorem sizeU64 (w : World) : (sizeOf 106).run Try.prog w = .ok 1 w := Try.ti106.sizeOf w
theorem cSame_ok (a b c d : Nat) (h1 : cn a = cn c) (h2 : cn b = cn d) (w0 : World) : Ret Try.prog 72 [.complex .f64 a b, .complex .f64 c d] w0 fun v w' => v = .bool true ∧ w' = w0 := by
 refine calls_of_W Try.func72 rfl rfl rfl (W_seq (W_region (L_assign rfl rfl (RL_then (W_seq (W_region (L_move rfl rfl (L_real rfl rfl (L_call rfl Try.fun82 rfl (bits_ok a w0) ?_)))))))))
 rintro _ _ ⟨rfl, rfl⟩
 refine L_move rfl rfl (L_imag rfl rfl (L_call rfl Try.fun82 rfl (bits_ok b _) ?_))
 rintro _ _ ⟨rfl, rfl⟩
 refine L_build rfl rfl (by exact builtA2 (z0 := .int .u64 0) (z1 := .int .u64 0) (by kernel_rfl) Try.underlying134 (by kernel_rfl) .u64 _ _) ?_
 refine L_move rfl rfl (L_real rfl rfl (L_call rfl Try.fun82 rfl (bits_ok c _) ?_))
 rintro _ _ ⟨rfl, rfl⟩
 refine L_move rfl rfl (L_imag rfl rfl (L_call rfl Try.fun82 rfl (bits_ok d _) ?_))
 rintro _ _ ⟨rfl, rfl⟩
 refine L_build rfl rfl (by exact builtA2 (z0 := .int .u64 0) (z1 := .int .u64 0) (by kernel_rfl) Try.underlying134 (by kernel_rfl) .u64 _ _) ?_
 refine RL_val rfl (R_eqA2 Try.underlying134 Try.underlying106 sizeU64 (by kernel_rfl) rfl rfl) ?_
 refine L_assign rfl rfl (RL_then (W_ret' (Ex_done1 rfl rfl ?_)))
 exact ⟨_, rfl, by rw [bitsF_congr h1, bitsF_congr h2]; simp, rfl⟩
theorem floatS_ok (x y : Nat) (h : cn x = cn y) (w0 : World) : Ret Try.prog 56 [.float .f64 x, .float .f64 y] w0 fun v w' => v = .bool true ∧ w' = w0 := by
 refine calls_of_W Try.func56 rfl rfl rfl (W_seq (W_region (L_assign rfl rfl (RL_then (W_seq (W_region (L_move rfl rfl (L_complex rfl rfl rfl (L_move rfl rfl (L_complex rfl rfl rfl (L_call rfl Try.fun72 rfl (cSame_ok x 0 y 0 h rfl w0) ?_)))))))))))
 rintro _ _ ⟨rfl, rfl⟩
 refine L_assign rfl rfl (RL_then (W_ret' (Ex_done1 rfl rfl ?_)))
 exact ⟨_, rfl, rfl, rfl⟩
theorem Stt.parts {s u : Stt} (h : s.c = u.c) : cn s.x = cn u.x ∧ cn s.v = cn u.v ∧ cn s.p = cn u.p ∧ cn s.q = cn u.q ∧ cn s.r = cn u.r :=
 ⟨congrArg Stt.x h, congrArg Stt.v h, congrArg Stt.p h, congrArg Stt.q h, congrArg Stt.r h⟩
end Go.Proofs.Ytffobakdngbadaa
