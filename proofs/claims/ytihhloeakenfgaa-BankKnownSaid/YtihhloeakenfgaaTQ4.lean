/-
  A part of the proof: what functions that the statement reaches do, or a plain law on what they do. Each theorem holds under its own premises alone.
-/
import Derived.Test.YtihhloeakenfgaaTQ3
namespace Go.Lk
open Go
/-- How far a rounding goes: a 2 ^ 53rd part at most. -/
theorem rR_err (c T : Nat) (hc : c = 1074) (hT : T ≠ 0) : 9007199254740992 * rv (rR c T) ≤ 9007199254740992 * T + T ∧ 9007199254740992 * T ≤ 9007199254740992 * rv (rR c T) + T := by
  obtain ⟨C, hC⟩ : ∃ C, C = 2 ^ c := ⟨_, rfl⟩
  have hC0 : 0 < C := by rw [hC]; exact Nat.two_pow_pos c
  have hV : T * 2 ^ c ≠ 0 := Nat.mul_ne_zero hT (by omega)
  have h1 := rv_rungU (T * 2 ^ c) hV
  have h2 := rne_err (T * 2 ^ c) (lastU (T * 2 ^ c))
  have h3 : rungU (T * 2 ^ c) = rR c T := rfl
  rw [h3] at h1
  have h4 : rv (rR c T) * C = rne (T * 2 ^ c) (lastU (T * 2 ^ c)) * 2 ^ lastU (T * 2 ^ c) := by rw [hC, hc] at *; exact h1
  rw [← h4] at h2
  by_cases hl : lastU (T * 2 ^ c) = c
  · have h5 : rne (T * 2 ^ c) (lastU (T * 2 ^ c)) = T := by rw [hl, rne_exact]
    rw [h5, hl, ← hC] at h4
    have : rv (rR c T) = T := Nat.eq_of_mul_eq_mul_right hC0 h4
    omega
  · have h6 : 2 ^ lastU (T * 2 ^ c) * 4503599627370496 ≤ T * C := by
      have h7 := ((Nat.log2_eq_iff hV).1 rfl).1
      have h8 : 2 ^ (lastU (T * 2 ^ c) + 52) ≤ 2 ^ (T * 2 ^ c).log2 := Nat.pow_le_pow_right (by decide) (by unfold lastU at hl ⊢; omega)
      rw [Nat.pow_add, pow52] at h8
      rw [hC]; omega
    have e1 : T * 2 ^ c = T * C := by rw [hC]
    obtain ⟨g, hg⟩ : ∃ g, g = 2 ^ lastU (T * 2 ^ c) := ⟨_, rfl⟩
    rw [← hg] at h2 h6
    obtain ⟨b, hb⟩ : ∃ b, b = T * C := ⟨_, rfl⟩
    rw [e1, ← hb] at h2
    rw [← hb] at h6
    obtain ⟨a, ha⟩ : ∃ a, a = rv (rR c T) * C := ⟨_, rfl⟩
    rw [← ha] at h2
    clear h1 h3 h4 hl hg
    refine ⟨Nat.le_of_mul_le_mul_right (c := C) ?_ hC0, Nat.le_of_mul_le_mul_right (c := C) ?_ hC0⟩
    · rw [Nat.add_mul, Nat.mul_assoc, Nat.mul_assoc, ← ha, ← hb]
      omega
    · rw [Nat.add_mul, Nat.mul_assoc, Nat.mul_assoc, ← ha, ← hb]
      omega
end Go.Lk
