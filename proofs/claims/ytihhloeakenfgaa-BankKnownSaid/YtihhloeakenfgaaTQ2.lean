/-
  A part of the proof: what functions that the statement reaches do, or a plain law on what they do. Each theorem holds under its own premises alone.
-/
import Derived.Test.YtihhloeakenfgaaTQ
namespace Go.Lk
open Go
/-! ### The value of a rung, in units of 2 ^ -1074 -/
def rv (r : Nat) : Nat := if r < 4503599627370496 then r else (4503599627370496 + r % 4503599627370496) * 2 ^ (r / 4503599627370496 - 1)
/-- A whole number of units, rounded: its rung. -/
def rR (c T : Nat) : Nat := rungU (T * 2 ^ c)
theorem rR_small (c T : Nat) (hc : c = 1074) (hT : T ≠ 0) (h : T < 9007199254740992) : rR c T = T := by
  have hl : T.log2 ≤ 52 := by
    have := (Nat.log2_lt hT (k := 53)).2 (by simpa using h)
    omega
  unfold rR rungU
  have h1 : lastU (T * 2 ^ c) = c := by unfold lastU; rw [log2_mul_pow hT]; omega
  rw [h1, rne_exact, hc]; omega
theorem rR_rv (c r : Nat) (hc : c = 1074) (hr : r ≠ 0) : rR c (rv r) = r := by
  unfold rv
  by_cases h : r < 4503599627370496
  · rw [if_pos h]; exact rR_small c r hc hr (by omega)
  · rw [if_neg h]
    obtain ⟨q, hq⟩ : ∃ q, q = r / 4503599627370496 - 1 := ⟨_, rfl⟩
    obtain ⟨k, hk⟩ : ∃ k, k = 4503599627370496 + r % 4503599627370496 := ⟨_, rfl⟩
    have hk2 : 4503599627370496 ≤ k ∧ k < 9007199254740992 := by omega
    rw [← hq, ← hk]
    have hk0 : k ≠ 0 := by omega
    have hl : k.log2 = 52 := (Nat.log2_eq_iff hk0).2 ⟨by simpa using hk2.1, by simpa using hk2.2⟩
    unfold rR rungU
    have h1 : lastU (k * 2 ^ q * 2 ^ c) = q + c := by
      unfold lastU
      rw [Nat.mul_assoc, ← Nat.pow_add, log2_mul_pow hk0]; omega
    rw [h1, Nat.mul_assoc, ← Nat.pow_add, rne_exact, hc]
    omega
theorem rR_mono {c T S : Nat} (hT : T ≠ 0) (h : T ≤ S) : rR c T ≤ rR c S :=
  rungU_mono (Nat.mul_ne_zero hT (Nat.pos_iff_ne_zero.1 (Nat.two_pow_pos c))) (Nat.mul_le_mul_right _ h)
theorem rv_zero {r : Nat} : rv r = 0 ↔ r = 0 := by
  unfold rv
  by_cases h : r < 4503599627370496
  · rw [if_pos h]
  · rw [if_neg h]
    have h1 : 0 < (4503599627370496 + r % 4503599627370496) * 2 ^ (r / 4503599627370496 - 1) := Nat.mul_pos (by omega) (Nat.two_pow_pos _)
    omega
theorem rv_le {r s : Nat} : rv r ≤ rv s ↔ r ≤ s := by
  have key : ∀ r s : Nat, rv r ≤ rv s → r ≤ s := fun r s h => by
    by_cases h0 : r = 0
    · omega
    · have h1 : rv r ≠ 0 := fun h => h0 (rv_zero.1 h)
      have h2 : s ≠ 0 := fun h3 => by rw [rv_zero.2 h3] at h; omega
      obtain ⟨c, hc⟩ : ∃ c, c = 1074 := ⟨_, rfl⟩
      have := rR_mono (c := c) h1 h
      rwa [rR_rv c r hc h0, rR_rv c s hc h2] at this
  refine ⟨key r s, fun h => ?_⟩
  rcases Nat.le_total (rv r) (rv s) with h1 | h1
  · exact h1
  · have := key s r h1
    have : r = s := by omega
    rw [this]; exact Nat.le_refl _
/-- The value behind a rounding: the digits kept, at their place. -/
theorem rv_rungU (V : Nat) (hV : V ≠ 0) : rv (rungU V) * 2 ^ 1074 = rne V (lastU V) * 2 ^ lastU V := by
  obtain ⟨lu, hlu⟩ : ∃ lu, lu = lastU V := ⟨_, rfl⟩
  obtain ⟨k, hk⟩ : ∃ k, k = rne V lu := ⟨_, rfl⟩
  have h1 : 1074 ≤ lu := by rw [hlu]; unfold lastU; omega
  have a1 : k ≤ 9007199254740992 := by
    have h2 := ((Nat.log2_eq_iff hV).1 rfl).2
    have h3 : 2 ^ (V.log2 + 1) ≤ 2 ^ (lu + 53) := Nat.pow_le_pow_right (by decide) (by rw [hlu]; unfold lastU; omega)
    have := rne_lt (show V < 2 ^ (lu + 53) by omega)
    rw [← hk] at this
    simpa using this
  obtain ⟨d, hd⟩ : ∃ d, lu = 1074 + d := ⟨lu - 1074, by omega⟩
  have a2 : 0 < d → 4503599627370496 ≤ k := fun hd0 => by
    have h2 := ((Nat.log2_eq_iff hV).1 rfl).1
    have h3 : 2 ^ (lu + 52) ≤ 2 ^ V.log2 := Nat.pow_le_pow_right (by decide) (by rw [hlu] at hd ⊢; unfold lastU at hd ⊢; omega)
    have := rne_ge (show 2 ^ (lu + 52) ≤ V by omega)
    rw [← hk] at this
    simpa using this
  have e : rv (rungU V) = k * 2 ^ d := by
    unfold rungU
    rw [← hlu, ← hk, hd, Nat.add_sub_cancel_left]
    unfold rv
    by_cases h5 : d * 4503599627370496 + k < 4503599627370496
    · rw [if_pos h5]
      have : d = 0 := by omega
      subst this; simp
    · rw [if_neg h5]
      by_cases h6 : k = 9007199254740992
      · rw [show (d * 4503599627370496 + k) % 4503599627370496 = 0 by omega, show (d * 4503599627370496 + k) / 4503599627370496 - 1 = d + 1 by omega, h6, Nat.pow_succ]
        omega
      · rw [show (d * 4503599627370496 + k) % 4503599627370496 = k - 4503599627370496 by omega, show (d * 4503599627370496 + k) / 4503599627370496 - 1 = d by omega, show 4503599627370496 + (k - 4503599627370496) = k by omega]
  rw [e, ← hlu, ← hk, hd, Nat.pow_add, Nat.mul_assoc, Nat.mul_comm (2 ^ d)]
theorem rne_err (V d : Nat) : 2 * (rne V d * 2 ^ d) ≤ 2 * V + 2 ^ d ∧ 2 * V ≤ 2 * (rne V d * 2 ^ d) + 2 ^ d := by
  unfold rne
  have hp : 0 < 2 ^ d := Nat.two_pow_pos d
  have h1 := Nat.div_add_mod V (2 ^ d)
  have h2 := Nat.mod_lt V hp
  rw [Nat.mul_comm] at h1
  generalize 2 ^ d = g at *
  generalize V % g = x at *
  generalize V / g = q at *
  rw [Nat.add_mul]
  generalize q * g = A at *
  by_cases a : g < 2 * x
  · simp [a]; omega
  · by_cases b : g = 2 * x
    · cases hb : (decide (g < 2 * x) || (g == 2 * x && q % 2 == 1)) <;> simp <;> omega
    · have : (decide (g < 2 * x) || (g == 2 * x && q % 2 == 1)) = false := by simp [a, b]
      rw [this]; simp; omega
end Go.Lk
