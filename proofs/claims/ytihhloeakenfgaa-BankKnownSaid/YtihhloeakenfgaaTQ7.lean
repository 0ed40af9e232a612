/-
  A part of the proof: what functions that the statement reaches do, or a plain law on what they do. Each theorem holds under its own premises alone.
-/
import Derived.Test.YtihhloeakenfgaaTQ6
namespace Go.Lk
open Go
/-- Any word of 64 bits: finite, infinite, or none. -/
theorem classify {x : Nat} (h : x < 18446744073709551616) : (∃ v, FV x v) ∨ (∃ s, Ieee.double.read x = .infinity s) ∨ isnan x = true := by
  obtain ⟨s, r, hx, hr⟩ : ∃ s r, x = Ieee.double.word s r ∧ r < 9223372036854775808 := by
    by_cases h1 : x < 9223372036854775808
    · exact ⟨false, x, by simp [Ieee.Format.word], h1⟩
    · exact ⟨true, x - 9223372036854775808, by simp [Ieee.Format.word, double_sw]; omega, by omega⟩
  by_cases h2 : r < 9218868437227405312
  · exact .inl ⟨_, s, r, hx, h2, rfl⟩
  · right
    by_cases h3 : r = 9218868437227405312
    · left
      subst h3
      refine ⟨s, ?_⟩
      rw [hx]
      cases s <;> decide +kernel
    · right
      refine isnan_of_rung ?_
      rw [hx]
      unfold Ieee.Format.word
      rw [double_sw]
      cases s <;> simp <;> omega
end Go.Lk
