/-
  A part of the proof: what functions that the statement reaches do, or a plain law on what they do. Each theorem holds under its own premises alone.
-/
import Derived.Test.YtihhloeakenfgaaTQ4
namespace Go.Lk
open Go
/-! ### Rounding with signs -/
def rd (c : Nat) (T : Int) : Int := if T = 0 then 0 else (if T < 0 then -1 else 1) * (rv (rR c T.natAbs) : Int)
theorem rd_zero (c : Nat) : rd c 0 = 0 := by simp [rd]
theorem rd_pos {c : Nat} {T : Int} (h : 0 < T) : rd c T = (rv (rR c T.natAbs) : Int) := by
  unfold rd; rw [if_neg (by omega), if_neg (by omega)]; simp
theorem rd_neg {c : Nat} {T : Int} (h : T < 0) : rd c T = -(rv (rR c T.natAbs) : Int) := by
  unfold rd; rw [if_neg (by omega), if_pos h]; simp
theorem rd_mono {c : Nat} {T S : Int} (h : T ≤ S) : rd c T ≤ rd c S := by
  rcases Int.lt_trichotomy T 0 with a | a | a <;> rcases Int.lt_trichotomy S 0 with b | b | b
  · rw [rd_neg a, rd_neg b]
    have h1 := rv_le.2 (rR_mono (c := c) (T := S.natAbs) (S := T.natAbs) (by omega) (by omega))
    omega
  · rw [rd_neg a, b, rd_zero]; omega
  · rw [rd_neg a, rd_pos b]; omega
  · omega
  · rw [a, b]; exact Int.le_refl _
  · rw [a, rd_zero, rd_pos b]; omega
  · omega
  · omega
  · rw [rd_pos a, rd_pos b]
    have h1 := rv_le.2 (rR_mono (c := c) (T := T.natAbs) (S := S.natAbs) (by omega) (by omega))
    omega
theorem rd_err (c : Nat) (hc : c = 1074) (T : Int) : 9007199254740992 * (rd c T - T).natAbs ≤ T.natAbs := by
  rcases Int.lt_trichotomy T 0 with a | a | a
  · have := rR_err c T.natAbs hc (by omega)
    rw [rd_neg a]; omega
  · rw [a, rd_zero]; decide
  · have := rR_err c T.natAbs hc (by omega)
    rw [rd_pos a]; omega
end Go.Lk
