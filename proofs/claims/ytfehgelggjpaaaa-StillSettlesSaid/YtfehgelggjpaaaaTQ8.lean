/-
  A part of the proof: what functions that the statement reaches do, or a plain law on what they do. Each theorem holds under its own premises alone.
-/
import Derived.Test.YtfehgelggjpaaaaTQ7
namespace Go.Lk
open Go
/-! ### One step of a smoothing -/
theorem rd_fv {c : Nat} (hc : c = 1074) {x : Nat} {v : Int} (h : FV x v) : rd c v = v := by
  obtain ⟨s, r, rfl, hr, rfl⟩ := h
  by_cases h0 : r = 0
  · subst h0; simp [rv, rd]
  · have h1 : rv r ≠ 0 := fun h => h0 (rv_zero.1 h)
    cases s
    · simp only [Bool.false_eq_true, if_false, Int.one_mul]
      rw [rd_pos (by omega), Int.natAbs_natCast, rR_rv c r hc h0]
    · simp only [if_true]
      rw [rd_neg (by omega), Int.natAbs_mul, Int.natAbs_natCast]
      simp [rR_rv c r hc h0]
/-- The step, by whole numbers: the level behind it lies between the one before and a neighbour of the input. -/
theorem step_drift (c : Nat) (hc : c = 1074) (T E : Nat) (L x p : Int) (hL : rd c L = L) (hx : x.natAbs ≤ T) (hLT : L.natAbs ≤ T + 200 * E) (hE : E = T / 2251799813685248)
    (hp : (0 ≤ p ∧ p ≤ rd c (x - L)) ∨ (rd c (x - L) ≤ p ∧ p ≤ 0)) :
    (L ≤ rd c (L + p) ∧ rd c (L + p) ≤ x + E) ∨ (x - E ≤ rd c (L + p) ∧ rd c (L + p) ≤ L) := by
  obtain ⟨d, hd⟩ : ∃ d, d = rd c (x - L) := ⟨_, rfl⟩
  rw [← hd] at hp
  have e1 := rd_err c hc (x - L)
  rw [← hd] at e1
  have e2 := rd_err c hc (L + d)
  have key : (rd c (L + d) - x).natAbs ≤ E := by omega
  rcases hp with ⟨h1, h2⟩ | ⟨h1, h2⟩
  · left
    have a1 : rd c L ≤ rd c (L + p) := rd_mono (by omega)
    have a2 : rd c (L + p) ≤ rd c (L + d) := rd_mono (by omega)
    omega
  · right
    have a1 : rd c (L + d) ≤ rd c (L + p) := rd_mono (by omega)
    have a2 : rd c (L + p) ≤ rd c L := rd_mono (by omega)
    omega
/-- A share of a float lies between nought and the float. -/
theorem fv_share (c : Nat) (hc : c = 1074) {x y : Nat} {S D : Int} (hx : FV x S) (hy : FV y D) (h0 : 0 ≤ S) (h1 : S ≤ ((2 ^ c : Nat) : Int)) (hD : D.natAbs ≤ rv 9218868437227405311) :
    ∃ r P, floatBits .mul .f64 x y = some r ∧ FV r P ∧ ((0 ≤ P ∧ P ≤ D) ∨ (D ≤ P ∧ P ≤ 0)) := by
  obtain ⟨r, hr, hz, hn⟩ := fv_mul hx hy
  by_cases h : S * D = 0
  · exact ⟨r, 0, hr, hz h, by omega⟩
  · have hS : S ≠ 0 := fun h2 => h (by rw [h2, Int.zero_mul])
    have hD0 : D ≠ 0 := fun h2 => h (by rw [h2, Int.mul_zero])
    have hle : S.natAbs * D.natAbs ≤ D.natAbs * 2 ^ c := by
      rw [Nat.mul_comm]
      exact Nat.mul_le_mul_left _ (by omega)
    have hm : S.natAbs * D.natAbs ≠ 0 := Nat.mul_ne_zero (by omega) (by omega)
    have h2 : rungU (S.natAbs * D.natAbs) ≤ rR c D.natAbs := rungU_mono hm hle
    have h3 := rR_lt hc hD (by omega)
    have h4 := rd_fv hc hy
    have h5 := rv_le.2 h2
    have h6 := hn h
    rw [Nat.min_eq_left (by omega)] at h6
    refine ⟨r, (if decide (S * D < 0) = true then -1 else 1) * (rv (rungU (S.natAbs * D.natAbs)) : Int), hr, ⟨_, _, h6, by omega, rfl⟩, ?_⟩
    rcases Int.lt_or_gt_of_ne hD0 with a | a
    · right
      have b : S * D < 0 := Int.mul_neg_of_pos_of_neg (by omega) a
      rw [rd_neg a] at h4
      simp only [b, decide_true, if_true]
      omega
    · left
      have b : ¬ S * D < 0 := by have := Int.mul_pos (show 0 < S by omega) a; omega
      rw [rd_pos a] at h4
      simp only [b, decide_false, Bool.false_eq_true, if_false]
      omega
end Go.Lk
