/-
  A part of the proof: what functions that the statement reaches do, or a plain law on what they do. Each theorem holds under its own premises alone.
-/
import Derived.Test.YtihhloeakenfgaaTQ5
namespace Go.Lk
open Go
/-- The greatest finite rung's value bounds what does not run over. -/
theorem rR_lt {c T : Nat} (hc : c = 1074) (h : T ≤ rv 9218868437227405311) (hT : T ≠ 0) : rR c T < 9218868437227405312 := by
  have h1 := rR_mono (c := c) hT h
  rw [rR_rv c _ hc (by decide)] at h1
  omega
theorem fv_word {c : Nat} {T : Int} (hc : c = 1074) (hT : T ≠ 0) (hb : T.natAbs ≤ rv 9218868437227405311) : FV (Ieee.double.word (decide (T < 0)) (min (rR c T.natAbs) 9218868437227405312)) (rd c T) := by
  have h1 := rR_lt hc hb (by omega)
  rw [Nat.min_eq_left (by omega)]
  refine ⟨_, _, rfl, h1, ?_⟩
  unfold rd
  rw [if_neg hT]
  by_cases h : T < 0 <;> simp [h]
theorem fv_add {x y : Nat} {v u : Int} (c : Nat) (hc : c = 1074) (hx : FV x v) (hy : FV y u) (hb : (v + u).natAbs ≤ rv 9218868437227405311) : ∃ r, floatBits .add .f64 x y = some r ∧ FV r (rd c (v + u)) := by
  obtain ⟨s, m, i, h1, h2, h3⟩ := hx.read
  obtain ⟨t, n, j, k1, k2, k3⟩ := hy.read
  obtain ⟨r, hr, h0, h0'⟩ := fv_sum c hc h2 k2 h3 k3
  refine ⟨r, ?_, ?_⟩
  · show (Ieee.Datum.sum (Ieee.double.read x) (Ieee.double.read y)).map Ieee.double.write = some r
    rw [h1, k1]; exact hr
  · by_cases hz : v + u = 0
    · rw [hz, rd_zero]; exact h0 hz
    · rw [h0' hz]; exact fv_word hc hz hb
theorem fv_sub {x y : Nat} {v u : Int} (c : Nat) (hc : c = 1074) (hx : FV x v) (hy : FV y u) (hb : (v - u).natAbs ≤ rv 9218868437227405311) : ∃ r, floatBits .sub .f64 x y = some r ∧ FV r (rd c (v - u)) := by
  obtain ⟨s, m, i, h1, h2, h3⟩ := hx.read
  obtain ⟨t, n, j, k1, k2, k3⟩ := hy.read
  have k4 : Ieee.signed (!t) n (j + 1074).toNat = -u := by rw [signed_not, k3]
  obtain ⟨r, hr, h0, h0'⟩ := fv_sum c hc h2 k2 h3 k4
  refine ⟨r, ?_, ?_⟩
  · show (Ieee.Datum.sum (Ieee.double.read x) (Ieee.double.read y).opposite).map Ieee.double.write = some r
    rw [h1, k1]; exact hr
  · rw [← Int.sub_eq_add_neg] at h0 h0'
    by_cases hz : v - u = 0
    · rw [hz, rd_zero]; exact h0 hz
    · rw [h0' hz]; exact fv_word hc hz hb
end Go.Lk
