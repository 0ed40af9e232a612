/-
  A part of the proof: what functions that the statement reaches do, or a plain law on what they do. Each theorem holds under its own premises alone.
-/
import Derived.Test.YtoiobncojfeoiaaTUA
import Derived.Test.YtoiobncojfeoiaaKitQ
namespace Go.Proofs.Ytoiobncojfeoiaa
open Go Go.Lk
/-! ### Orders of floats, both ways; nought added -/
theorem cn_same {x v : Nat} (h : cn x = cn v) (hv : isnan v = false) : x = v := by
  cases hx : isnan x with
  | true =>
    rw [cn_nan hx, cn_num hv] at h
    rw [← h, isnan_qnan] at hv; cases hv
  | false => rw [cn_num hx, cn_num hv] at h; exact h
theorem order_swap (x y : Nat) : FloatKind.f64.format.order y x = (FloatKind.f64.format.order x y).map Ordering.swap := by
  show (Ieee.double.read y).order (Ieee.double.read x) = ((Ieee.double.read x).order (Ieee.double.read y)).map Ordering.swap
  cases Ieee.double.read x with
  | nan s f => cases Ieee.double.read y <;> rfl
  | infinity s =>
    cases Ieee.double.read y with
    | nan t g => rfl
    | infinity t => cases s <;> cases t <;> rfl
    | number t n j => cases s <;> rfl
  | number s m i =>
    cases Ieee.double.read y with
    | nan t g => rfl
    | infinity t => cases t <;> rfl
    | number t n j =>
      simp only [Ieee.Datum.order, Option.map_some, Int.min_comm j i]
      congr 1
      exact Std.OrientedCmp.eq_swap
def geB (x y : Nat) : Bool := FloatKind.f64.format.order x y == some .gt || FloatKind.f64.format.order x y == some .eq
theorem geB_leB (x y : Nat) : geB x y = leB y x := by
  unfold geB leB
  rw [order_swap x y]
  cases FloatKind.f64.format.order x y with
  | none => rfl
  | some o => cases o <;> rfl
theorem leB_num {x y : Nat} (h : leB x y = true) : isnan y = false := by
  cases hy : isnan y with
  | false => rfl
  | true => unfold leB at h; rw [order_nanR hy] at h; cases h
theorem add0_some {x : Nat} (h : isnan x = false) : ∃ r, floatBits .add .f64 x 0 = some r := by
  have h' : (Ieee.double.read x).isNaN = false := h
  show ∃ r, ((Ieee.double.read x).sum (Ieee.double.read 0)).map Ieee.double.write = some r
  cases hr : Ieee.double.read x with
  | nan s f => rw [hr] at h'; cases h'
  | infinity s => exact ⟨_, rfl⟩
  | number s m i => exact ⟨_, rfl⟩
theorem add0_val {x r : Nat} (h : isnan x = false) (hr : Fs .add x 0 r) : r = fop .add x 0 := by
  obtain ⟨z, hz⟩ := add0_some h
  rcases hr with h1 | ⟨h1, _⟩
  · unfold fop; rw [h1]; rfl
  · rw [h1] at hz; cases hz
end Go.Proofs.Ytoiobncojfeoiaa
