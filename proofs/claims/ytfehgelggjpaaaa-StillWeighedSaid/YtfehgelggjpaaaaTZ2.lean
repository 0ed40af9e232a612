/-
  A part of the proof: what functions that the statement reaches do, or a plain law on what they do. Each theorem holds under its own premises alone.
-/
import Derived.Test.YtfehgelggjpaaaaTZ1
namespace Go.Proofs.Ytfehgelggjpaaaa
open Go Go.Lk
def sumZ (w : List Int) (g : Nat → Int) : Nat → Int
  | 0 => 0
  | j + 1 => sumZ w g j + w.getD j 0 * g j
def dz1 (g : Nat → Int) : Nat → Nat → Int
  | 0, i => g i
  | o + 1, i => dz1 g o (i + 1) - dz1 g o i
theorem dz_fst (f : Nat → Nat → Int × Int) (j : Nat) : ∀ o i, (dz f o i j).1 = dz1 (fun i => (f i j).1) o i
  | 0, _ => rfl
  | o + 1, i => by simp only [dz, dz1, dz_fst f j o]
theorem dz_snd (f : Nat → Nat → Int × Int) (j : Nat) : ∀ o i, (dz f o i j).2 = dz1 (fun i => (f i j).2) o i
  | 0, _ => rfl
  | o + 1, i => by simp only [dz, dz1, dz_snd f j o]
theorem w0_ : wOut 0 0 = [1] := by decide +kernel
theorem w1_ : wOut 1 1 = [-1, 1] := by decide +kernel
theorem w2_ : wOut 2 2 = [1, -2, 1] := by decide +kernel
theorem w3_ : wOut 3 3 = [-1, 3, -3, 1] := by decide +kernel
theorem w4_ : wOut 4 4 = [1, -4, 6, -4, 1] := by decide +kernel
theorem w5_ : wOut 5 5 = [-1, 5, -10, 10, -5, 1] := by decide +kernel
theorem w6_ : wOut 6 6 = [1, -6, 15, -20, 15, -6, 1] := by decide +kernel
theorem w7_ : wOut 7 7 = [-1, 7, -21, 35, -35, 21, -7, 1] := by decide +kernel
theorem w8_ : wOut 8 8 = [1, -8, 28, -56, 70, -56, 28, -8, 1] := by decide +kernel
theorem weights_small : ∀ m, m ≤ 8 → ∀ l, l ≤ m → ((wOut m m).getD l 0).natAbs ≤ 70 := by decide +kernel
theorem sum_is (g : Nat → Int) (i m : Nat) (hm : m ≤ 8) : sumZ (wOut m m) (fun l => g (i + l)) (m + 1) = dz1 g m i := by
  match m, hm with
  | 0, _ => simp [w0_, sumZ, dz1]
  | 1, _ => simp [w1_, sumZ, dz1, Nat.add_assoc]; omega
  | 2, _ => simp [w2_, sumZ, dz1, Nat.add_assoc]; omega
  | 3, _ => simp [w3_, sumZ, dz1, Nat.add_assoc]; omega
  | 4, _ => simp [w4_, sumZ, dz1, Nat.add_assoc]; omega
  | 5, _ => simp [w5_, sumZ, dz1, Nat.add_assoc]; omega
  | 6, _ => simp [w6_, sumZ, dz1, Nat.add_assoc]; omega
  | 7, _ => simp [w7_, sumZ, dz1, Nat.add_assoc]; omega
  | 8, _ => simp [w8_, sumZ, dz1, Nat.add_assoc]; omega
/-- A shift of all by one number: differences of order one and more are as they were. -/
theorem dz1_shift (g : Nat → Int) (c : Int) : ∀ o i, dz1 (fun i => g i + c) (o + 1) i = dz1 g (o + 1) i
  | 0, i => by simp only [dz1]; omega
  | o + 1, i => by
    have h1 := dz1_shift g c o (i + 1)
    have h2 := dz1_shift g c o i
    show dz1 (fun i => g i + c) (o + 1) (i + 1) - dz1 (fun i => g i + c) (o + 1) i = dz1 g (o + 1) (i + 1) - dz1 g (o + 1) i
    rw [h1, h2]
theorem sumZ_le {w : List Int} {g : Nat → Int} {m B : Nat} (hw : ∀ l, l < m → (w.getD l 0).natAbs ≤ 70) (hg : ∀ l, l < m → (g l).natAbs ≤ B) : ∀ j, j ≤ m → (sumZ w g j).natAbs ≤ j * (70 * B)
  | 0, _ => by simp [sumZ]
  | j + 1, hj => by
    have h1 := sumZ_le hw hg j (by omega)
    have h2 : (w.getD j 0 * g j).natAbs ≤ 70 * B := by rw [Int.natAbs_mul]; exact Nat.mul_le_mul (hw j (by omega)) (hg j (by omega))
    rw [sumZ, Nat.succ_mul]
    have h3 := Int.natAbs_add_le (sumZ w g j) (w.getD j 0 * g j)
    omega
end Go.Proofs.Ytfehgelggjpaaaa
