/-
  A part of the proof: what functions that the statement reaches do, or a plain law on what they do. Each theorem holds under its own premises alone.
-/
import Derived.Test.YtihhloeakenfgaaKit
namespace Go.Lk
open Go
/-! ### Rounding, as a law of whole numbers: V in units of 2 ^ -2148 -/
/-- V / 2 ^ d, to the nearest, ties to even -/
def rne (V d : Nat) : Nat := V / 2 ^ d + (decide (2 ^ d < 2 * (V % 2 ^ d)) || (2 ^ d == 2 * (V % 2 ^ d) && V / 2 ^ d % 2 == 1)).toNat
theorem rne_le {V W d : Nat} (h : V ≤ W) : rne V d ≤ rne W d := by
  unfold rne
  have hp : 0 < 2 ^ d := Nat.two_pow_pos d
  generalize 2 ^ d = g at hp
  have h1 : V / g ≤ W / g := Nat.div_le_div_right h
  rcases Nat.lt_or_ge (V / g) (W / g) with h2 | h2
  · have : ∀ b : Bool, b.toNat ≤ 1 := fun b => by cases b <;> decide
    have h3 := this (decide (g < 2 * (V % g)) || (g == 2 * (V % g) && V / g % 2 == 1))
    omega
  · have h3 : V / g = W / g := Nat.le_antisymm h1 h2
    have e1 := Nat.div_add_mod V g
    have e2 := Nat.div_add_mod W g
    rw [h3] at e1 ⊢
    have h4 : V % g ≤ W % g := by omega
    refine Nat.add_le_add_left ?_ _
    by_cases a : g < 2 * (V % g)
    · have b : g < 2 * (W % g) := by omega
      simp [a, b]
    · by_cases c : g = 2 * (V % g)
      · by_cases b : g < 2 * (W % g)
        · simp only [b, decide_true, Bool.true_or]
          cases (decide (g < 2 * (V % g)) || (g == 2 * (V % g) && W / g % 2 == 1)) <;> decide
        · have d' : V % g = W % g := by omega
          rw [d']; exact Nat.le_refl _
      · have : (decide (g < 2 * (V % g)) || (g == 2 * (V % g) && W / g % 2 == 1)) = false := by
          simp [a, c]
        rw [this]; exact Nat.zero_le _
theorem rne_exact (q d : Nat) : rne (q * 2 ^ d) d = q := by
  unfold rne
  have hp : 0 < 2 ^ d := Nat.two_pow_pos d
  rw [Nat.mul_div_cancel _ hp, Nat.mul_mod_left]
  have h3 : ¬ 2 ^ d < 2 * 0 := by omega
  have h4 : (2 ^ d == 2 * 0) = false := by simp
  simp [h3]
/-- the place of the last digit kept, above 2 ^ -2148 -/
def lastU (V : Nat) : Nat := max (V.log2 - 52) 1074
def rungU (V : Nat) : Nat := (lastU V - 1074) * 4503599627370496 + rne V (lastU V)
theorem rne_lt {V d k : Nat} (h : V < 2 ^ (d + k)) : rne V d ≤ 2 ^ k := by
  have h1 := rne_le (d := d) (Nat.le_of_lt h)
  rw [Nat.pow_add, Nat.mul_comm, rne_exact] at h1
  exact h1
theorem rne_ge {V d k : Nat} (h : 2 ^ (d + k) ≤ V) : 2 ^ k ≤ rne V d := by
  have h1 := rne_le (d := d) h
  rw [Nat.pow_add, Nat.mul_comm, rne_exact] at h1
  exact h1
theorem log2_mono {V W : Nat} (hV : V ≠ 0) (h : V ≤ W) : V.log2 ≤ W.log2 := by
  have h1 := ((Nat.log2_eq_iff hV).1 rfl).1
  have h2 := ((Nat.log2_eq_iff (by omega : W ≠ 0)).1 rfl).2
  rcases Nat.lt_or_ge W.log2 V.log2 with h3 | h3
  · have h4 : 2 ^ (W.log2 + 1) ≤ 2 ^ V.log2 := Nat.pow_le_pow_right (by decide) h3
    omega
  · exact h3
/-- Rounding is monotone. -/
theorem rungU_mono {V W : Nat} (hV : V ≠ 0) (h : V ≤ W) : rungU V ≤ rungU W := by
  have hl := log2_mono hV h
  have hl2 : lastU V ≤ lastU W := by unfold lastU; omega
  unfold rungU
  rcases Nat.lt_or_ge (lastU V) (lastU W) with h1 | h1
  · have a1 : V < 2 ^ (lastU V + 53) := by
      have h2 := ((Nat.log2_eq_iff hV).1 rfl).2
      have h3 : 2 ^ (V.log2 + 1) ≤ 2 ^ (lastU V + 53) := Nat.pow_le_pow_right (by decide) (by unfold lastU; omega)
      omega
    have a2 : 2 ^ (lastU W + 52) ≤ W := by
      have h2 := ((Nat.log2_eq_iff (by omega : W ≠ 0)).1 rfl).1
      have h3 : 2 ^ (lastU W + 52) ≤ 2 ^ W.log2 := Nat.pow_le_pow_right (by decide) (by unfold lastU at h1 ⊢; omega)
      omega
    have b1 := rne_lt a1
    have b2 := rne_ge a2
    rw [show (2 : Nat) ^ 53 = 9007199254740992 by decide] at b1
    rw [show (2 : Nat) ^ 52 = 4503599627370496 by decide] at b2
    have h5 : 1074 ≤ lastU V := by unfold lastU; omega
    omega
  · have h2 : lastU V = lastU W := by omega
    rw [h2]
    exact Nat.add_le_add_left (rne_le h) _
theorem rne_scale (m d k : Nat) : rne (m * 2 ^ k) (d + k) = rne m d := by
  unfold rne
  have hk : 0 < 2 ^ k := Nat.two_pow_pos k
  have e1 : m * 2 ^ k / 2 ^ (d + k) = m / 2 ^ d := by rw [Nat.pow_add]; exact Nat.mul_div_mul_right _ _ hk
  have e2 : m * 2 ^ k % 2 ^ (d + k) = m % 2 ^ d * 2 ^ k := by rw [Nat.pow_add]; exact Nat.mul_mod_mul_right _ _ _
  rw [e1, e2, Nat.pow_add, ← Nat.mul_assoc]
  have e3 : decide (2 ^ d * 2 ^ k < 2 * (m % 2 ^ d) * 2 ^ k) = decide (2 ^ d < 2 * (m % 2 ^ d)) := by
    rw [decide_eq_decide]; exact Nat.mul_lt_mul_right hk
  have e4 : (2 ^ d * 2 ^ k == 2 * (m % 2 ^ d) * 2 ^ k) = (2 ^ d == 2 * (m % 2 ^ d)) := by
    rw [Bool.eq_iff_iff, beq_iff_eq, beq_iff_eq]; exact Nat.mul_left_inj (by omega)
  rw [e3, e4]
theorem cut_rne (neg : Bool) (m d : Nat) (hm : m ≠ 0) : Ieee.Toward.even.cut neg m d = rne m d := by
  unfold Ieee.Toward.cut
  by_cases h : d ≤ m.log2 + 2
  · simp only [Nat.min_eq_left h, Nat.one_shiftLeft]
    rfl
  · have h1 : min d (m.log2 + 2) = m.log2 + 2 := by omega
    have h2 := ((Nat.log2_eq_iff hm).1 rfl).2
    have h3 : 2 ^ (m.log2 + 2) = 2 * 2 ^ (m.log2 + 1) := by rw [Nat.pow_succ, Nat.mul_comm]
    have h4 : 2 * m < 2 ^ (m.log2 + 2) := by omega
    have h5 : 2 ^ (m.log2 + 2) ≤ 2 ^ d := Nat.pow_le_pow_right (by decide) (by omega)
    have z : ∀ g, 2 * m < g → m / g + (decide (g < 2 * (m % g)) || (g == 2 * (m % g) && m / g % 2 == 1)).toNat = 0 := by
      intro g hg
      rw [Nat.div_eq_of_lt (by omega), Nat.mod_eq_of_lt (by omega)]
      have a : ¬ g < 2 * m := by omega
      have b : (g == 2 * m) = false := by simp; omega
      simp [a, b]
    simp only [h1, Nat.one_shiftLeft]
    unfold rne
    rw [z _ h4, z _ (by omega)]
/-- The word nearest, by the value alone. -/
theorem nearest_val (s : Bool) (m : Nat) (p : Int) (hm : m ≠ 0) (hp : -2148 ≤ p) : Ieee.double.nearest s m p = Ieee.double.word s (min (rungU (m * 2 ^ (p + 2148).toNat)) 9218868437227405312) := by
  obtain ⟨V, hV⟩ : ∃ V, V = m * 2 ^ (p + 2148).toNat := ⟨_, rfl⟩
  have hl : V.log2 = m.log2 + (p + 2148).toNat := by rw [hV, log2_mul_pow hm]
  obtain ⟨lu, hlu⟩ : ∃ lu, lu = lastU V := ⟨_, rfl⟩
  have hlast : max (p + (m.log2 : Int) - 52) (-1074) = (lu : Int) - 2148 := by rw [hlu]; unfold lastU; omega
  have hcut : Ieee.Toward.even.cut s (m <<< (p - ((lu : Int) - 2148)).toNat) (((lu : Int) - 2148) - p).toNat = rne V lu := by
    by_cases hc : (lu : Int) - 2148 ≤ p
    · have h0 : (((lu : Int) - 2148) - p).toNat = 0 := by omega
      rw [h0, cut_rne _ _ _ (by rw [Nat.shiftLeft_eq]; exact Nat.mul_ne_zero hm (Nat.pos_iff_ne_zero.1 (Nat.two_pow_pos _))), Nat.shiftLeft_eq]
      have h1 : (p + 2148).toNat = (p - ((lu : Int) - 2148)).toNat + lu := by omega
      have h2 : V = m * 2 ^ (p - ((lu : Int) - 2148)).toNat * 2 ^ lu := by rw [hV, h1, Nat.pow_add, Nat.mul_assoc]
      rw [h2, rne_exact]
      have := rne_exact (m * 2 ^ (p - ((lu : Int) - 2148)).toNat) 0
      simpa using this
    · have h0 : (p - ((lu : Int) - 2148)).toNat = 0 := by omega
      rw [h0, Nat.shiftLeft_zero, cut_rne _ _ _ hm, hV, show lu = (((lu : Int) - 2148) - p).toNat + (p + 2148).toNat by omega, rne_scale]
      congr 1
      omega
  unfold Ieee.Format.nearest
  rw [if_neg hm]
  have f1 : (Ieee.double.fractionBits : Int) = 52 := rfl
  have f2 : Ieee.double.leastPlace = -1074 := by decide
  have f3 : Ieee.double.infRung = 9218868437227405312 := rfl
  have f4 : Ieee.double.binade = 4503599627370496 := rfl
  simp only [f1, f2, hlast, hcut, f3, f4]
  rw [← hV]
  unfold rungU
  rw [← hlu]
  have h5 : ((lu : Int) - 2148 - -1074).toNat = lu - 1074 := by omega
  rw [h5]
end Go.Lk
