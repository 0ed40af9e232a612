/-
  A part of the proof: laws for walks, and plain laws, over any program of the model. Each theorem holds under its own premises alone.
-/
import Derived.Test.YtoiobncojfeoiaaKit
namespace Go.Lk
open Go
/-! ### Rounding, as a law of whole numbers: V in units of 2 ^ -2148 -/
/-- V / 2 ^ d, to the nearest, ties to even -/
def rne (V d : Nat) : Nat := V / 2 ^ d + (decide (2 ^ d < 2 * (V % 2 ^ d)) || (2 ^ d == 2 * (V % 2 ^ d) && V / 2 ^ d % 2 == 1)).toNat
theorem rne_le {V W d : Nat} (h : V ≤ W) : rne V d ≤ rne W d := by
  unfold rne
  have hp : 0 < 2 ^ d := Nat.two_pow_pos d
  generalize 2 ^ d = g at hp
  have h1 : V / g ≤ W / g := Nat.div_le_div_right h
  rcases Nat.lt_or_ge (V / g) (W / g) with h2 | h2
  · have : ∀ b : Bool, b.toNat ≤ 1 := fun b => by cases b <;> decide
    have h3 := this (decide (g < 2 * (V % g)) || (g == 2 * (V % g) && V / g % 2 == 1))
    omega
  · have h3 : V / g = W / g := Nat.le_antisymm h1 h2
    have e1 := Nat.div_add_mod V g
    have e2 := Nat.div_add_mod W g
    rw [h3] at e1 ⊢
    have h4 : V % g ≤ W % g := by omega
    refine Nat.add_le_add_left ?_ _
    by_cases a : g < 2 * (V % g)
    · have b : g < 2 * (W % g) := by omega
      simp [a, b]
    · by_cases c : g = 2 * (V % g)
      · by_cases b : g < 2 * (W % g)
        · simp only [b, decide_true, Bool.true_or]
          cases (decide (g < 2 * (V % g)) || (g == 2 * (V % g) && W / g % 2 == 1)) <;> decide
        · have d' : V % g = W % g := by omega
          rw [d']; exact Nat.le_refl _
      · have : (decide (g < 2 * (V % g)) || (g == 2 * (V % g) && W / g % 2 == 1)) = false := by
          simp [a, c]
        rw [this]; exact Nat.zero_le _
theorem rne_exact (q d : Nat) : rne (q * 2 ^ d) d = q := by
  unfold rne
  have hp : 0 < 2 ^ d := Nat.two_pow_pos d
  rw [Nat.mul_div_cancel _ hp, Nat.mul_mod_left]
  have h3 : ¬ 2 ^ d < 2 * 0 := by omega
  have h4 : (2 ^ d == 2 * 0) = false := by simp
  simp [h3]
/-- the place of the last digit kept, above 2 ^ -2148 -/
def lastU (V : Nat) : Nat := max (V.log2 - 52) 1074
def rungU (V : Nat) : Nat := (lastU V - 1074) * 4503599627370496 + rne V (lastU V)
theorem rne_lt {V d k : Nat} (h : V < 2 ^ (d + k)) : rne V d ≤ 2 ^ k := by
  have h1 := rne_le (d := d) (Nat.le_of_lt h)
  rw [Nat.pow_add, Nat.mul_comm, rne_exact] at h1
  exact h1
theorem rne_ge {V d k : Nat} (h : 2 ^ (d + k) ≤ V) : 2 ^ k ≤ rne V d := by
  have h1 := rne_le (d := d) h
  rw [Nat.pow_add, Nat.mul_comm, rne_exact] at h1
  exact h1
theorem log2_mono {V W : Nat} (hV : V ≠ 0) (h : V ≤ W) : V.log2 ≤ W.log2 := by
  have h1 := ((Nat.log2_eq_iff hV).1 rfl).1
  have h2 := ((Nat.log2_eq_iff (by omega : W ≠ 0)).1 rfl).2
  rcases Nat.lt_or_ge W.log2 V.log2 with h3 | h3
  · have h4 : 2 ^ (W.log2 + 1) ≤ 2 ^ V.log2 := Nat.pow_le_pow_right (by decide) h3
    omega
  · exact h3
/-- Rounding is monotone. -/
theorem rungU_mono {V W : Nat} (hV : V ≠ 0) (h : V ≤ W) : rungU V ≤ rungU W := by
  have hl := log2_mono hV h
  have hl2 : lastU V ≤ lastU W := by unfold lastU; omega
  unfold rungU
  rcases Nat.lt_or_ge (lastU V) (lastU W) with h1 | h1
  · have a1 : V < 2 ^ (lastU V + 53) := by
      have h2 := ((Nat.log2_eq_iff hV).1 rfl).2
      have h3 : 2 ^ (V.log2 + 1) ≤ 2 ^ (lastU V + 53) := Nat.pow_le_pow_right (by decide) (by unfold lastU; omega)
      omega
    have a2 : 2 ^ (lastU W + 52) ≤ W := by
      have h2 := ((Nat.log2_eq_iff (by omega : W ≠ 0)).1 rfl).1
      have h3 : 2 ^ (lastU W + 52) ≤ 2 ^ W.log2 := Nat.pow_le_pow_right (by decide) (by unfold lastU at h1 ⊢; omega)
      omega
    have b1 := rne_lt a1
    have b2 := rne_ge a2
    rw [show (2 : Nat) ^ 53 = 9007199254740992 by decide] at b1
    rw [show (2 : Nat) ^ 52 = 4503599627370496 by decide] at b2
    have h5 : 1074 ≤ lastU V := by unfold lastU; omega
    omega
  · have h2 : lastU V = lastU W := by omega
    rw [h2]
    exact Nat.add_le_add_left (rne_le h) _
theorem rne_scale (m d k : Nat) : rne (m * 2 ^ k) (d + k) = rne m d := by
  unfold rne
  have hk : 0 < 2 ^ k := Nat.two_pow_pos k
  have e1 : m * 2 ^ k / 2 ^ (d + k) = m / 2 ^ d := by rw [Nat.pow_add]; exact Nat.mul_div_mul_right _ _ hk
  have e2 : m * 2 ^ k % 2 ^ (d + k) = m % 2 ^ d * 2 ^ k := by rw [Nat.pow_add]; exact Nat.mul_mod_mul_right _ _ _
  rw [e1, e2, Nat.pow_add, ← Nat.mul_assoc]
  have e3 : decide (2 ^ d * 2 ^ k < 2 * (m % 2 ^ d) * 2 ^ k) = decide (2 ^ d < 2 * (m % 2 ^ d)) := by
    rw [decide_eq_decide]; exact Nat.mul_lt_mul_right hk
  have e4 : (2 ^ d * 2 ^ k == 2 * (m % 2 ^ d) * 2 ^ k) = (2 ^ d == 2 * (m % 2 ^ d)) := by
    rw [Bool.eq_iff_iff, beq_iff_eq, beq_iff_eq]; exact Nat.mul_left_inj (by omega)
  rw [e3, e4]
theorem cut_rne (neg : Bool) (m d : Nat) (hm : m ≠ 0) : Ieee.Toward.even.cut neg m d = rne m d := by
  unfold Ieee.Toward.cut
  by_cases h : d ≤ m.log2 + 2
  · simp only [Nat.min_eq_left h, Nat.one_shiftLeft]
    rfl
  · have h1 : min d (m.log2 + 2) = m.log2 + 2 := by omega
    have h2 := ((Nat.log2_eq_iff hm).1 rfl).2
    have h3 : 2 ^ (m.log2 + 2) = 2 * 2 ^ (m.log2 + 1) := by rw [Nat.pow_succ, Nat.mul_comm]
    have h4 : 2 * m < 2 ^ (m.log2 + 2) := by omega
    have h5 : 2 ^ (m.log2 + 2) ≤ 2 ^ d := Nat.pow_le_pow_right (by decide) (by omega)
    have z : ∀ g, 2 * m < g → m / g + (decide (g < 2 * (m % g)) || (g == 2 * (m % g) && m / g % 2 == 1)).toNat = 0 := by
      intro g hg
      rw [Nat.div_eq_of_lt (by omega), Nat.mod_eq_of_lt (by omega)]
      have a : ¬ g < 2 * m := by omega
      have b : (g == 2 * m) = false := by simp; omega
      simp [a, b]
    simp only [h1, Nat.one_shiftLeft]
    unfold rne
    rw [z _ h4, z _ (by omega)]
/-- The word nearest, by the value alone. -/
theorem nearest_val (s : Bool) (m : Nat) (p : Int) (hm : m ≠ 0) (hp : -2148 ≤ p) : Ieee.double.nearest s m p = Ieee.double.word s (min (rungU (m * 2 ^ (p + 2148).toNat)) 9218868437227405312) := by
  obtain ⟨V, hV⟩ : ∃ V, V = m * 2 ^ (p + 2148).toNat := ⟨_, rfl⟩
  have hl : V.log2 = m.log2 + (p + 2148).toNat := by rw [hV, log2_mul_pow hm]
  obtain ⟨lu, hlu⟩ : ∃ lu, lu = lastU V := ⟨_, rfl⟩
  have hlast : max (p + (m.log2 : Int) - 52) (-1074) = (lu : Int) - 2148 := by rw [hlu]; unfold lastU; omega
  have hcut : Ieee.Toward.even.cut s (m <<< (p - ((lu : Int) - 2148)).toNat) (((lu : Int) - 2148) - p).toNat = rne V lu := by
    by_cases hc : (lu : Int) - 2148 ≤ p
    · have h0 : (((lu : Int) - 2148) - p).toNat = 0 := by omega
      rw [h0, cut_rne _ _ _ (by rw [Nat.shiftLeft_eq]; exact Nat.mul_ne_zero hm (Nat.pos_iff_ne_zero.1 (Nat.two_pow_pos _))), Nat.shiftLeft_eq]
      have h1 : (p + 2148).toNat = (p - ((lu : Int) - 2148)).toNat + lu := by omega
      have h2 : V = m * 2 ^ (p - ((lu : Int) - 2148)).toNat * 2 ^ lu := by rw [hV, h1, Nat.pow_add, Nat.mul_assoc]
      rw [h2, rne_exact]
      have := rne_exact (m * 2 ^ (p - ((lu : Int) - 2148)).toNat) 0
      simpa using this
    · have h0 : (p - ((lu : Int) - 2148)).toNat = 0 := by omega
      rw [h0, Nat.shiftLeft_zero, cut_rne _ _ _ hm, hV, show lu = (((lu : Int) - 2148) - p).toNat + (p + 2148).toNat by omega, rne_scale]
      congr 1
      omega
  unfold Ieee.Format.nearest
  rw [if_neg hm]
  have f1 : (Ieee.double.fractionBits : Int) = 52 := rfl
  have f2 : Ieee.double.leastPlace = -1074 := by decide
  have f3 : Ieee.double.infRung = 9218868437227405312 := rfl
  have f4 : Ieee.double.binade = 4503599627370496 := rfl
  simp only [f1, f2, hlast, hcut, f3, f4]
  rw [← hV]
  unfold rungU
  rw [← hlu]
  have h5 : ((lu : Int) - 2148 - -1074).toNat = lu - 1074 := by omega
  rw [h5]
end Go.Lk

namespace Go.Lk
open Go
/-! ### The value of a rung, in units of 2 ^ -1074 -/
def rv (r : Nat) : Nat := if r < 4503599627370496 then r else (4503599627370496 + r % 4503599627370496) * 2 ^ (r / 4503599627370496 - 1)
/-- A whole number of units, rounded: its rung. -/
def rR (c T : Nat) : Nat := rungU (T * 2 ^ c)
theorem rR_small (c T : Nat) (hc : c = 1074) (hT : T ≠ 0) (h : T < 9007199254740992) : rR c T = T := by
  have hl : T.log2 ≤ 52 := by
    have := (Nat.log2_lt hT (k := 53)).2 (by simpa using h)
    omega
  unfold rR rungU
  have h1 : lastU (T * 2 ^ c) = c := by unfold lastU; rw [log2_mul_pow hT]; omega
  rw [h1, rne_exact, hc]; omega
theorem rR_rv (c r : Nat) (hc : c = 1074) (hr : r ≠ 0) : rR c (rv r) = r := by
  unfold rv
  by_cases h : r < 4503599627370496
  · rw [if_pos h]; exact rR_small c r hc hr (by omega)
  · rw [if_neg h]
    obtain ⟨q, hq⟩ : ∃ q, q = r / 4503599627370496 - 1 := ⟨_, rfl⟩
    obtain ⟨k, hk⟩ : ∃ k, k = 4503599627370496 + r % 4503599627370496 := ⟨_, rfl⟩
    have hk2 : 4503599627370496 ≤ k ∧ k < 9007199254740992 := by omega
    rw [← hq, ← hk]
    have hk0 : k ≠ 0 := by omega
    have hl : k.log2 = 52 := (Nat.log2_eq_iff hk0).2 ⟨by simpa using hk2.1, by simpa using hk2.2⟩
    unfold rR rungU
    have h1 : lastU (k * 2 ^ q * 2 ^ c) = q + c := by
      unfold lastU
      rw [Nat.mul_assoc, ← Nat.pow_add, log2_mul_pow hk0]; omega
    rw [h1, Nat.mul_assoc, ← Nat.pow_add, rne_exact, hc]
    omega
theorem rR_mono {c T S : Nat} (hT : T ≠ 0) (h : T ≤ S) : rR c T ≤ rR c S :=
  rungU_mono (Nat.mul_ne_zero hT (Nat.pos_iff_ne_zero.1 (Nat.two_pow_pos c))) (Nat.mul_le_mul_right _ h)
theorem rv_zero {r : Nat} : rv r = 0 ↔ r = 0 := by
  unfold rv
  by_cases h : r < 4503599627370496
  · rw [if_pos h]
  · rw [if_neg h]
    have h1 : 0 < (4503599627370496 + r % 4503599627370496) * 2 ^ (r / 4503599627370496 - 1) := Nat.mul_pos (by omega) (Nat.two_pow_pos _)
    omega
theorem rv_le {r s : Nat} : rv r ≤ rv s ↔ r ≤ s := by
  have key : ∀ r s : Nat, rv r ≤ rv s → r ≤ s := fun r s h => by
    by_cases h0 : r = 0
    · omega
    · have h1 : rv r ≠ 0 := fun h => h0 (rv_zero.1 h)
      have h2 : s ≠ 0 := fun h3 => by rw [rv_zero.2 h3] at h; omega
      obtain ⟨c, hc⟩ : ∃ c, c = 1074 := ⟨_, rfl⟩
      have := rR_mono (c := c) h1 h
      rwa [rR_rv c r hc h0, rR_rv c s hc h2] at this
  refine ⟨key r s, fun h => ?_⟩
  rcases Nat.le_total (rv r) (rv s) with h1 | h1
  · exact h1
  · have := key s r h1
    have : r = s := by omega
    rw [this]; exact Nat.le_refl _
/-- The value behind a rounding: the digits kept, at their place. -/
theorem rv_rungU (V : Nat) (hV : V ≠ 0) : rv (rungU V) * 2 ^ 1074 = rne V (lastU V) * 2 ^ lastU V := by
  obtain ⟨lu, hlu⟩ : ∃ lu, lu = lastU V := ⟨_, rfl⟩
  obtain ⟨k, hk⟩ : ∃ k, k = rne V lu := ⟨_, rfl⟩
  have h1 : 1074 ≤ lu := by rw [hlu]; unfold lastU; omega
  have a1 : k ≤ 9007199254740992 := by
    have h2 := ((Nat.log2_eq_iff hV).1 rfl).2
    have h3 : 2 ^ (V.log2 + 1) ≤ 2 ^ (lu + 53) := Nat.pow_le_pow_right (by decide) (by rw [hlu]; unfold lastU; omega)
    have := rne_lt (show V < 2 ^ (lu + 53) by omega)
    rw [← hk] at this
    simpa using this
  obtain ⟨d, hd⟩ : ∃ d, lu = 1074 + d := ⟨lu - 1074, by omega⟩
  have a2 : 0 < d → 4503599627370496 ≤ k := fun hd0 => by
    have h2 := ((Nat.log2_eq_iff hV).1 rfl).1
    have h3 : 2 ^ (lu + 52) ≤ 2 ^ V.log2 := Nat.pow_le_pow_right (by decide) (by rw [hlu] at hd ⊢; unfold lastU at hd ⊢; omega)
    have := rne_ge (show 2 ^ (lu + 52) ≤ V by omega)
    rw [← hk] at this
    simpa using this
  have e : rv (rungU V) = k * 2 ^ d := by
    unfold rungU
    rw [← hlu, ← hk, hd, Nat.add_sub_cancel_left]
    unfold rv
    by_cases h5 : d * 4503599627370496 + k < 4503599627370496
    · rw [if_pos h5]
      have : d = 0 := by omega
      subst this; simp
    · rw [if_neg h5]
      by_cases h6 : k = 9007199254740992
      · rw [show (d * 4503599627370496 + k) % 4503599627370496 = 0 by omega, show (d * 4503599627370496 + k) / 4503599627370496 - 1 = d + 1 by omega, h6, Nat.pow_succ]
        omega
      · rw [show (d * 4503599627370496 + k) % 4503599627370496 = k - 4503599627370496 by omega, show (d * 4503599627370496 + k) / 4503599627370496 - 1 = d by omega, show 4503599627370496 + (k - 4503599627370496) = k by omega]
  rw [e, ← hlu, ← hk, hd, Nat.pow_add, Nat.mul_assoc, Nat.mul_comm (2 ^ d)]
theorem rne_err (V d : Nat) : 2 * (rne V d * 2 ^ d) ≤ 2 * V + 2 ^ d ∧ 2 * V ≤ 2 * (rne V d * 2 ^ d) + 2 ^ d := by
  unfold rne
  have hp : 0 < 2 ^ d := Nat.two_pow_pos d
  have h1 := Nat.div_add_mod V (2 ^ d)
  have h2 := Nat.mod_lt V hp
  rw [Nat.mul_comm] at h1
  generalize 2 ^ d = g at *
  generalize V % g = x at *
  generalize V / g = q at *
  rw [Nat.add_mul]
  generalize q * g = A at *
  by_cases a : g < 2 * x
  · simp [a]; omega
  · by_cases b : g = 2 * x
    · cases hb : (decide (g < 2 * x) || (g == 2 * x && q % 2 == 1)) <;> simp <;> omega
    · have : (decide (g < 2 * x) || (g == 2 * x && q % 2 == 1)) = false := by simp [a, b]
      rw [this]; simp; omega
end Go.Lk

namespace Go.Lk
open Go
/-! ### Finite floats as whole numbers of units of 2 ^ -1074 -/
theorem read_word' (s : Bool) (r : Nat) (h : r < 9218868437227405312) : ∃ m p, Ieee.double.read (Ieee.double.word s r) = .number s m p ∧ -1074 ≤ p ∧ m * 2 ^ (p + 1074).toNat = rv r := by
  have h1 : ∀ b : Bool, ((Ieee.double.word b r / 9223372036854775808 % 2 == 1) = b) ∧ Ieee.double.word b r % 9223372036854775808 = r := by
    intro b
    unfold Ieee.Format.word
    rw [double_sw]
    cases b
    · simp only [Bool.false_eq_true, if_false]
      refine ⟨?_, by omega⟩
      rw [show r / 9223372036854775808 = 0 by omega]; simp
    · simp only [if_true]
      refine ⟨?_, by omega⟩
      rw [show (9223372036854775808 + r) / 9223372036854775808 = 1 by omega]; simp
  have f2 : Ieee.double.leastPlace = -1074 := by decide
  unfold Ieee.Format.read
  rw [double_sw, double_bin, double_inf, (h1 s).2]
  by_cases a : r < 4503599627370496
  · refine ⟨r, -1074, ?_, by omega, ?_⟩
    · simp only [a, if_true, f2]
      have := (h1 s).1
      rw [this]
    · simp [rv, a]
  · refine ⟨4503599627370496 + r % 4503599627370496, -1074 + (r / 4503599627370496 - 1 : Nat), ?_, by omega, ?_⟩
    · simp only [a, h, if_true, if_false, f2]
      have := (h1 s).1
      rw [this]
    · rw [rv, if_neg a]
      congr 2
      omega
/-- The float is finite, of the value v. -/
def FV (x : Nat) (v : Int) : Prop := ∃ s r, x = Ieee.double.word s r ∧ r < 9218868437227405312 ∧ v = (if s then -1 else 1) * (rv r : Int)
theorem FV.read {x : Nat} {v : Int} (h : FV x v) : ∃ s m p, Ieee.double.read x = .number s m p ∧ -1074 ≤ p ∧ Ieee.signed s m (p + 1074).toNat = v := by
  obtain ⟨s, r, rfl, hr, rfl⟩ := h
  obtain ⟨m, p, h1, h2, h3⟩ := read_word' s r hr
  exact ⟨s, m, p, h1, h2, by rw [signed_eq, h3]⟩
theorem cmp_scale (a b : Int) (k : Nat) (hk : 0 < k) : compare (a * k) (b * k) = compare a b := by
  have hk' : (0 : Int) < k := by omega
  rcases Int.lt_trichotomy a b with h | h | h
  · have h2 : a * k < b * k := Int.mul_lt_mul_of_pos_right h hk'
    rw [Int.compare_eq_lt.2 h, Int.compare_eq_lt.2 h2]
  · rw [h]
    rw [Int.compare_eq_eq.2 rfl, Int.compare_eq_eq.2 rfl]
  · have h2 : b * k < a * k := Int.mul_lt_mul_of_pos_right h hk'
    rw [Int.compare_eq_gt.2 h, Int.compare_eq_gt.2 h2]
theorem FV.order {x y : Nat} {v u : Int} (hx : FV x v) (hy : FV y u) : FloatKind.f64.format.order x y = some (compare v u) := by
  obtain ⟨s, m, i, h1, h2, h3⟩ := hx.read
  obtain ⟨t, n, j, k1, k2, k3⟩ := hy.read
  show (Ieee.double.read x).order (Ieee.double.read y) = _
  rw [h1, k1]
  simp only [Ieee.Datum.order]
  obtain ⟨b, hbd⟩ : ∃ b, b = min i j := ⟨_, rfl⟩
  have hb1 : b ≤ i ∧ b ≤ j ∧ -1074 ≤ b := by omega
  rw [show (i + 1074).toNat = (i - b).toNat + (b + 1074).toNat by omega, signed_scale] at h3
  rw [show (j + 1074).toNat = (j - b).toNat + (b + 1074).toNat by omega, signed_scale] at k3
  rw [← hbd, ← h3, ← k3, cmp_scale _ _ _ (Nat.two_pow_pos _)]
/-- A number written: of the value v, exactly, in units. -/
theorem write_val {s : Bool} {m : Nat} {p v : Int} (c : Nat) (hc : c = 1074) (hp : -1074 ≤ p) (h : Ieee.signed s m (p + 1074).toNat = v) (hv : v ≠ 0) : Ieee.double.nearest s m p = Ieee.double.word (decide (v < 0)) (min (rR c v.natAbs) 9218868437227405312) := by
  have hm : m ≠ 0 := fun h0 => by
    rw [h0, signed_eq] at h
    simp at h
    exact hv h.symm
  have h2 : 0 < m * 2 ^ (p + 1074).toNat := Nat.mul_pos (by omega) (Nat.two_pow_pos _)
  rw [signed_eq] at h
  obtain ⟨A, hA⟩ : ∃ A, A = m * 2 ^ (p + 1074).toNat := ⟨_, rfl⟩
  rw [← hA] at h h2
  have hs : s = decide (v < 0) := by
    cases s
    · simp at h ⊢; omega
    · simp at h ⊢; omega
  have habs : A = v.natAbs := by cases s <;> simp at h <;> omega
  rw [nearest_val s m p hm (by omega), hs]
  unfold rR
  rw [← habs, hA, Nat.mul_assoc, ← Nat.pow_add, show (p + 2148).toNat = (p + 1074).toNat + c by omega]
theorem fv_zero (s : Bool) : FV (Ieee.double.word s 0) 0 := ⟨s, 0, rfl, by decide, by simp [rv]⟩
/-- A sum of finite floats: the value's nearest word. -/
theorem fv_sum {s t : Bool} {m n : Nat} {i j v u : Int} (c : Nat) (hc : c = 1074) (hi : -1074 ≤ i) (hj : -1074 ≤ j) (hx : Ieee.signed s m (i + 1074).toNat = v) (hy : Ieee.signed t n (j + 1074).toNat = u) :
    ∃ r, (Ieee.Datum.sum (.number s m i) (.number t n j)).map Ieee.double.write = some r ∧ (v + u = 0 → FV r 0) ∧ (v + u ≠ 0 → r = Ieee.double.word (decide (v + u < 0)) (min (rR c (v + u).natAbs) 9218868437227405312)) := by
  obtain ⟨b, hbd⟩ : ∃ b, b = min i j := ⟨_, rfl⟩
  have hb1 : b ≤ i ∧ b ≤ j ∧ -1074 ≤ b := by omega
  rw [show (i + 1074).toNat = (i - b).toNat + (b + 1074).toNat by omega, signed_scale] at hx
  rw [show (j + 1074).toNat = (j - b).toNat + (b + 1074).toNat by omega, signed_scale] at hy
  simp only [Ieee.Datum.sum, ← hbd, Option.map_some]
  obtain ⟨T, hT⟩ : ∃ T, T = Ieee.signed s m (i - b).toNat + Ieee.signed t n (j - b).toNat := ⟨_, rfl⟩
  rw [← hT]
  have hTe : T * ((2 ^ (b + 1074).toNat : Nat) : Int) = v + u := by rw [hT, Int.add_mul, hx, hy]
  have hp : ((2 ^ (b + 1074).toNat : Nat) : Int) ≠ 0 := by have := Nat.two_pow_pos (b + 1074).toNat; omega
  refine ⟨_, rfl, fun h0 => ?_, fun h0 => ?_⟩
  · have hT0 : T = 0 := by
      rw [h0] at hTe
      rcases Int.mul_eq_zero.1 hTe with h | h
      · exact h
      · exact absurd h hp
    show FV (Ieee.double.nearest _ T.natAbs b) 0
    rw [hT0]
    exact fv_zero _
  · have hT0 : T ≠ 0 := fun h => h0 (by rw [← hTe, h, Int.zero_mul])
    show Ieee.double.nearest _ T.natAbs b = _
    refine write_val c hc hb1.2.2 ?_ h0
    rw [if_neg hT0, ← hTe, signed_eq, Int.natCast_mul, ← Int.mul_assoc]
    congr 1
    by_cases hn : T < 0
    · simp [hn]; omega
    · simp [hn]; omega
/-- A product of finite floats: in units of 2 ^ -2148 its value is the product of the values. -/
theorem fv_mul {x y : Nat} {v u : Int} (hx : FV x v) (hy : FV y u) : ∃ r, floatBits .mul .f64 x y = some r ∧ (v * u = 0 → FV r 0) ∧ (v * u ≠ 0 → r = Ieee.double.word (decide (v * u < 0)) (min (rungU (v.natAbs * u.natAbs)) 9218868437227405312)) := by
  obtain ⟨s, m, i, h1, h2, h3⟩ := hx.read
  obtain ⟨t, n, j, k1, k2, k3⟩ := hy.read
  rw [signed_eq] at h3 k3
  obtain ⟨A, hA⟩ : ∃ A, A = m * 2 ^ (i + 1074).toNat := ⟨_, rfl⟩
  obtain ⟨B, hB⟩ : ∃ B, B = n * 2 ^ (j + 1074).toNat := ⟨_, rfl⟩
  rw [← hA] at h3
  rw [← hB] at k3
  have ha : A = v.natAbs := by cases s <;> simp at h3 <;> omega
  have hb : B = u.natAbs := by cases t <;> simp at k3 <;> omega
  refine ⟨Ieee.double.nearest (s ^^ t) (m * n) (i + j), ?_, fun h0 => ?_, fun h0 => ?_⟩
  · show (Ieee.Datum.product (Ieee.double.read x) (Ieee.double.read y)).map Ieee.double.write = _
    rw [h1, k1]; rfl
  · have hz : m * n = 0 := by
      have hp1 := Nat.two_pow_pos (i + 1074).toNat
      have hp2 := Nat.two_pow_pos (j + 1074).toNat
      rcases Int.mul_eq_zero.1 h0 with h5 | h5
      · have : A = 0 := by omega
        rw [this] at hA
        rcases Nat.mul_eq_zero.1 hA.symm with h6 | h6
        · rw [h6, Nat.zero_mul]
        · omega
      · have : B = 0 := by omega
        rw [this] at hB
        rcases Nat.mul_eq_zero.1 hB.symm with h6 | h6
        · rw [h6, Nat.mul_zero]
        · omega
    rw [hz]
    exact fv_zero _
  · have hv : v ≠ 0 := fun h => h0 (by rw [h, Int.zero_mul])
    have hu : u ≠ 0 := fun h => h0 (by rw [h, Int.mul_zero])
    have hm : m ≠ 0 := fun h => by rw [h, Nat.zero_mul] at hA; omega
    have hn : n ≠ 0 := fun h => by rw [h, Nat.zero_mul] at hB; omega
    rw [nearest_val _ _ _ (Nat.mul_ne_zero hm hn) (by omega)]
    have e1 : m * n * 2 ^ (i + j + 2148).toNat = v.natAbs * u.natAbs := by
      rw [← ha, ← hb, hA, hB, show (i + j + 2148).toNat = (i + 1074).toNat + (j + 1074).toNat by omega, Nat.pow_add, Nat.mul_mul_mul_comm]
    rw [e1]
    congr 1
    have hs : s = decide (v < 0) := by cases s <;> simp at h3 ⊢ <;> omega
    have ht : t = decide (u < 0) := by cases t <;> simp at k3 ⊢ <;> omega
    rw [hs, ht]
    rcases Int.lt_or_gt_of_ne hv with a | a <;> rcases Int.lt_or_gt_of_ne hu with b | b
    · have := Int.mul_pos_of_neg_of_neg a b; simp [a, b]; omega
    · have := Int.mul_neg_of_neg_of_pos a b; simp [a, show ¬ u < 0 by omega, this]
    · have := Int.mul_neg_of_pos_of_neg a b; simp [b, show ¬ v < 0 by omega, this]
    · have := Int.mul_pos a b; simp [show ¬ v < 0 by omega, show ¬ u < 0 by omega]; omega
end Go.Lk

namespace Go.Lk
open Go
/-- How far a rounding goes: a 2 ^ 53rd part at most. -/
theorem rR_err (c T : Nat) (hc : c = 1074) (hT : T ≠ 0) : 9007199254740992 * rv (rR c T) ≤ 9007199254740992 * T + T ∧ 9007199254740992 * T ≤ 9007199254740992 * rv (rR c T) + T := by
  obtain ⟨C, hC⟩ : ∃ C, C = 2 ^ c := ⟨_, rfl⟩
  have hC0 : 0 < C := by rw [hC]; exact Nat.two_pow_pos c
  have hV : T * 2 ^ c ≠ 0 := Nat.mul_ne_zero hT (by omega)
  have h1 := rv_rungU (T * 2 ^ c) hV
  have h2 := rne_err (T * 2 ^ c) (lastU (T * 2 ^ c))
  have h3 : rungU (T * 2 ^ c) = rR c T := rfl
  rw [h3] at h1
  have h4 : rv (rR c T) * C = rne (T * 2 ^ c) (lastU (T * 2 ^ c)) * 2 ^ lastU (T * 2 ^ c) := by rw [hC, hc] at *; exact h1
  rw [← h4] at h2
  by_cases hl : lastU (T * 2 ^ c) = c
  · have h5 : rne (T * 2 ^ c) (lastU (T * 2 ^ c)) = T := by rw [hl, rne_exact]
    rw [h5, hl, ← hC] at h4
    have : rv (rR c T) = T := Nat.eq_of_mul_eq_mul_right hC0 h4
    omega
  · have h6 : 2 ^ lastU (T * 2 ^ c) * 4503599627370496 ≤ T * C := by
      have h7 := ((Nat.log2_eq_iff hV).1 rfl).1
      have h8 : 2 ^ (lastU (T * 2 ^ c) + 52) ≤ 2 ^ (T * 2 ^ c).log2 := Nat.pow_le_pow_right (by decide) (by unfold lastU at hl ⊢; omega)
      rw [Nat.pow_add, pow52] at h8
      rw [hC]; omega
    have e1 : T * 2 ^ c = T * C := by rw [hC]
    obtain ⟨g, hg⟩ : ∃ g, g = 2 ^ lastU (T * 2 ^ c) := ⟨_, rfl⟩
    rw [← hg] at h2 h6
    obtain ⟨b, hb⟩ : ∃ b, b = T * C := ⟨_, rfl⟩
    rw [e1, ← hb] at h2
    rw [← hb] at h6
    obtain ⟨a, ha⟩ : ∃ a, a = rv (rR c T) * C := ⟨_, rfl⟩
    rw [← ha] at h2
    clear h1 h3 h4 hl hg
    refine ⟨Nat.le_of_mul_le_mul_right (c := C) ?_ hC0, Nat.le_of_mul_le_mul_right (c := C) ?_ hC0⟩
    · rw [Nat.add_mul, Nat.mul_assoc, Nat.mul_assoc, ← ha, ← hb]
      omega
    · rw [Nat.add_mul, Nat.mul_assoc, Nat.mul_assoc, ← ha, ← hb]
      omega
end Go.Lk

namespace Go.Lk
open Go
/-! ### Rounding with signs -/
def rd (c : Nat) (T : Int) : Int := if T = 0 then 0 else (if T < 0 then -1 else 1) * (rv (rR c T.natAbs) : Int)
theorem rd_zero (c : Nat) : rd c 0 = 0 := by simp [rd]
theorem rd_pos {c : Nat} {T : Int} (h : 0 < T) : rd c T = (rv (rR c T.natAbs) : Int) := by
  unfold rd; rw [if_neg (by omega), if_neg (by omega)]; simp
theorem rd_neg {c : Nat} {T : Int} (h : T < 0) : rd c T = -(rv (rR c T.natAbs) : Int) := by
  unfold rd; rw [if_neg (by omega), if_pos h]; simp
theorem rd_mono {c : Nat} {T S : Int} (h : T ≤ S) : rd c T ≤ rd c S := by
  rcases Int.lt_trichotomy T 0 with a | a | a <;> rcases Int.lt_trichotomy S 0 with b | b | b
  · rw [rd_neg a, rd_neg b]
    have h1 := rv_le.2 (rR_mono (c := c) (T := S.natAbs) (S := T.natAbs) (by omega) (by omega))
    omega
  · rw [rd_neg a, b, rd_zero]; omega
  · rw [rd_neg a, rd_pos b]; omega
  · omega
  · rw [a, b]; exact Int.le_refl _
  · rw [a, rd_zero, rd_pos b]; omega
  · omega
  · omega
  · rw [rd_pos a, rd_pos b]
    have h1 := rv_le.2 (rR_mono (c := c) (T := T.natAbs) (S := S.natAbs) (by omega) (by omega))
    omega
theorem rd_err (c : Nat) (hc : c = 1074) (T : Int) : 9007199254740992 * (rd c T - T).natAbs ≤ T.natAbs := by
  rcases Int.lt_trichotomy T 0 with a | a | a
  · have := rR_err c T.natAbs hc (by omega)
    rw [rd_neg a]; omega
  · rw [a, rd_zero]; decide
  · have := rR_err c T.natAbs hc (by omega)
    rw [rd_pos a]; omega
end Go.Lk

namespace Go.Lk
open Go
/-- The greatest finite rung's value bounds what does not run over. -/
theorem rR_lt {c T : Nat} (hc : c = 1074) (h : T ≤ rv 9218868437227405311) (hT : T ≠ 0) : rR c T < 9218868437227405312 := by
  have h1 := rR_mono (c := c) hT h
  rw [rR_rv c _ hc (by decide)] at h1
  omega
theorem fv_word {c : Nat} {T : Int} (hc : c = 1074) (hT : T ≠ 0) (hb : T.natAbs ≤ rv 9218868437227405311) : FV (Ieee.double.word (decide (T < 0)) (min (rR c T.natAbs) 9218868437227405312)) (rd c T) := by
  have h1 := rR_lt hc hb (by omega)
  rw [Nat.min_eq_left (by omega)]
  refine ⟨_, _, rfl, h1, ?_⟩
  unfold rd
  rw [if_neg hT]
  by_cases h : T < 0 <;> simp [h]
theorem fv_add {x y : Nat} {v u : Int} (c : Nat) (hc : c = 1074) (hx : FV x v) (hy : FV y u) (hb : (v + u).natAbs ≤ rv 9218868437227405311) : ∃ r, floatBits .add .f64 x y = some r ∧ FV r (rd c (v + u)) := by
  obtain ⟨s, m, i, h1, h2, h3⟩ := hx.read
  obtain ⟨t, n, j, k1, k2, k3⟩ := hy.read
  obtain ⟨r, hr, h0, h0'⟩ := fv_sum c hc h2 k2 h3 k3
  refine ⟨r, ?_, ?_⟩
  · show (Ieee.Datum.sum (Ieee.double.read x) (Ieee.double.read y)).map Ieee.double.write = some r
    rw [h1, k1]; exact hr
  · by_cases hz : v + u = 0
    · rw [hz, rd_zero]; exact h0 hz
    · rw [h0' hz]; exact fv_word hc hz hb
theorem fv_sub {x y : Nat} {v u : Int} (c : Nat) (hc : c = 1074) (hx : FV x v) (hy : FV y u) (hb : (v - u).natAbs ≤ rv 9218868437227405311) : ∃ r, floatBits .sub .f64 x y = some r ∧ FV r (rd c (v - u)) := by
  obtain ⟨s, m, i, h1, h2, h3⟩ := hx.read
  obtain ⟨t, n, j, k1, k2, k3⟩ := hy.read
  have k4 : Ieee.signed (!t) n (j + 1074).toNat = -u := by rw [signed_not, k3]
  obtain ⟨r, hr, h0, h0'⟩ := fv_sum c hc h2 k2 h3 k4
  refine ⟨r, ?_, ?_⟩
  · show (Ieee.Datum.sum (Ieee.double.read x) (Ieee.double.read y).opposite).map Ieee.double.write = some r
    rw [h1, k1]; exact hr
  · rw [← Int.sub_eq_add_neg] at h0 h0'
    by_cases hz : v - u = 0
    · rw [hz, rd_zero]; exact h0 hz
    · rw [h0' hz]; exact fv_word hc hz hb
end Go.Lk

namespace Go.Lk
open Go
/-- Any word of 64 bits: finite, infinite, or none. -/
theorem classify {x : Nat} (h : x < 18446744073709551616) : (∃ v, FV x v) ∨ (∃ s, Ieee.double.read x = .infinity s) ∨ isnan x = true := by
  obtain ⟨s, r, hx, hr⟩ : ∃ s r, x = Ieee.double.word s r ∧ r < 9223372036854775808 := by
    by_cases h1 : x < 9223372036854775808
    · exact ⟨false, x, by simp [Ieee.Format.word], h1⟩
    · exact ⟨true, x - 9223372036854775808, by simp [Ieee.Format.word, double_sw]; omega, by omega⟩
  by_cases h2 : r < 9218868437227405312
  · exact .inl ⟨_, s, r, hx, h2, rfl⟩
  · right
    by_cases h3 : r = 9218868437227405312
    · left
      subst h3
      refine ⟨s, ?_⟩
      rw [hx]
      cases s <;> decide +kernel
    · right
      refine isnan_of_rung ?_
      rw [hx]
      unfold Ieee.Format.word
      rw [double_sw]
      cases s <;> simp <;> omega
end Go.Lk

namespace Go.Lk
open Go
/-! ### One step of a smoothing -/
theorem rd_fv {c : Nat} (hc : c = 1074) {x : Nat} {v : Int} (h : FV x v) : rd c v = v := by
  obtain ⟨s, r, rfl, hr, rfl⟩ := h
  by_cases h0 : r = 0
  · subst h0; simp [rv, rd]
  · have h1 : rv r ≠ 0 := fun h => h0 (rv_zero.1 h)
    cases s
    · simp only [Bool.false_eq_true, if_false, Int.one_mul]
      rw [rd_pos (by omega), Int.natAbs_natCast, rR_rv c r hc h0]
    · simp only [if_true]
      rw [rd_neg (by omega), Int.natAbs_mul, Int.natAbs_natCast]
      simp [rR_rv c r hc h0]
/-- The step, by whole numbers: the level behind it lies between the one before and a neighbour of the input. -/
theorem step_drift (c : Nat) (hc : c = 1074) (T E : Nat) (L x p : Int) (hL : rd c L = L) (hx : x.natAbs ≤ T) (hLT : L.natAbs ≤ T + 200 * E) (hE : E = T / 2251799813685248)
    (hp : (0 ≤ p ∧ p ≤ rd c (x - L)) ∨ (rd c (x - L) ≤ p ∧ p ≤ 0)) :
    (L ≤ rd c (L + p) ∧ rd c (L + p) ≤ x + E) ∨ (x - E ≤ rd c (L + p) ∧ rd c (L + p) ≤ L) := by
  obtain ⟨d, hd⟩ : ∃ d, d = rd c (x - L) := ⟨_, rfl⟩
  rw [← hd] at hp
  have e1 := rd_err c hc (x - L)
  rw [← hd] at e1
  have e2 := rd_err c hc (L + d)
  have key : (rd c (L + d) - x).natAbs ≤ E := by omega
  rcases hp with ⟨h1, h2⟩ | ⟨h1, h2⟩
  · left
    have a1 : rd c L ≤ rd c (L + p) := rd_mono (by omega)
    have a2 : rd c (L + p) ≤ rd c (L + d) := rd_mono (by omega)
    omega
  · right
    have a1 : rd c (L + d) ≤ rd c (L + p) := rd_mono (by omega)
    have a2 : rd c (L + p) ≤ rd c L := rd_mono (by omega)
    omega
/-- A share of a float lies between nought and the float. -/
theorem fv_share (c : Nat) (hc : c = 1074) {x y : Nat} {S D : Int} (hx : FV x S) (hy : FV y D) (h0 : 0 ≤ S) (h1 : S ≤ ((2 ^ c : Nat) : Int)) (hD : D.natAbs ≤ rv 9218868437227405311) :
    ∃ r P, floatBits .mul .f64 x y = some r ∧ FV r P ∧ ((0 ≤ P ∧ P ≤ D) ∨ (D ≤ P ∧ P ≤ 0)) := by
  obtain ⟨r, hr, hz, hn⟩ := fv_mul hx hy
  by_cases h : S * D = 0
  · exact ⟨r, 0, hr, hz h, by omega⟩
  · have hS : S ≠ 0 := fun h2 => h (by rw [h2, Int.zero_mul])
    have hD0 : D ≠ 0 := fun h2 => h (by rw [h2, Int.mul_zero])
    have hle : S.natAbs * D.natAbs ≤ D.natAbs * 2 ^ c := by
      rw [Nat.mul_comm]
      exact Nat.mul_le_mul_left _ (by omega)
    have hm : S.natAbs * D.natAbs ≠ 0 := Nat.mul_ne_zero (by omega) (by omega)
    have h2 : rungU (S.natAbs * D.natAbs) ≤ rR c D.natAbs := rungU_mono hm hle
    have h3 := rR_lt hc hD (by omega)
    have h4 := rd_fv hc hy
    have h5 := rv_le.2 h2
    have h6 := hn h
    rw [Nat.min_eq_left (by omega)] at h6
    refine ⟨r, (if decide (S * D < 0) = true then -1 else 1) * (rv (rungU (S.natAbs * D.natAbs)) : Int), hr, ⟨_, _, h6, by omega, rfl⟩, ?_⟩
    rcases Int.lt_or_gt_of_ne hD0 with a | a
    · right
      have b : S * D < 0 := Int.mul_neg_of_pos_of_neg (by omega) a
      rw [rd_neg a] at h4
      simp only [b, decide_true, if_true]
      omega
    · left
      have b : ¬ S * D < 0 := by have := Int.mul_pos (show 0 < S by omega) a; omega
      rw [rd_pos a] at h4
      simp only [b, decide_false, Bool.false_eq_true, if_false]
      omega
end Go.Lk

namespace Go.Lk
open Go
/-! ### Values of some floats -/
theorem rv_norm {r m e : Nat} (h : r = (e + 1) * 4503599627370496 + m) (hm : m < 4503599627370496) : rv r = (4503599627370496 + m) * 2 ^ e := by
  unfold rv
  rw [if_neg (by omega), show r % 4503599627370496 = m by omega, show r / 4503599627370496 - 1 = e by omega]
theorem two52 : (2 : Nat) ^ 52 = 4503599627370496 := by decide
theorem FV.nat {r : Nat} (h : r < 9218868437227405312) : FV r (rv r : Int) := ⟨false, r, by simp [Ieee.Format.word], h, by simp⟩
theorem fv_0 : FV 0 0 := FV.nat (r := 0) (by decide)
theorem rv_one (c : Nat) (hc : c = 1074) : rv 4607182418800017408 = 2 ^ c := by
  obtain ⟨e, he⟩ : ∃ e, e = 1022 := ⟨_, rfl⟩
  rw [rv_norm (m := 0) (e := e) (by omega) (by decide), Nat.add_zero, ← two52, ← Nat.pow_add]
  congr 1; omega
theorem fv_one (c : Nat) (hc : c = 1074) : FV 4607182418800017408 ((2 ^ c : Nat) : Int) := by
  rw [← rv_one c hc]; exact FV.nat (by decide)
theorem rv_eps (e : Nat) (he : e = 1024) : rv 4382002437431492608 = 2 ^ e := by
  obtain ⟨f, hf⟩ : ∃ f, f = 972 := ⟨_, rfl⟩
  rw [rv_norm (m := 0) (e := f) (by omega) (by decide), Nat.add_zero, ← two52, ← Nat.pow_add]
  congr 1; omega
theorem fv_eps (e : Nat) (he : e = 1024) : FV 4382002437431492608 ((2 ^ e : Nat) : Int) := by
  rw [← rv_eps e he]; exact FV.nat (by decide)
/-- 2 ^ 900, in units -/
def Bd : Nat := rv 8660422083433463808
/-- the greatest finite float, in units -/
def Gr : Nat := rv 9218868437227405311
theorem fv_bd : FV 8660422083433463808 (Bd : Int) := FV.nat (by decide)
theorem Bd_pos : 0 < Bd := Nat.pos_of_ne_zero fun h => absurd (rv_zero.1 h) (by decide)
theorem Bd_gr : 1048576 * Bd ≤ Gr := by
  obtain ⟨e, he⟩ : ∃ e, e = 1922 := ⟨_, rfl⟩
  obtain ⟨f, hf⟩ : ∃ f, f = 2045 := ⟨_, rfl⟩
  unfold Bd Gr
  rw [rv_norm (r := 8660422083433463808) (m := 0) (e := e) (by omega) (by decide), rv_norm (r := 9218868437227405311) (m := 4503599627370495) (e := f) (by omega) (by decide)]
  have h1 : 2 ^ (e + 20) ≤ 2 ^ f := Nat.pow_le_pow_right (by decide) (by omega)
  rw [Nat.pow_add, show (2 : Nat) ^ 20 = 1048576 by decide] at h1
  omega
theorem FV.neq {x y : Nat} {v u : Int} (hx : FV x v) (hy : FV y u) : FloatKind.f64.format.order x y ≠ none := by rw [hx.order hy]; simp
theorem FV.leq {x y : Nat} {v u : Int} (hx : FV x v) (hy : FV y u) : (FloatKind.f64.format.order x y == some .lt || FloatKind.f64.format.order x y == some .eq) = decide (v ≤ u) := by
  rw [hx.order hy]
  rcases Int.lt_trichotomy v u with h | h | h
  · rw [Int.compare_eq_lt.2 h]; simp; omega
  · rw [Int.compare_eq_eq.2 h]; simp; omega
  · rw [Int.compare_eq_gt.2 h]; simp; omega
theorem FV.geq {x y : Nat} {v u : Int} (hx : FV x v) (hy : FV y u) : (FloatKind.f64.format.order x y == some .gt || FloatKind.f64.format.order x y == some .eq) = decide (u ≤ v) := by
  rw [hx.order hy]
  rcases Int.lt_trichotomy v u with h | h | h
  · rw [Int.compare_eq_lt.2 h]; simp; omega
  · rw [Int.compare_eq_eq.2 h]; simp; omega
  · rw [Int.compare_eq_gt.2 h]; simp; omega
theorem FV.eql {x y : Nat} {v u : Int} (hx : FV x v) (hy : FV y u) : (FloatKind.f64.format.order x y == some .eq) = decide (v = u) := by
  rw [hx.order hy]
  rcases Int.lt_trichotomy v u with h | h | h
  · rw [Int.compare_eq_lt.2 h]; simp; omega
  · rw [Int.compare_eq_eq.2 h]; simp; omega
  · rw [Int.compare_eq_gt.2 h]; simp; omega
theorem FV.max {x y : Nat} {v u : Int} (hx : FV x v) (hy : FV y u) : FV (fmax x y) (max v u) := by
  unfold fmax
  rw [hx.order hy]
  rcases Int.lt_trichotomy v u with h | h | h
  · rw [Int.compare_eq_lt.2 h, show Max.max v u = u by omega]; exact hy
  · rw [Int.compare_eq_eq.2 h, show Max.max v u = u by omega]
    dsimp only
    split
    · exact hy
    · rw [← h]; exact hx
  · rw [Int.compare_eq_gt.2 h, show Max.max v u = v by omega]; exact hx
theorem FV.min {x y : Nat} {v u : Int} (hx : FV x v) (hy : FV y u) : FV (fmin x y) (min v u) := by
  unfold fmin
  rw [hx.order hy]
  rcases Int.lt_trichotomy v u with h | h | h
  · rw [Int.compare_eq_lt.2 h, show Min.min v u = v by omega]; exact hx
  · rw [Int.compare_eq_eq.2 h, show Min.min v u = u by omega]
    dsimp only
    split
    · rw [← h]; exact hx
    · exact hy
  · rw [Int.compare_eq_gt.2 h, show Min.min v u = u by omega]; exact hy
theorem FV.num {x : Nat} {v : Int} (h : FV x v) : isnan x = false := by
  obtain ⟨s, m, p, h1, _, _⟩ := h.read
  show (Ieee.double.read x).isNaN = false
  rw [h1]; rfl
theorem FV.fin {x : Nat} {v : Int} (h : FV x v) : v.natAbs ≤ Gr := by
  obtain ⟨s, r, _, h2, h3⟩ := h
  have := rv_le.2 (show r ≤ 9218868437227405311 by omega)
  have : v.natAbs = rv r := by rw [h3]; cases s <;> simp
  unfold Gr; omega
theorem FV.lt64 {x : Nat} {v : Int} (h : FV x v) : x < 18446744073709551616 := by
  obtain ⟨s, r, rfl, hr, _⟩ := h
  unfold Ieee.Format.word
  rw [double_sw]
  split <;> omega
theorem FV.abs {x : Nat} {v : Int} (h : FV x v) : FV (x % 9223372036854775808) (v.natAbs : Int) := by
  obtain ⟨s, r, rfl, hr, rfl⟩ := h
  refine ⟨false, r, ?_, hr, ?_⟩
  · unfold Ieee.Format.word
    rw [double_sw]
    cases s <;> simp <;> omega
  · cases s <;> simp
theorem FV.cn {x y : Nat} {v : Int} (h : FV y v) (he : cn x = y) : FV x v := by
  cases hx : isnan x with
  | true =>
    have h1 := isnan_cn x
    rw [he, h.num, hx] at h1
    cases h1
  | false => rw [cn_num hx] at he; rw [he]; exact h
theorem FV.fop {op : BinOp} {x y r : Nat} {v : Int} (hr : floatBits op .f64 x y = some r) (h : FV r v) : FV (fop op x y) v := by
  unfold Lk.fop; rw [hr]; exact h
theorem FV.fs {op : BinOp} {x y r z : Nat} {v : Int} (hr : floatBits op .f64 x y = some r) (h : FV r v) (hz : Fs op x y z) : FV z v := by
  rcases hz with hz | ⟨hz, _⟩
  · rw [hr] at hz; cases hz; exact h
  · rw [hr] at hz; cases hz
/-- A word whose size is at most 2 ^ 900 is finite. -/
theorem fv_of_abs {x : Nat} (hx : x < 18446744073709551616) (h : (FloatKind.f64.format.order (x % 9223372036854775808) 8660422083433463808 == some .lt || FloatKind.f64.format.order (x % 9223372036854775808) 8660422083433463808 == some .eq) = true) : ∃ v, FV x v ∧ v.natAbs ≤ Bd := by
  rcases classify hx with ⟨v, hv⟩ | ⟨s, hs⟩ | hn
  · rw [hv.abs.leq fv_bd] at h
    have := of_decide_eq_true h
    exact ⟨v, hv, by omega⟩
  · exfalso
    have hq : x = 9218868437227405312 ∨ x = 18442240474082181120 := by
      unfold Ieee.Format.read at hs
      rw [double_sw, double_bin, double_inf] at hs
      by_cases a : x % 9223372036854775808 < 4503599627370496
      · simp [a] at hs
      · by_cases b : x % 9223372036854775808 < 9218868437227405312
        · simp [a, b] at hs
        · by_cases d : x % 9223372036854775808 = 9218868437227405312
          · omega
          · simp [a, b, d] at hs
    have hm : x % 9223372036854775808 = 9218868437227405312 := by omega
    rw [hm] at h
    revert h; decide +kernel
  · exfalso
    have h1 : isnan (x % 9223372036854775808) = true := by
      refine isnan_of_rung ?_
      obtain ⟨s, f, hs⟩ := nan_read hn
      have hq : 9218868437227405312 < x % 9223372036854775808 := by
        unfold Ieee.Format.read at hs
        rw [double_sw, double_bin, double_inf] at hs
        by_cases a : x % 9223372036854775808 < 4503599627370496
        · simp [a] at hs
        · by_cases b : x % 9223372036854775808 < 9218868437227405312
          · simp [a, b] at hs
          · by_cases d : x % 9223372036854775808 = 9218868437227405312
            · simp [a, b, d] at hs
            · omega
      omega
    rw [order_nanL h1] at h
    revert h; decide
/-- Shares that a map takes. -/
theorem fv_of_share {x c : Nat} (hc : c = 1074) (hx : x < 18446744073709551616) (h : ((FloatKind.f64.format.order x 0 == some .gt || FloatKind.f64.format.order x 0 == some .eq) && (FloatKind.f64.format.order x 4607182418800017408 == some .lt || FloatKind.f64.format.order x 4607182418800017408 == some .eq)) = true) : ∃ S, FV x S ∧ 0 ≤ S ∧ S ≤ ((2 ^ c : Nat) : Int) := by
  rw [Bool.and_eq_true] at h
  rcases classify hx with ⟨v, hv⟩ | ⟨s, hs⟩ | hn
  · rw [hv.geq fv_0, hv.leq (fv_one c hc)] at h
    exact ⟨v, hv, of_decide_eq_true h.1, of_decide_eq_true h.2⟩
  · exfalso
    have hq : x = 9218868437227405312 ∨ x = 18442240474082181120 := by
      unfold Ieee.Format.read at hs
      rw [double_sw, double_bin, double_inf] at hs
      by_cases a : x % 9223372036854775808 < 4503599627370496
      · simp [a] at hs
      · by_cases b : x % 9223372036854775808 < 9218868437227405312
        · simp [a, b] at hs
        · by_cases d : x % 9223372036854775808 = 9218868437227405312
          · omega
          · simp [a, b, d] at hs
    rcases hq with rfl | rfl <;> (revert h; decide +kernel)
  · exfalso
    rw [order_nanL hn] at h
    exact absurd h.1 (by decide)
theorem Rep.fv {x : Nat} {v : Int} (h : Rep x v) (c : Nat) (hc : c = 1074) (hx : x < 18446744073709551616) : FV x (v * ((2 ^ c : Nat) : Int)) := by
  obtain ⟨s, m, p, h1, h2, _, h3⟩ := h.read c hc
  rcases classify hx with ⟨u, hu⟩ | ⟨s', hs⟩ | hn
  · obtain ⟨t, n, q, k1, k2, k3⟩ := hu.read
    rw [h1] at k1
    cases k1
    rw [h3] at k3
    rw [k3]; exact hu
  · rw [h1] at hs; cases hs
  · obtain ⟨s', f, hs⟩ := nan_read hn
    rw [h1] at hs; cases hs
theorem fv_small {n c : Nat} (hc : c = 1074) (hn : n ≤ 200) : FV (FloatKind.f64.nearest (n : Int)) ((n * 2 ^ c : Nat) : Int) := by
  have h1 := Rep.fv (rep_nearest (n : Int) (by omega)) c hc (by
    have : ∀ n < 201, FloatKind.f64.nearest ((n : Nat) : Int) < 18446744073709551616 := by decide +kernel
    exact this n (by omega))
  rw [Int.natCast_mul]; exact h1
end Go.Lk

namespace Go.Lk
open Go
/-! ### The steps of a smoothing, and its slack -/
theorem FV.unique {x : Nat} {v u : Int} (h : FV x v) (k : FV x u) : v = u := by
  have h1 := h.order k
  rw [h.order h] at h1
  rw [Int.compare_eq_eq.2 rfl] at h1
  injection h1 with h1
  exact Int.compare_eq_eq.1 h1.symm
/-- The slack behind n rounds is at least n parts. -/
theorem fv_slack {n T y : Nat} (hn : 1 ≤ n) (hn2 : n ≤ 200) (hy : FV y (T : Int)) (hT : T ≤ Bd) :
    ∃ a r, ∃ O : Nat, floatBits .mul .f64 4382002437431492608 y = some a ∧ floatBits .mul .f64 (FloatKind.f64.nearest (n : Int)) a = some r ∧ FV r (O : Int) ∧ n * (T / 2251799813685248) ≤ O ∧ O ≤ 1024 * Bd := by
  obtain ⟨c, hc⟩ : ∃ c, c = 1074 := ⟨_, rfl⟩
  obtain ⟨e, he⟩ : ∃ e, e = 1024 := ⟨_, rfl⟩
  obtain ⟨E, hE⟩ : ∃ E, E = T / 2251799813685248 := ⟨_, rfl⟩
  have hG := Bd_gr
  have hce : 2 ^ c = 1125899906842624 * 2 ^ e := by
    rw [show c = 50 + e by omega, Nat.pow_add]
  have hp0 : 0 < 2 ^ e := Nat.two_pow_pos e
  rw [← hE]
  obtain ⟨a, ha, ha0, ha1⟩ := fv_mul (fv_eps e he) hy
  obtain ⟨K, hK, hK1, hK2⟩ : ∃ K : Nat, FV a (K : Int) ∧ 9007199254740992 * (2 * E) ≤ 9007199254740992 * K + 2 * E ∧ K ≤ 2 * Bd := by
    by_cases h0 : T = 0
    · refine ⟨0, ha0 (by rw [h0]; simp), ?_, by omega⟩
      have : E = 0 := by rw [hE, h0]
      omega
    · have hV : 2 ^ e * T ≠ 0 := Nat.mul_ne_zero (by omega) h0
      have hle : 2 ^ e * T ≤ T * 2 ^ c := by
        rw [Nat.mul_comm]; exact Nat.mul_le_mul_left _ (by rw [hce]; omega)
      have h2 : rungU (2 ^ e * T) ≤ rR c T := rungU_mono hV hle
      have h3 := rR_lt (c := c) (T := T) hc (by unfold Gr at hG; omega) h0
      have h5 := rv_le.2 h2
      have h6 := rR_err c T hc h0
      have hVi : ((2 ^ e : Nat) : Int) * (T : Int) = ((2 ^ e * T : Nat) : Int) := (Int.natCast_mul ..).symm
      have h7 := ha1 (by rw [hVi]; omega)
      rw [hVi, Int.natAbs_natCast, Int.natAbs_natCast, Nat.min_eq_left (by omega)] at h7
      refine ⟨rv (rungU (2 ^ e * T)), ?_, ?_, by omega⟩
      · rw [h7, decide_eq_false (Int.not_lt.2 (Int.natCast_nonneg _))]
        exact ⟨false, _, rfl, by omega, by simp⟩
      · by_cases hE0 : E = 0
        · rw [hE0]; omega
        · have hle2 : 2 * E * 2 ^ c ≤ 2 ^ e * T := by
            rw [hce, ← Nat.mul_assoc, Nat.mul_comm]
            exact Nat.mul_le_mul_left _ (by omega)
          have h8 : rR c (2 * E) ≤ rungU (2 ^ e * T) := rungU_mono (Nat.mul_ne_zero (by omega) (by have := Nat.two_pow_pos c; omega)) hle2
          have h9 := rv_le.2 h8
          have h10 := rR_err c (2 * E) hc (by omega)
          omega
  obtain ⟨r, hr, hr0, hr1⟩ := fv_mul (fv_small hc hn2) hK
  refine ⟨a, r, ?_⟩
  by_cases h0 : K = 0
  · refine ⟨0, ha, hr, hr0 (by rw [h0]; simp), ?_, by omega⟩
    have : E = 0 := by omega
    rw [this]; simp
  · have hX0 : n * K ≠ 0 := Nat.mul_ne_zero (by omega) h0
    obtain ⟨X, hX⟩ : ∃ X, X = n * K := ⟨_, rfl⟩
    obtain ⟨Y, hY⟩ : ∃ Y, Y = n * E := ⟨_, rfl⟩
    have hXle : X ≤ 400 * Bd := by rw [hX]; exact Nat.le_trans (Nat.mul_le_mul hn2 hK2) (by omega)
    have hXY : 9007199254740992 * (2 * Y) ≤ 9007199254740992 * X + 2 * Y := by
      have := Nat.mul_le_mul_left n hK1
      rw [Nat.mul_add] at this
      have e1 : n * (9007199254740992 * (2 * E)) = 9007199254740992 * (2 * Y) := by rw [hY, Nat.mul_left_comm, Nat.mul_left_comm n 2]
      have e2 : n * (9007199254740992 * K) = 9007199254740992 * X := by rw [hX, Nat.mul_left_comm]
      have e3 : n * (2 * E) = 2 * Y := by rw [hY, Nat.mul_left_comm]
      omega
    have hVi : ((n * 2 ^ c : Nat) : Int) * (K : Int) = ((n * K * 2 ^ c : Nat) : Int) := by
      rw [← Int.natCast_mul, Nat.mul_right_comm]
    have hVn : n * 2 ^ c * K = X * 2 ^ c := by rw [hX, Nat.mul_right_comm]
    have hp : 0 < X * 2 ^ c := Nat.mul_pos (by omega) (Nat.two_pow_pos c)
    have h3 := rR_lt (c := c) (T := X) hc (by unfold Gr at hG; omega) (by omega)
    have h6 := rR_err c X hc (by omega)
    rw [← hX] at hVi
    have h7 := hr1 (by rw [hVi]; omega)
    rw [hVi, Int.natAbs_natCast, Int.natAbs_natCast, hVn] at h7
    have h8 : rungU (X * 2 ^ c) = rR c X := rfl
    rw [h8, Nat.min_eq_left (by omega), decide_eq_false (Int.not_lt.2 (Int.natCast_nonneg _))] at h7
    refine ⟨rv (rR c X), ha, hr, ⟨false, _, h7, h3, by simp⟩, ?_, by omega⟩
    rw [← hY]; omega
theorem fv_step {c : Nat} (hc : c = 1074) {s x l : Nat} {S X L : Int} {T E : Nat} (hs : FV s S) (S0 : 0 ≤ S) (S1 : S ≤ ((2 ^ c : Nat) : Int)) (hx : FV x X) (hl : FV l L) (hX : X.natAbs ≤ T) (hT : T ≤ Bd) (hLT : L.natAbs ≤ T + 200 * E) (hE : E = T / 2251799813685248) :
    ∃ L', FV (fop .add l (fop .mul s (fop .sub x l))) L' ∧ ((L ≤ L' ∧ L' ≤ X + E) ∨ (X - E ≤ L' ∧ L' ≤ L)) ∧ (S = ((2 ^ c : Nat) : Int) → (L' - X).natAbs ≤ E) ∧ (X = L → L' = L ∧ FV (fop .sub x l) 0) := by
  have hG := Bd_gr
  obtain ⟨d, hd, hD⟩ := fv_sub c hc hx hl (by unfold Gr at hG; omega)
  have e1 := rd_err c hc (X - L)
  obtain ⟨p, P, hp, hP, hPD⟩ := fv_share c hc hs hD S0 S1 (by unfold Gr at hG; omega)
  obtain ⟨r, hr, hR⟩ := fv_add c hc hl hP (by unfold Gr at hG; omega)
  have ed : fop .sub x l = d := by unfold fop; rw [hd]; rfl
  have ep : fop .mul s d = p := by unfold fop; rw [hp]; rfl
  have er : fop .add l p = r := by unfold fop; rw [hr]; rfl
  rw [ed, ep, er]
  refine ⟨_, hR, step_drift c hc T E L X P (rd_fv hc hl) hX hLT hE hPD, fun hS => ?_, fun hXL => ?_⟩
  · have hPeq : P = rd c (X - L) := by
      by_cases h0 : rd c (X - L) = 0
      · omega
      · obtain ⟨p', hp', _, hn⟩ := fv_mul hs hD
        have hpp : p' = p := by rw [hp] at hp'; cases hp'; rfl
        have h1 := hn (by rw [hS]; exact Int.mul_ne_zero (by have := Nat.two_pow_pos c; omega) h0)
        have h2 : S.natAbs * (rd c (X - L)).natAbs = (rd c (X - L)).natAbs * 2 ^ c := by rw [hS, Int.natAbs_natCast, Nat.mul_comm]
        have h3 : rungU ((rd c (X - L)).natAbs * 2 ^ c) = rR c (rd c (X - L)).natAbs := rfl
        have h4 : (S * rd c (X - L) < 0) = (rd c (X - L) < 0) := by
          have hpos : (0 : Int) < S := by rw [hS]; have := Nat.two_pow_pos c; omega
          apply propext
          constructor
          · intro h
            rcases Int.lt_or_gt_of_ne h0 with h5 | h5
            · exact h5
            · have := Int.mul_pos hpos h5; omega
          · intro h; exact Int.mul_neg_of_pos_of_neg hpos h
        rw [h2, h3] at h1
        simp only [h4] at h1
        have h5 := fv_word (c := c) (T := rd c (X - L)) hc h0 (by unfold Gr at hG; omega)
        rw [← h1, rd_fv hc hD, hpp] at h5
        exact hP.unique h5
    rw [hPeq]
    have e2 := rd_err c hc (L + rd c (X - L))
    omega
  · have h0 : X - L = 0 := by omega
    rw [h0, rd_zero] at hPD hD
    obtain rfl : P = 0 := by omega
    rw [Int.add_zero, rd_fv hc hl]
    exact ⟨rfl, hD⟩
/-- The checks of a step. -/
theorem fv_checks {c : Nat} (hc : c = 1074) {x y z o : Nat} {L lo hi : Int} {O : Nat} (hx : FV x L) (hy : FV y lo) (hz : FV z hi) (ho : FV o (O : Int)) (h1 : lo - O ≤ L) (h2 : L ≤ hi + O) (hb : lo.natAbs ≤ Bd) (hb2 : hi.natAbs ≤ Bd) (hO : O ≤ 1024 * Bd) :
    (∃ r, floatBits .sub .f64 y o = some r ∧ (FloatKind.f64.format.order x r == some .gt || FloatKind.f64.format.order x r == some .eq) = true) ∧
    (∃ r, floatBits .add .f64 z o = some r ∧ (FloatKind.f64.format.order x r == some .lt || FloatKind.f64.format.order x r == some .eq) = true) := by
  have hG := Bd_gr
  obtain ⟨r, hr, hR⟩ := fv_sub c hc hy ho (by unfold Gr at hG; omega)
  obtain ⟨q, hq, hQ⟩ := fv_add c hc hz ho (by unfold Gr at hG; omega)
  have m1 := rd_mono (c := c) h1
  have m2 := rd_mono (c := c) h2
  rw [rd_fv hc hx] at m1 m2
  exact ⟨⟨r, hr, by rw [hx.geq hR]; simpa using m1⟩, ⟨q, hq, by rw [hx.leq hQ]; simpa using m2⟩⟩
theorem fv_near {c : Nat} (hc : c = 1074) {x y o : Nat} {L X : Int} {O : Nat} (hx : FV x L) (hy : FV y X) (ho : FV o (O : Int)) (h : (L - X).natAbs ≤ O) (hO : O ≤ 1024 * Bd) :
    ∃ r, floatBits .sub .f64 x y = some r ∧ r < 18446744073709551616 ∧ (FloatKind.f64.format.order (r % 9223372036854775808) o == some .lt || FloatKind.f64.format.order (r % 9223372036854775808) o == some .eq) = true := by
  have hG := Bd_gr
  obtain ⟨r, hr, hR⟩ := fv_sub c hc hx hy (by unfold Gr at hG; omega)
  have m1 := rd_mono (c := c) (T := L - X) (S := O) (by omega)
  have m2 := rd_mono (c := c) (T := -O) (S := L - X) (by omega)
  have m3 : rd c (-(O : Int)) = -rd c O := by
    by_cases h0 : (O : Int) = 0
    · rw [h0]; simp [rd_zero]
    · rw [rd_neg (by omega), rd_pos (by omega), Int.natAbs_neg]
  rw [m3, rd_fv hc ho] at m2
  rw [rd_fv hc ho] at m1
  exact ⟨r, hr, hR.lt64, by rw [hR.abs.leq ho]; simp; omega⟩
end Go.Lk

namespace Go.Lk
open Go
/-! ### Squares are not negative; a quotient up to 1; floors of small numbers -/
theorem word_false (r : Nat) : Ieee.double.word false r = r := by simp [Ieee.Format.word]
theorem nearest_pos (m : Nat) (p : Int) : Ieee.double.nearest false m p ≤ 9218868437227405312 := by
  unfold Ieee.Format.nearest
  split
  · rw [word_false]; omega
  · dsimp only
    rw [word_false, double_inf]
    exact Nat.min_le_right _ _
theorem write_pos {d : Ieee.Datum} (hn : d.isNaN = false) (hs : d.neg = false) : Ieee.double.write d ≤ 9218868437227405312 := by
  cases d with
  | nan s f => cases hn
  | infinity s => cases hs; exact Nat.le_refl _
  | number s m p => cases hs; exact nearest_pos m p
theorem mul_self (x : Nat) : isnan (fop .mul x x) = true ∨ fop .mul x x ≤ 9218868437227405312 := by
  have e : floatBits .mul .f64 x x = ((Ieee.double.read x).product (Ieee.double.read x)).map Ieee.double.write := rfl
  unfold fop
  rw [e]
  cases Ieee.double.read x with
  | nan s f => left; exact isnan_qnan
  | infinity s => right; refine write_pos (d := .infinity (s ^^ s)) rfl ?_; show (s ^^ s) = false; simp
  | number s m p => right; refine write_pos (d := .number (s ^^ s) (m * m) (p + p)) rfl ?_; show (s ^^ s) = false; simp
theorem read_pos {x : Nat} (h : x ≤ 9218868437227405312) : (∃ m p, Ieee.double.read x = .number false m p) ∨ Ieee.double.read x = .infinity false := by
  rcases Nat.lt_or_ge x 9218868437227405312 with h1 | h1
  · obtain ⟨m, p, h2, _⟩ := read_word' false x h1
    rw [word_false] at h2
    exact .inl ⟨m, p, h2⟩
  · obtain rfl : x = 9218868437227405312 := by omega
    exact .inr (by decide +kernel)
theorem opt_write {o : Option Ieee.Datum} {d : Ieee.Datum} (ho : o = some d) (hn : d.isNaN = false) (hs : d.neg = false) : (o.map Ieee.double.write).getD qnan ≤ 9218868437227405312 := by
  subst ho
  exact write_pos hn hs
theorem signed_pos (m k : Nat) : 0 ≤ Ieee.signed false m k := by
  rw [signed_eq]; simp only [Bool.false_eq_true, if_false, Int.one_mul]; exact Int.natCast_nonneg _
theorem sum_pos {a b : Ieee.Datum} (ha : (∃ m p, a = .number false m p) ∨ a = .infinity false) (hb : (∃ m p, b = .number false m p) ∨ b = .infinity false) : ∃ d, a.sum b = some d ∧ d.isNaN = false ∧ d.neg = false := by
  rcases ha with ⟨m, p, rfl⟩ | rfl <;> rcases hb with ⟨n, q, rfl⟩ | rfl
  · refine ⟨_, rfl, rfl, ?_⟩
    show (if _ then _ else _) = false
    split
    · rfl
    · have h1 := signed_pos m (p - min p q).toNat
      have h2 := signed_pos n (q - min p q).toNat
      exact decide_eq_false (by omega)
  · exact ⟨.infinity false, rfl, rfl, rfl⟩
  · exact ⟨.infinity false, rfl, rfl, rfl⟩
  · exact ⟨.infinity false, rfl, rfl, rfl⟩
theorem add_pos {x y : Nat} (hx : x ≤ 9218868437227405312) (hy : y ≤ 9218868437227405312) : fop .add x y ≤ 9218868437227405312 := by
  have e : floatBits .add .f64 x y = ((Ieee.double.read x).sum (Ieee.double.read y)).map Ieee.double.write := rfl
  unfold fop
  rw [e]
  obtain ⟨d, h1, h2, h3⟩ := sum_pos (read_pos hx) (read_pos hy)
  exact opt_write h1 h2 h3
/-- A sum of two squares: no number, or not negative. -/
theorem squares {x y : Nat} (h : isnan (fop .add (fop .mul x x) (fop .mul y y)) = false) : fop .add (fop .mul x x) (fop .mul y y) ≤ 9218868437227405312 := by
  rcases mul_self x with hx | hx
  · rw [fop, floatBits_nanL hx] at h; exact absurd h (by decide)
  · rcases mul_self y with hy | hy
    · rw [fop, floatBits_nanR hy] at h; exact absurd h (by decide)
    · exact add_pos hx hy
/-- A float up to infinity that is not above a finite one is finite. -/
theorem fin_of_le {D F : Nat} {u : Int} (hD : D ≤ 9218868437227405312) (hF : FV F u) (h : (FloatKind.f64.format.order D F == some .lt || FloatKind.f64.format.order D F == some .eq) = true) : FV D (rv D : Int) ∧ (rv D : Int) ≤ u := by
  rcases Nat.lt_or_ge D 9218868437227405312 with h1 | h1
  · have hd := FV.nat h1
    refine ⟨hd, ?_⟩
    rw [hd.leq hF] at h
    exact of_decide_eq_true h
  · obtain rfl : D = 9218868437227405312 := by omega
    obtain ⟨s, m, p, h2, _⟩ := hF.read
    have e : FloatKind.f64.format.order 9218868437227405312 F = some .gt := by
      show (Ieee.double.read 9218868437227405312).order (Ieee.double.read F) = _
      rw [h2, show Ieee.double.read 9218868437227405312 = .infinity false by decide +kernel]; rfl
    rw [e] at h
    exact absurd h (by decide)
theorem sticky {q n D t A S : Nat} (hA : A ≤ S) (h1 : q * n ≤ D) (ht : t ≤ 1) (h2 : t = 1 → q * n < D) (h3 : D * 2 ^ A ≤ n * 2 ^ S) (hn : 0 < n) : (2 * q + t) * 2 ^ A ≤ 2 ^ (S + 1) := by
  obtain ⟨k, rfl⟩ : ∃ k, S = A + k := ⟨S - A, by omega⟩
  have p1 : 0 < 2 ^ A := Nat.two_pow_pos A
  rw [Nat.pow_add, ← Nat.mul_assoc, Nat.mul_right_comm] at h3
  have h3' : D ≤ n * 2 ^ k := Nat.le_of_mul_le_mul_right (by simpa [Nat.mul_comm, Nat.mul_left_comm, Nat.mul_assoc] using h3) p1
  have h4 : 2 * q + t ≤ 2 ^ (k + 1) := by
    rw [Nat.pow_succ]
    rcases Nat.lt_or_ge q (2 ^ k) with hq | hq
    · omega
    · have h5 : 2 ^ k * n ≤ q * n := Nat.mul_le_mul_right _ hq
      have h9 : 2 ^ k * n = n * 2 ^ k := Nat.mul_comm _ _
      have h6 : q * n = 2 ^ k * n := by omega
      have h7 : q = 2 ^ k := Nat.eq_of_mul_eq_mul_right hn h6
      have h8 : t ≠ 1 := fun h => by have := h2 h; rw [h6, Nat.mul_comm] at this; omega
      omega
  calc (2 * q + t) * 2 ^ A ≤ 2 ^ (k + 1) * 2 ^ A := Nat.mul_le_mul_right _ h4
    _ = 2 ^ (A + k + 1) := by rw [← Nat.pow_add]; congr 1; omega
/-- A quotient of numbers that are not negative, the divisor the greater: from 0 to 1. -/
theorem quo_unit (c : Nat) (hc : c = 1074) {x y : Nat} {v u : Int} (hx : FV x v) (hy : FV y u) (h0 : 0 ≤ v) (h1 : v ≤ u) (hu : 0 < u) (e : Nat) (he : e = 2000) (hu2 : u.natAbs ≤ 2 ^ e) :
    ∃ r z, floatBits .quo .f64 x y = some r ∧ FV r z ∧ 0 ≤ z ∧ z ≤ ((2 ^ c : Nat) : Int) := by
  obtain ⟨s, m, i, a1, a2, a3⟩ := hx.read
  obtain ⟨t, n, j, b1, b2, b3⟩ := hy.read
  rw [signed_eq] at a3 b3
  obtain ⟨A, hA⟩ : ∃ A, A = (i + 1074).toNat := ⟨_, rfl⟩
  obtain ⟨B, hB⟩ : ∃ B, B = (j + 1074).toNat := ⟨_, rfl⟩
  rw [← hA] at a3
  rw [← hB] at b3
  have pA := Nat.two_pow_pos A
  have pB := Nat.two_pow_pos B
  have hn : n ≠ 0 := fun h => by rw [h, Nat.zero_mul] at b3; simp at b3; omega
  have hn0 : 0 < n := Nat.pos_of_ne_zero hn
  have un : u = ((n * 2 ^ B : Nat) : Int) := by
    have := Nat.mul_pos hn0 pB
    generalize n * 2 ^ B = z at b3 this ⊢
    cases t <;> simp at b3 <;> omega
  have vn : v = ((m * 2 ^ A : Nat) : Int) := by
    generalize m * 2 ^ A = z at a3 ⊢
    cases s <;> simp at a3 <;> omega
  have hle : m * 2 ^ A ≤ n * 2 ^ B := by rw [vn, un] at h1; exact Int.ofNat_le.1 h1
  have hBe : B ≤ e := by
    have h2 : 2 ^ B ≤ 2 ^ e := by
      rw [un, Int.natAbs_natCast] at hu2
      exact Nat.le_trans (Nat.le_mul_of_pos_left _ hn0) hu2
    exact (Nat.pow_le_pow_iff_right (by decide)).1 h2
  obtain ⟨more, hm⟩ : ∃ more, more = 54 + n.log2 - m.log2 := ⟨_, rfl⟩
  have hnl : n.log2 ≤ 2000 := by
    have h2 : 2 ^ n.log2 ≤ 2 ^ e := by
      have h3 := Nat.log2_self_le hn
      rw [un, Int.natAbs_natCast] at hu2
      exact Nat.le_trans h3 (Nat.le_trans (Nat.le_mul_of_pos_right _ pB) hu2)
    have := (Nat.pow_le_pow_iff_right (by decide)).1 h2
    omega
  by_cases hm0 : m = 0
  · refine ⟨Ieee.double.nearest (s ^^ t) 0 (i - j - more - 1), 0, ?_, ?_, by omega, Int.natCast_nonneg _⟩
    · show (Ieee.Datum.quotient 54 (Ieee.double.read x) (Ieee.double.read y)).map Ieee.double.write = _
      rw [a1, b1]
      simp only [Ieee.Datum.quotient, hn, if_false]
      subst hm0
      rw [← hm]
      simp [Ieee.Format.write]
    · unfold Ieee.Format.nearest
      rw [if_pos rfl]
      exact fv_zero _
  · obtain ⟨D, hD⟩ : ∃ D, D = m <<< more := ⟨_, rfl⟩
    have hD' : D = m * 2 ^ more := by rw [hD, Nat.shiftLeft_eq]
    obtain ⟨tt, htt⟩ : ∃ tt, tt = (D % n != 0).toNat := ⟨_, rfl⟩
    have ht1 : tt ≤ 1 := by rw [htt]; cases (D % n != 0) <;> decide
    have hq := Nat.div_add_mod D n
    have hqn : D / n * n ≤ D := Nat.div_mul_le_self D n
    have ht2 : tt = 1 → D / n * n < D := fun h => by
      have : D % n ≠ 0 := fun h0 => by rw [htt, h0] at h; simp at h
      rw [Nat.mul_comm]; omega
    have hmul : D * 2 ^ A ≤ n * 2 ^ (B + more) := by
      rw [hD', Nat.mul_right_comm, Nat.pow_add, ← Nat.mul_assoc]
      exact Nat.mul_le_mul_right _ hle
    have hDn : n ≤ D := by
      have l1 := Nat.log2_self_le hm0
      have l2 := Nat.lt_log2_self (n := n)
      have : 2 ^ (n.log2 + 1) ≤ 2 ^ (m.log2 + more) := Nat.pow_le_pow_right (by decide) (by omega)
      rw [Nat.pow_add 2 m.log2 more] at this
      have := Nat.mul_le_mul_right (2 ^ more) l1
      rw [← hD'] at this
      omega
    have hq1 : 1 ≤ D / n := (Nat.one_le_div_iff hn0).2 hDn
    have hAS : A ≤ B + more := by
      have h5 : n * 2 ^ A ≤ n * 2 ^ (B + more) := Nat.le_trans (Nat.mul_le_mul_right _ hDn) hmul
      exact (Nat.pow_le_pow_iff_right (by decide)).1 (Nat.le_of_mul_le_mul_left h5 hn0)
    have hM := sticky hAS hqn ht1 ht2 hmul hn0
    obtain ⟨M, hMe⟩ : ∃ M, M = 2 * (D / n) + tt := ⟨_, rfl⟩
    rw [← hMe] at hM
    have hM0 : M ≠ 0 := by omega
    have hpl : -2148 ≤ i - j - more - 1 := by
      have hml : more ≤ 2054 := by omega
      -- the place of what is divided is not lower than -1074; the divisor's exponent is what 2 ^ e allows
      have hnB : n.log2 + B ≤ e := by
        have h2 : 2 ^ (n.log2 + B) ≤ 2 ^ e := by
          rw [Nat.pow_add]
          rw [un, Int.natAbs_natCast] at hu2
          exact Nat.le_trans (Nat.mul_le_mul_right _ (Nat.log2_self_le hn)) hu2
        exact (Nat.pow_le_pow_iff_right (by decide)).1 h2
      omega
    have hword : floatBits .quo .f64 x y = some (Ieee.double.nearest (s ^^ t) M (i - j - more - 1)) := by
      show (Ieee.Datum.quotient 54 (Ieee.double.read x) (Ieee.double.read y)).map Ieee.double.write = _
      rw [a1, b1]
      simp only [Ieee.Datum.quotient, hn, if_false]
      rw [← hm, ← hD, ← htt, ← hMe]
      rfl
    have hbig : M * 2 ^ (i - j - more - 1 + 2148).toNat ≤ 2 ^ c * 2 ^ c := by
      have e1 : (i - j - (more : Int) - 1 + 2148).toNat + (B + more + 1) = A + 2148 := by omega
      have pS := Nat.two_pow_pos (B + more + 1)
      refine Nat.le_of_mul_le_mul_right ?_ pS
      rw [Nat.mul_assoc, ← Nat.pow_add, e1, show A + 2148 = A + (c + c) by omega, Nat.pow_add 2 A, ← Nat.mul_assoc, Nat.pow_add 2 c c, Nat.mul_comm (2 ^ c * 2 ^ c)]
      exact Nat.mul_le_mul_right _ hM
    have hst : (s ^^ t) = false := by
      have ht : t = false := by
        have := Nat.mul_pos hn0 pB
        generalize n * 2 ^ B = z at b3 this
        cases t
        · rfl
        · simp at b3; omega
      have hs : s = false := by
        have := Nat.mul_pos (Nat.pos_of_ne_zero hm0) pA
        generalize m * 2 ^ A = z at a3 this
        cases s
        · rfl
        · simp at a3; omega
      rw [hs, ht]; rfl
    rw [hst] at hword
    rw [nearest_val false M _ hM0 hpl, word_false] at hword
    have hV0 : M * 2 ^ (i - j - (more : Int) - 1 + 2148).toNat ≠ 0 := Nat.mul_ne_zero hM0 (Nat.pos_iff_ne_zero.1 (Nat.two_pow_pos _))
    have hr : rungU (M * 2 ^ (i - j - (more : Int) - 1 + 2148).toNat) ≤ 4607182418800017408 := by
      refine Nat.le_trans (rungU_mono hV0 hbig) (Nat.le_of_eq ?_)
      have := rR_rv c 4607182418800017408 hc (by decide)
      rw [rv_one c hc] at this
      exact this
    rw [Nat.min_eq_left (by omega)] at hword
    refine ⟨_, _, hword, FV.nat (by omega), Int.natCast_nonneg _, ?_⟩
    have := rv_le.2 hr
    rw [rv_one c hc] at this
    exact Int.ofNat_le.2 this
theorem rv_fine (c : Nat) (hc : c = 1074) : rv 4697254411347427328 = 1048576 * 2 ^ c := by
  obtain ⟨e, he⟩ : ∃ e, e = 1042 := ⟨_, rfl⟩
  rw [rv_norm (r := 4697254411347427328) (e := e) (m := 0) (by omega) (by decide), Nat.add_zero, show c = 32 + e by omega, Nat.pow_add, ← Nat.mul_assoc]
/-- A part of 2 ^ 20. -/
theorem mul_fine (c : Nat) (hc : c = 1074) {x : Nat} {z : Int} (hx : FV x z) (h0 : 0 ≤ z) (h1 : z ≤ ((2 ^ c : Nat) : Int)) : ∃ r y, floatBits .mul .f64 x 4697254411347427328 = some r ∧ FV r y ∧ 0 ≤ y ∧ y ≤ ((1048576 * 2 ^ c : Nat) : Int) := by
  have hf : FV 4697254411347427328 ((1048576 * 2 ^ c : Nat) : Int) := by have := FV.nat (r := 4697254411347427328) (by decide); rwa [rv_fine c hc] at this
  obtain ⟨r, hr, hz, hn⟩ := fv_mul hx hf
  have pc := Nat.two_pow_pos c
  by_cases hz0 : z * ((1048576 * 2 ^ c : Nat) : Int) = 0
  · exact ⟨r, 0, hr, hz hz0, by omega, Int.natCast_nonneg _⟩
  · have hz1 : z ≠ 0 := fun h => hz0 (by rw [h, Int.zero_mul])
    have hpos : 0 < z * ((1048576 * 2 ^ c : Nat) : Int) := Int.mul_pos (by omega) (by omega)
    have e := hn hz0
    rw [decide_eq_false (by omega), word_false] at e
    have hb : z.natAbs * ((1048576 * 2 ^ c : Nat) : Int).natAbs ≤ 1048576 * 2 ^ c * 2 ^ c := by
      rw [Int.natAbs_natCast, Nat.mul_comm]
      exact Nat.mul_le_mul_left _ (by omega)
    have hr2 : rungU (z.natAbs * ((1048576 * 2 ^ c : Nat) : Int).natAbs) ≤ 4697254411347427328 := by
      refine Nat.le_trans (rungU_mono (Nat.mul_ne_zero (by omega) (by rw [Int.natAbs_natCast]; omega)) hb) (Nat.le_of_eq ?_)
      have := rR_rv c 4697254411347427328 hc (by decide)
      rw [rv_fine c hc] at this
      exact this
    rw [Nat.min_eq_left (by omega)] at e
    rw [e] at hr
    refine ⟨_, _, hr, FV.nat (by omega), Int.natCast_nonneg _, ?_⟩
    have := rv_le.2 hr2
    rw [rv_fine c hc] at this
    exact Int.ofNat_le.2 this
theorem Rep.toInt {x : Nat} {v : Int} (h : Rep x v) : floatToIntVal .f64 x .i64 = some v := by
  obtain ⟨c, hc⟩ : ∃ c, c = 1074 := ⟨_, rfl⟩
  have hv : v.natAbs < 9007199254740992 := by rcases h with ⟨rfl, _⟩ | ⟨_, h, _⟩ <;> first | exact h | decide
  obtain ⟨s, m, p, h1, h2, h3, h4⟩ := h.read c hc
  rw [signed_eq] at h4
  have key : (FloatKind.f64.decode x).toInt .zero = some v := by
    show (Ieee.double.read x).toInt .zero = some v
    rw [h1]
    simp only [Ieee.Datum.toInt, Ieee.Datum.integral, Ieee.Toward.cut, Bool.toNat_false, Nat.add_zero]
    congr 1
    rw [signed_eq, Nat.pow_zero, Nat.mul_one]
    by_cases hp : 0 ≤ p
    · rw [show (-p).toNat = 0 by omega, Nat.zero_min, Nat.shiftLeft_zero, Nat.div_one, Nat.shiftLeft_eq]
      rw [show (p + 1074).toNat = p.toNat + c by omega, Nat.pow_add, ← Nat.mul_assoc, Int.natCast_mul (m * 2 ^ p.toNat), ← Int.mul_assoc] at h4
      have pc := Nat.two_pow_pos c
      exact Int.eq_of_mul_eq_mul_right (by omega) h4
    · rw [show p.toNat = 0 by omega, Nat.shiftLeft_zero]
      have pc := Nat.two_pow_pos (p + 1074).toNat
      have e1 : (2 ^ c : Nat) = 2 ^ (-p).toNat * 2 ^ (p + 1074).toNat := by rw [← Nat.pow_add]; congr 1; omega
      rw [e1, Int.natCast_mul m, ← Int.mul_assoc, Int.natCast_mul (2 ^ (-p).toNat), ← Int.mul_assoc] at h4
      have h5 := Int.eq_of_mul_eq_mul_right (by omega) h4
      have p2 := Nat.two_pow_pos (-p).toNat
      by_cases hm : m = 0
      · subst hm
        rw [Int.natCast_zero, Int.mul_zero] at h5
        have : v = 0 := (Int.mul_eq_zero.1 h5.symm).resolve_right (by omega)
        rw [this, Nat.zero_div]; simp
      · have hmv : m = v.natAbs * 2 ^ (-p).toNat := by
          have h6 := congrArg Int.natAbs h5
          rw [Int.natAbs_mul, Int.natAbs_mul, Int.natAbs_natCast, Int.natAbs_natCast] at h6
          have : (if s then -1 else 1 : Int).natAbs = 1 := by cases s <;> rfl
          rw [this, Nat.one_mul] at h6
          exact h6
        have hv0 : v.natAbs ≠ 0 := fun h => hm (by rw [hmv, h, Nat.zero_mul])
        have hlg : (-p).toNat ≤ m.log2 := by
          rw [hmv, log2_mul_pow hv0]; omega
        rw [Nat.min_eq_left (by omega), Nat.one_shiftLeft]
        have hdiv : m / 2 ^ (-p).toNat = v.natAbs := by rw [hmv, Nat.mul_div_cancel _ p2]
        rw [hdiv]
        have hm1 : (m : Int) = (v.natAbs : Int) * ((2 ^ (-p).toNat : Nat) : Int) := by rw [← Int.natCast_mul, ← hmv]
        rw [hm1, ← Int.mul_assoc] at h5
        exact Int.eq_of_mul_eq_mul_right (by omega) h5
  unfold floatToIntVal
  rw [key]
  dsimp only
  rw [if_pos]
  have b1 : IntKind.i64.min = -9223372036854775808 := by decide
  have b2 : IntKind.i64.max = 9223372036854775807 := by decide
  rw [b1, b2]
  omega
/-- The floor of a small number that is not negative. -/
theorem floor_small (c : Nat) (hc : c = 1074) {x : Nat} {y : Int} (hx : FV x y) (h0 : 0 ≤ y) (h1 : y ≤ ((1048576 * 2 ^ c : Nat) : Int)) : ∃ m : Nat, m ≤ 1048576 ∧ floatToIntVal .f64 (FloatKind.f64.encode ((FloatKind.f64.decode x).integral .down)) .i64 = some (m : Int) := by
  obtain ⟨s, n, p, a1, a2, a3⟩ := hx.read
  rw [signed_eq] at a3
  have hy : n * 2 ^ (p + 1074).toNat ≤ 1048576 * 2 ^ c := by
    generalize 1048576 * 2 ^ c = z at h1
    generalize n * 2 ^ (p + 1074).toNat = z2 at a3 ⊢
    cases s <;> simp at a3 <;> omega
  have pp := Nat.two_pow_pos (p + 1074).toNat
  have pc := Nat.two_pow_pos c
  have hs : n ≠ 0 → s = false := fun hn => by
    have := Nat.mul_pos (Nat.pos_of_ne_zero hn) pp
    generalize n * 2 ^ (p + 1074).toNat = z2 at a3 this
    cases s
    · rfl
    · simp at a3; omega
  obtain ⟨k, hk⟩ : ∃ k, k = Ieee.Toward.cut .down s (n <<< p.toNat) (-p).toNat := ⟨_, rfl⟩
  have hk2 : k * 2 ^ (-p).toNat ≤ n <<< p.toNat := by
    rw [hk]
    unfold Ieee.Toward.cut
    by_cases hn : n = 0
    · subst hn
      simp
    · rw [hs hn]
      simp only [Bool.false_and, Bool.toNat_false, Nat.add_zero]
      rcases Nat.le_total (-p).toNat ((n <<< p.toNat).log2 + 2) with h | h
      · rw [Nat.min_eq_left h, Nat.one_shiftLeft]
        exact Nat.div_mul_le_self _ _
      · rw [Nat.min_eq_right h, Nat.one_shiftLeft]
        have l := Nat.lt_log2_self (n := n <<< p.toNat)
        have : 2 ^ ((n <<< p.toNat).log2 + 1) ≤ 2 ^ ((n <<< p.toNat).log2 + 2) := Nat.pow_le_pow_right (by decide) (by omega)
        rw [Nat.div_eq_of_lt (by omega), Nat.zero_mul]
        exact Nat.zero_le _
  have hkm : k ≤ 1048576 := by
    rw [Nat.shiftLeft_eq] at hk2
    refine Nat.le_of_mul_le_mul_right (Nat.le_trans ?_ hy) pc
    by_cases hp : 0 ≤ p
    · rw [show (-p).toNat = 0 by omega, Nat.pow_zero, Nat.mul_one] at hk2
      rw [show (p + 1074).toNat = p.toNat + c by omega, Nat.pow_add, ← Nat.mul_assoc]
      exact Nat.mul_le_mul_right _ hk2
    · rw [show p.toNat = 0 by omega, Nat.pow_zero, Nat.mul_one] at hk2
      rw [show c = (-p).toNat + (p + 1074).toNat by omega, Nat.pow_add, ← Nat.mul_assoc]
      exact Nat.mul_le_mul_right _ hk2
  refine ⟨k, hkm, Rep.toInt (v := (k : Int)) ?_⟩
  show Rep (Ieee.double.write ((Ieee.double.read x).integral .down)) _
  rw [a1]
  show Rep (Ieee.double.nearest s (Ieee.Toward.cut .down s (n <<< p.toNat) (-p).toNat) 0) _
  rw [← hk]
  refine rep_write c hc (by omega) (by omega) ?_
  rw [signed_eq, show ((0 : Int) + 1074).toNat = c by omega, Int.natCast_mul]
  by_cases hn : n = 0
  · have : k = 0 := by
      rw [hn, Nat.zero_shiftLeft] at hk2
      have := Nat.two_pow_pos (-p).toNat
      exact (Nat.mul_eq_zero.1 (Nat.le_zero.1 hk2)).resolve_right (by omega)
    rw [this]; simp
  · rw [hs hn]; simp
end Go.Lk

namespace Go.Lk
open Go
theorem read_word2 (s : Bool) (r : Nat) (h : r < 9218868437227405312) : ∃ m p, Ieee.double.read (Ieee.double.word s r) = .number s m p ∧ -1074 ≤ p ∧ m * 2 ^ (p + 1074).toNat = rv r ∧ m < 9007199254740992 := by
  have h1 : ∀ b : Bool, ((Ieee.double.word b r / 9223372036854775808 % 2 == 1) = b) ∧ Ieee.double.word b r % 9223372036854775808 = r := by
    intro b
    unfold Ieee.Format.word
    rw [double_sw]
    cases b
    · simp only [Bool.false_eq_true, if_false]
      refine ⟨?_, by omega⟩
      rw [show r / 9223372036854775808 = 0 by omega]; simp
    · simp only [if_true]
      refine ⟨?_, by omega⟩
      rw [show (9223372036854775808 + r) / 9223372036854775808 = 1 by omega]; simp
  have f2 : Ieee.double.leastPlace = -1074 := by decide
  unfold Ieee.Format.read
  rw [double_sw, double_bin, double_inf, (h1 s).2]
  by_cases a : r < 4503599627370496
  · refine ⟨r, -1074, ?_, by omega, ?_, by omega⟩
    · simp only [a, if_true, f2]
      have := (h1 s).1
      rw [this]
    · simp [rv, a]
  · refine ⟨4503599627370496 + r % 4503599627370496, -1074 + (r / 4503599627370496 - 1 : Nat), ?_, by omega, ?_, by omega⟩
    · simp only [a, h, if_true, if_false, f2]
      have := (h1 s).1
      rw [this]
    · rw [rv, if_neg a]
      congr 2
      omega
/-- Divided by one, a float is what it was. -/
theorem quo_one {x : Nat} (hx : x < 18446744073709551616) : fop .quo x 4607182418800017408 = cn x := by
  have h1 : Ieee.double.read 4607182418800017408 = .number false 4503599627370496 (-52) := by decide +kernel
  have e1 : (4503599627370496 : Nat).log2 = 52 := by decide +kernel
  obtain ⟨s, r, hxw, hr⟩ : ∃ s r, x = Ieee.double.word s r ∧ r < 9223372036854775808 := by
    by_cases h1 : x < 9223372036854775808
    · exact ⟨false, x, by simp [Ieee.Format.word], h1⟩
    · exact ⟨true, x - 9223372036854775808, by simp [Ieee.Format.word, double_sw]; omega, by omega⟩
  have e : floatBits .quo .f64 x 4607182418800017408 = ((Ieee.double.read x).quotient 54 (Ieee.double.read 4607182418800017408)).map Ieee.double.write := rfl
  by_cases h2 : r < 9218868437227405312
  · have hn : isnan x = false := (show FV x _ from ⟨s, r, hxw, h2, rfl⟩).num
    obtain ⟨m, p, k1, k2, k3, k4⟩ := read_word2 s r h2
    rw [← hxw] at k1
    rw [cn_num hn]
    unfold fop
    rw [e, k1, h1]
    simp only [Ieee.Datum.quotient, e1]
    rw [if_neg (by decide)]
    by_cases hm : m = 0
    · have hr0 : r = 0 := rv_zero.1 (by rw [← k3, hm, Nat.zero_mul])
      subst hm
      simp only [Nat.zero_shiftLeft, Nat.zero_div, Nat.zero_mod, Option.map_some, Option.getD_some, Ieee.Format.write]
      unfold Ieee.Format.nearest
      rw [if_pos (by simp), hxw, hr0]
      cases s <;> rfl
    · have hl : m.log2 ≤ 52 := by
        have := (Nat.log2_lt hm (k := 53)).2 (by simpa using k4)
        omega
      obtain ⟨g, hg⟩ : ∃ g, 54 + 52 - m.log2 = 52 + g ∧ 2 ≤ g ∧ g ≤ 54 := ⟨54 - m.log2, by omega, by omega, by omega⟩
      rw [hg.1, Nat.shiftLeft_eq, Nat.pow_add, Nat.mul_comm (2 ^ 52), ← Nat.mul_assoc, show (2 : Nat) ^ 52 = 4503599627370496 by decide, Nat.mul_div_cancel _ (by decide), Nat.mul_mod_left]
      simp only [bne_self_eq_false, Bool.toNat_false, Nat.add_zero, Option.map_some, Option.getD_some, Ieee.Format.write]
      have hM : 2 * (m * 2 ^ g) ≠ 0 := Nat.mul_ne_zero (by decide) (Nat.mul_ne_zero hm (Nat.pos_iff_ne_zero.1 (Nat.two_pow_pos _)))
      rw [nearest_val _ _ _ hM (by omega)]
      obtain ⟨c, hc⟩ : ∃ c, c = 1074 := ⟨_, rfl⟩
      have hv : 2 * (m * 2 ^ g) * 2 ^ (p - -52 - ((52 + g : Nat) : Int) - 1 + 2148).toNat = rv r * 2 ^ c := by
        rw [← k3, Nat.mul_assoc m, ← Nat.pow_add, Nat.mul_comm 2, Nat.mul_assoc, Nat.mul_assoc]
        congr 1
        rw [show ∀ k, 2 * 2 ^ k = 2 ^ (k + 1) from fun k => by rw [Nat.pow_succ, Nat.mul_comm], ← Nat.pow_add]
        congr 1
        omega
      have hr0 : r ≠ 0 := fun h => by
        have : rv r = 0 := rv_zero.2 h
        rw [this] at k3
        exact hm ((Nat.mul_eq_zero.1 k3).resolve_right (Nat.pos_iff_ne_zero.1 (Nat.two_pow_pos _)))
      rw [hv, show rungU (rv r * 2 ^ c) = r from rR_rv c r hc hr0, Nat.min_eq_left (by omega), hxw]
      cases s <;> rfl
  · by_cases h3 : r = 9218868437227405312
    · subst h3
      rw [hxw]
      cases s <;> decide +kernel
    · have hn : isnan x = true := by
        refine isnan_of_rung ?_
        rw [hxw]
        unfold Ieee.Format.word
        rw [double_sw]
        cases s <;> simp <;> omega
      rw [cn_nan hn, fop, floatBits_nanL hn]; rfl
end Go.Lk

namespace Go.Lk
open Go
/-! ### Relative errors of products and quotients; a harmonic mean -/
theorem datum_mul_comm (a b : Ieee.Datum) : a.product b = b.product a := by
  cases a <;> cases b <;> simp [Ieee.Datum.product, Bool.xor_comm, Nat.mul_comm, Int.add_comm]
theorem fop_mul_comm (x y : Nat) : fop .mul x y = fop .mul y x := by
  have e : floatBits .mul .f64 x y = floatBits .mul .f64 y x := by
    show ((Ieee.double.read x).product (Ieee.double.read y)).map Ieee.double.write = ((Ieee.double.read y).product (Ieee.double.read x)).map Ieee.double.write
    rw [datum_mul_comm]
  unfold fop; rw [e]
theorem inf_of_read {x : Nat} {s : Bool} (hx : x < 18446744073709551616) (hs : Ieee.double.read x = .infinity s) : x = 9218868437227405312 ∨ x = 18442240474082181120 := by
  unfold Ieee.Format.read at hs
  rw [double_sw, double_bin, double_inf] at hs
  by_cases a : x % 9223372036854775808 < 4503599627370496
  · simp [a] at hs
  · by_cases b : x % 9223372036854775808 < 9218868437227405312
    · simp [a, b] at hs
    · by_cases d : x % 9223372036854775808 = 9218868437227405312
      · omega
      · simp [a, b, d] at hs
theorem isnan_rng (y : Nat) : isnan y = !(decide (y % 9223372036854775808 ≤ 9218868437227405312)) := by
  show (Ieee.Format.read Ieee.double y).isNaN = _
  unfold Ieee.Format.read
  rw [double_sw, double_bin, double_inf]
  dsimp only
  split
  · rw [decide_eq_true (by omega)]; rfl
  · split
    · rw [decide_eq_true (by omega)]; rfl
    · split
      · rw [decide_eq_true (by omega)]; rfl
      · rw [decide_eq_false (by omega)]; rfl
theorem fv_of_abs40 {x : Nat} (hx : x < 18446744073709551616) (h : (FloatKind.f64.format.order (x % 9223372036854775808) 4787326403894837248 == some .lt || FloatKind.f64.format.order (x % 9223372036854775808) 4787326403894837248 == some .eq) = true) : ∃ v, FV x v ∧ v.natAbs ≤ rv 4787326403894837248 := by
  have hK := FV.nat (r := 4787326403894837248) (by decide)
  rcases classify hx with ⟨v, hv⟩ | ⟨s, hs⟩ | hn
  · rw [hv.abs.leq hK] at h
    have := of_decide_eq_true h
    exact ⟨v, hv, by omega⟩
  · exfalso
    have hm : x % 9223372036854775808 = 9218868437227405312 := by rcases inf_of_read hx hs with h | h <;> omega
    rw [hm] at h
    revert h; decide +kernel
  · exfalso
    have h1 : isnan (x % 9223372036854775808) = true := by
      rw [isnan_rng, Nat.mod_mod, ← isnan_rng]; exact hn
    rw [order_nanL h1] at h
    revert h; decide
theorem fv_of_var {x : Nat} (hx : x < 18446744073709551616) (h1 : (FloatKind.f64.format.order x 4427038433705197568 == some .gt || FloatKind.f64.format.order x 4427038433705197568 == some .eq) = true) (h2 : (FloatKind.f64.format.order x 4787326403894837248 == some .lt || FloatKind.f64.format.order x 4787326403894837248 == some .eq) = true) :
    ∃ v : Nat, FV x (v : Int) ∧ rv 4427038433705197568 ≤ v ∧ v ≤ rv 4787326403894837248 := by
  have hK := FV.nat (r := 4787326403894837248) (by decide)
  have hL := FV.nat (r := 4427038433705197568) (by decide)
  rcases classify hx with ⟨v, hv⟩ | ⟨s, hs⟩ | hn
  · rw [hv.geq hL] at h1
    rw [hv.leq hK] at h2
    have a := of_decide_eq_true h1
    have b := of_decide_eq_true h2
    obtain ⟨n, rfl⟩ : ∃ n : Nat, v = (n : Int) := ⟨v.toNat, by omega⟩
    exact ⟨n, hv, by omega, by omega⟩
  · exfalso
    rcases inf_of_read hx hs with rfl | rfl
    · revert h2; decide +kernel
    · revert h1; decide +kernel
  · exfalso
    rw [order_nanL hn] at h1
    exact absurd h1 (by decide)
/-- A part of a power of two of a float: it is rounded, and not too small. -/
theorem off_part {c k e b T y : Nat} (hc : c = 1074) (hk : c = e + k) (hb : b < 9218868437227405312) (hbv : rv b = 2 ^ e) (hy : FV y (T : Int)) (hT : T ≤ Bd) {E : Nat} (hE : 2 * E * 2 ^ k ≤ T) : ∃ a, ∃ O : Nat, floatBits .mul .f64 b y = some a ∧ FV a (O : Int) ∧ E ≤ O ∧ O ≤ 2 * Bd := by
  have hG := Bd_gr
  have hfb : FV b ((2 ^ e : Nat) : Int) := by have := FV.nat hb; rwa [hbv] at this
  have hce : 2 ^ c = 2 ^ k * 2 ^ e := by rw [hk, Nat.add_comm, Nat.pow_add]
  have hp0 : 0 < 2 ^ e := Nat.two_pow_pos e
  have hpk : 0 < 2 ^ k := Nat.two_pow_pos k
  obtain ⟨a, ha, ha0, ha1⟩ := fv_mul hfb hy
  by_cases h0 : T = 0
  · refine ⟨a, 0, ha, ha0 (by rw [h0]; simp), ?_, by omega⟩
    have : 2 * E * 2 ^ k = 0 := by omega
    have := (Nat.mul_eq_zero.1 this).resolve_right (by omega)
    omega
  · have hV : 2 ^ e * T ≠ 0 := Nat.mul_ne_zero (by omega) h0
    have hle : 2 ^ e * T ≤ T * 2 ^ c := by
      rw [Nat.mul_comm]; exact Nat.mul_le_mul_left _ (by rw [hce]; exact Nat.le_mul_of_pos_left _ hpk)
    have h2 : rungU (2 ^ e * T) ≤ rR c T := rungU_mono hV hle
    have h3 := rR_lt (c := c) (T := T) hc (by unfold Gr at hG; omega) h0
    have h5 := rv_le.2 h2
    have h6 := rR_err c T hc h0
    have hVi : ((2 ^ e : Nat) : Int) * (T : Int) = ((2 ^ e * T : Nat) : Int) := (Int.natCast_mul ..).symm
    have h7 := ha1 (by rw [hVi]; omega)
    rw [hVi, Int.natAbs_natCast, Int.natAbs_natCast, Nat.min_eq_left (by omega)] at h7
    refine ⟨a, rv (rungU (2 ^ e * T)), ha, ?_, ?_, by omega⟩
    · rw [h7, decide_eq_false (Int.not_lt.2 (Int.natCast_nonneg _)), word_false]
      exact FV.nat (by omega)
    · by_cases hE0 : E = 0
      · rw [hE0]; omega
      · have hle2 : 2 * E * 2 ^ c ≤ 2 ^ e * T := by
          rw [hce, ← Nat.mul_assoc, Nat.mul_comm]
          exact Nat.mul_le_mul_left _ hE
        have h8 : rR c (2 * E) ≤ rungU (2 ^ e * T) := rungU_mono (Nat.mul_ne_zero (by omega) (by have := Nat.two_pow_pos c; omega)) hle2
        have h9 := rv_le.2 h8
        have h10 := rR_err c (2 * E) hc (by omega)
        omega
/-- A value that is not small is rounded by a 2^53rd part at most. -/
theorem rungU_err {c V : Nat} (hc : c = 1074) (hV : V ≠ 0) (h : 1126 ≤ V.log2) : 9007199254740992 * (rv (rungU V) * 2 ^ c) ≤ 9007199254740993 * V ∧ 9007199254740991 * V ≤ 9007199254740992 * (rv (rungU V) * 2 ^ c) := by
  have e := rv_rungU V hV
  rw [← hc] at e
  rw [e]
  have h1 := rne_err V (lastU V)
  have hl : lastU V = V.log2 - 52 := by unfold lastU; omega
  have h2 : 2 ^ lastU V * 4503599627370496 ≤ V := by
    rw [hl, ← two52, ← Nat.pow_add, show V.log2 - 52 + 52 = V.log2 by omega]
    exact Nat.log2_self_le hV
  generalize rne V (lastU V) * 2 ^ lastU V = X at h1 ⊢
  generalize 2 ^ lastU V = D at h1 h2
  omega
theorem fop_some' {op : BinOp} {x y r : Nat} (h : floatBits op .f64 x y = some r) : fop op x y = r := by simp [fop, h]
theorem log2_ge {k V : Nat} (h : 2 ^ k ≤ V) : k ≤ V.log2 := by
  have hV : V ≠ 0 := fun h0 => by have := Nat.two_pow_pos k; omega
  exact (Nat.le_log2 hV).2 h
end Go.Lk

namespace Go.Lk
open Go
theorem fv_pos_word {x v : Nat} (h : FV x (v : Int)) (h0 : 0 < v) : ∃ r, x = r ∧ r < 9218868437227405312 ∧ rv r = v := by
  obtain ⟨s, r, hx, hr, hv⟩ := h
  cases s
  · simp at hv
    exact ⟨r, by rw [hx, word_false], hr, by omega⟩
  · simp at hv; omega
/-- A quotient's relative error. -/
theorem quo_err {c g x y v u : Nat} (hc : c = 1074) (hg : g = 800) (hx : FV x (v : Int)) (hy : FV y (u : Int)) (hv0 : 0 < v) (hu0 : 0 < u) (h1 : u ≤ v * 2 ^ g) (h2 : v ≤ u * 2 ^ g) :
    ∃ r z : Nat, floatBits .quo .f64 x y = some r ∧ FV r (z : Int) ∧ 9007199254740992 * (z * u) ≤ 9007199254740994 * (v * 2 ^ c) ∧ 9007199254740990 * (v * 2 ^ c) ≤ 9007199254740992 * (z * u) := by
  obtain ⟨rx, rfl, hrx, hvx⟩ := fv_pos_word hx hv0
  obtain ⟨ry, rfl, hry, huy⟩ := fv_pos_word hy hu0
  obtain ⟨m, i, a1, a2, a3, a4⟩ := read_word2 false x hrx
  obtain ⟨n, j, b1, b2, b3, b4⟩ := read_word2 false y hry
  rw [word_false] at a1 b1
  rw [hvx] at a3
  rw [huy] at b3
  obtain ⟨A, hA⟩ : ∃ A, A = (i + 1074).toNat := ⟨_, rfl⟩
  obtain ⟨B, hB⟩ : ∃ B, B = (j + 1074).toNat := ⟨_, rfl⟩
  rw [← hA] at a3
  rw [← hB] at b3
  have pA := Nat.two_pow_pos A
  have pB := Nat.two_pow_pos B
  have hm0 : m ≠ 0 := fun h => by rw [h, Nat.zero_mul] at a3; omega
  have hn : n ≠ 0 := fun h => by rw [h, Nat.zero_mul] at b3; omega
  have hn0 : 0 < n := Nat.pos_of_ne_zero hn
  have lm : m.log2 ≤ 52 := by
    have := (Nat.log2_lt hm0 (k := 53)).2 (by simpa using a4)
    omega
  obtain ⟨more, hmore⟩ : ∃ more, more = 54 + n.log2 - m.log2 := ⟨_, rfl⟩
  obtain ⟨D, hD⟩ : ∃ D, D = m <<< more := ⟨_, rfl⟩
  have hD' : D = m * 2 ^ more := by rw [hD, Nat.shiftLeft_eq]
  obtain ⟨q, hq⟩ : ∃ q, q = D / n := ⟨_, rfl⟩
  obtain ⟨tt, htt⟩ : ∃ tt, tt = (D % n != 0).toNat := ⟨_, rfl⟩
  obtain ⟨M, hM⟩ : ∃ M, M = 2 * q + tt := ⟨_, rfl⟩
  have hdm := Nat.div_add_mod D n
  have hml := Nat.mod_lt D hn0
  rw [← hq] at hdm
  have hMn : M * n ≤ 2 * D + n ∧ 2 * D ≤ M * n + n := by
    have e1 : M * n = 2 * (n * q) + tt * n := by rw [hM, Nat.add_mul, Nat.mul_assoc, Nat.mul_comm q n]
    by_cases hr0 : D % n = 0
    · have : tt = 0 := by rw [htt, hr0]; rfl
      rw [this, Nat.zero_mul] at e1
      omega
    · have : tt = 1 := by rw [htt, show (D % n != 0) = true by simpa using hr0]; rfl
      rw [this, Nat.one_mul] at e1
      omega
  have hDn : 9007199254740992 * n ≤ D := by
    have l1 := Nat.log2_self_le hm0
    have l2 := Nat.lt_log2_self (n := n)
    have e1 : 2 ^ (m.log2 + more) = 9007199254740992 * 2 ^ (n.log2 + 1) := by
      rw [show m.log2 + more = 53 + (n.log2 + 1) by omega, Nat.pow_add]
    have e2 := Nat.mul_le_mul_right (2 ^ more) l1
    rw [← hD', ← Nat.pow_add, e1] at e2
    exact Nat.le_trans (Nat.mul_le_mul_left _ (Nat.le_of_lt l2)) e2
  have hq53 : 9007199254740992 ≤ q := by rw [hq]; exact (Nat.le_div_iff_mul_le hn0).2 hDn
  have hMbig : 18014398509481984 * n ≤ M * n := Nat.mul_le_mul_right _ (by omega)
  have hM0 : M ≠ 0 := by omega
  -- the place
  have hplace : B + more ≤ A + 54 + g := by
    have l1 := Nat.log2_self_le hn
    have l2 := Nat.lt_log2_self (n := m)
    have e1 : 2 ^ (n.log2 + B) ≤ u := by rw [Nat.pow_add, ← b3]; exact Nat.mul_le_mul_right _ l1
    have e2 : v * 2 ^ g < 2 ^ (m.log2 + 1 + A + g) := by
      rw [Nat.pow_add, Nat.pow_add, ← a3]
      exact Nat.mul_lt_mul_of_pos_right (Nat.mul_lt_mul_of_pos_right l2 pA) (Nat.two_pow_pos g)
    have e3 := (Nat.pow_lt_pow_iff_right (a := 2) (by decide)).1 (Nat.lt_of_le_of_lt (Nat.le_trans e1 h1) e2)
    omega
  have hpl : -2148 ≤ i - j - more - 1 := by omega
  obtain ⟨W, hW⟩ : ∃ W, W = (i - j - (more : Int) - 1 + 2148).toNat := ⟨_, rfl⟩
  obtain ⟨S, hS⟩ : ∃ S, S = B + more + 1 := ⟨_, rfl⟩
  have hWS : W + S = A + c + c := by omega
  have hword : floatBits .quo .f64 x y = some (Ieee.double.nearest false M (i - j - more - 1)) := by
    show (Ieee.Datum.quotient 54 (Ieee.double.read x) (Ieee.double.read y)).map Ieee.double.write = _
    rw [a1, b1]
    simp only [Ieee.Datum.quotient, hn, if_false]
    rw [← hmore, ← hD, ← hq, ← htt, ← hM]
    rfl
  rw [nearest_val false M _ hM0 hpl, word_false, ← hW] at hword
  obtain ⟨V, hV⟩ : ∃ V, V = M * 2 ^ W := ⟨_, rfl⟩
  rw [← hV] at hword
  have hV0 : V ≠ 0 := by rw [hV]; exact Nat.mul_ne_zero hM0 (Nat.pos_iff_ne_zero.1 (Nat.two_pow_pos _))
  -- the products
  obtain ⟨K, hK⟩ : ∃ K, K = 2 ^ c := ⟨_, rfl⟩
  have pK : 0 < K := by rw [hK]; exact Nat.two_pow_pos c
  obtain ⟨G, hG⟩ : ∃ G, G = 2 ^ g := ⟨_, rfl⟩
  have pG : 0 < G := by rw [hG]; exact Nat.two_pow_pos g
  obtain ⟨X, hX⟩ : ∃ X, X = 2 ^ (A + c + c + B) := ⟨_, rfl⟩
  obtain ⟨sS, hsS⟩ : ∃ sS, sS = 2 ^ S := ⟨_, rfl⟩
  have pS : 0 < sS := by rw [hsS]; exact Nat.two_pow_pos S
  obtain ⟨P1, hP1⟩ : ∃ P1, P1 = V * u := ⟨_, rfl⟩
  obtain ⟨P2, hP2⟩ : ∃ P2, P2 = v * K * K := ⟨_, rfl⟩
  have q1 : P1 * sS = M * n * X := by
    rw [hP1, hV, ← b3, hsS, hX, show A + c + c + B = (W + B) + S by omega, Nat.pow_add 2 (W + B), Nat.pow_add 2 W]
    ac_rfl
  have q2 : P2 * sS = 2 * D * X := by
    rw [hP2, hK, ← a3, hsS, hX, hD', hS, show A + c + c + B = A + (c + (c + B)) by omega, Nat.pow_add 2 A, Nat.pow_add 2 c, Nat.pow_add 2 c, Nat.pow_add 2 (B + more) 1, Nat.pow_add 2 B]
    rw [show (2 : Nat) ^ 1 = 2 by decide]
    ac_rfl
  obtain ⟨a, ha⟩ : ∃ a, a = M * n := ⟨_, rfl⟩
  obtain ⟨b, hb⟩ : ∃ b, b = 2 * D := ⟨_, rfl⟩
  rw [← ha] at q1 hMn hMbig
  rw [← hb] at q2 hMn
  have r1 : 18014398509481984 * P1 ≤ 18014398509481984 * P2 + P1 := by
    have t := Nat.mul_le_mul_right X (show 18014398509481984 * a ≤ 18014398509481984 * b + a by omega)
    rw [Nat.add_mul, Nat.mul_assoc, Nat.mul_assoc, ← q1, ← q2] at t
    refine Nat.le_of_mul_le_mul_right ?_ pS
    rw [Nat.add_mul, Nat.mul_assoc, Nat.mul_assoc]
    exact t
  have r2 : 18014398509481984 * P2 ≤ 18014398509481984 * P1 + P1 := by
    have t := Nat.mul_le_mul_right X (show 18014398509481984 * b ≤ 18014398509481984 * a + a by omega)
    rw [Nat.add_mul, Nat.mul_assoc, Nat.mul_assoc, ← q1, ← q2] at t
    refine Nat.le_of_mul_le_mul_right ?_ pS
    rw [Nat.add_mul, Nat.mul_assoc, Nat.mul_assoc]
    exact t
  -- not small, not too great
  have hsmall : 1126 ≤ V.log2 := by
    obtain ⟨k, hk⟩ : ∃ k, k = 1126 := ⟨_, rfl⟩
    have e1 : u * (2 ^ (k + 2)) ≤ P2 := by
      rw [hP2, hK, Nat.mul_assoc v, ← Nat.pow_add]
      obtain ⟨l, hl⟩ : ∃ l, c + c = g + (k + 2) + l := ⟨c + c - g - (k + 2), by omega⟩
      rw [hl, Nat.pow_add 2 (g + (k + 2)) l, Nat.pow_add 2 g (k + 2), ← Nat.mul_assoc, ← Nat.mul_assoc]
      exact Nat.le_trans (Nat.mul_le_mul_right _ h1) (Nat.le_mul_of_pos_right _ (Nat.two_pow_pos l))
    have e2 : u * 2 ^ (k + 2) ≤ 2 * P1 := by omega
    rw [hP1, Nat.pow_add, show (2 : Nat) ^ 2 = 4 by decide, show 2 * (V * u) = u * (2 * V) by ac_rfl] at e2
    have e3 := Nat.le_of_mul_le_mul_left e2 hu0
    have := log2_ge (k := k) (V := V) (by omega)
    omega
  have hgreat : rungU V < 9218868437227405312 := by
    have e1 : P2 ≤ u * (G * K * K) := by
      rw [hP2, hG]
      have := Nat.mul_le_mul_right (K * K) h2
      rw [Nat.mul_assoc]
      calc v * (K * K) ≤ u * 2 ^ g * (K * K) := this
        _ = u * (2 ^ g * K * K) := by ac_rfl
    have e2 : V * u ≤ (2 * G * K) * K * u := by
      have : P1 ≤ 2 * P2 := by omega
      rw [hP1] at this
      calc V * u ≤ 2 * P2 := this
        _ ≤ 2 * (u * (G * K * K)) := Nat.mul_le_mul_left _ e1
        _ = (2 * G * K) * K * u := by ac_rfl
    have e3 := Nat.le_of_mul_le_mul_right e2 hu0
    have e4 : rungU V ≤ rR c (2 * G * K) := by
      have := rungU_mono hV0 e3
      rw [hK] at this ⊢
      exact this
    have e5 : 2 * G * K ≤ rv 9218868437227405311 := by
      have hB2 : 2 * G * K ≤ Bd := by
        obtain ⟨e', he'⟩ : ∃ e', e' = 1922 := ⟨_, rfl⟩
        have : Bd = 4503599627370496 * 2 ^ e' := by
          unfold Bd
          rw [rv_norm (r := 8660422083433463808) (e := e') (m := 0) (by omega) (by decide), Nat.add_zero]
        rw [this, hG, hK, ← two52, ← Nat.pow_add, show (2 : Nat) * 2 ^ g = 2 ^ (g + 1) by rw [Nat.pow_succ, Nat.mul_comm], ← Nat.pow_add]
        exact Nat.pow_le_pow_right (by decide) (by omega)
      have := Bd_gr
      unfold Gr at this
      omega
    exact Nat.lt_of_le_of_lt e4 (rR_lt hc e5 (by have := Nat.mul_pos (Nat.mul_pos (by decide : 0 < 2) pG) pK; omega))
  rw [Nat.min_eq_left (by omega)] at hword
  obtain ⟨k1, k2⟩ := rungU_err hc hV0 hsmall
  rw [← hK] at k1 k2 ⊢
  obtain ⟨z, hz⟩ : ∃ z, z = rv (rungU V) := ⟨_, rfl⟩
  rw [← hz] at k1 k2
  refine ⟨_, z, hword, by rw [hz]; exact FV.nat hgreat, ?_, ?_⟩
  · refine Nat.le_of_mul_le_mul_right ?_ pK
    have e1 : 9007199254740992 * (z * u) * K = 9007199254740992 * (z * K) * u := by ac_rfl
    have e2 : 9007199254740994 * (v * K) * K = 9007199254740994 * P2 := by rw [hP2]; ac_rfl
    have e3 := Nat.mul_le_mul_right u k1
    have e4 : 9007199254740993 * V * u = 9007199254740993 * P1 := by rw [hP1]; ac_rfl
    rw [e1, e2]
    rw [e4] at e3
    omega
  · refine Nat.le_of_mul_le_mul_right ?_ pK
    have e1 : 9007199254740992 * (z * u) * K = 9007199254740992 * (z * K) * u := by ac_rfl
    have e2 : 9007199254740990 * (v * K) * K = 9007199254740990 * P2 := by rw [hP2]; ac_rfl
    have e3 := Nat.mul_le_mul_right u k2
    have e4 : 9007199254740991 * V * u = 9007199254740991 * P1 := by rw [hP1]; ac_rfl
    rw [e1, e2]
    rw [e4] at e3
    omega
end Go.Lk

namespace Go.Lk
open Go
/-! ### What two states are together: bounds -/
def Lo : Nat := rv 4427038433705197568
def Hi : Nat := rv 4787326403894837248
theorem lo_pow (e : Nat) (he : e = 1034) : Lo = 2 ^ e := by
  obtain ⟨d, hd⟩ : ∃ d, d = 982 := ⟨_, rfl⟩
  unfold Lo
  rw [rv_norm (r := 4427038433705197568) (e := d) (m := 0) (by omega) (by decide), Nat.add_zero, ← two52, ← Nat.pow_add, show 52 + d = e by omega]
theorem hi_pow (e : Nat) (he : e = 1114) : Hi = 2 ^ e := by
  obtain ⟨d, hd⟩ : ∃ d, d = 1062 := ⟨_, rfl⟩
  unfold Hi
  rw [rv_norm (r := 4787326403894837248) (e := d) (m := 0) (by omega) (by decide), Nat.add_zero, ← two52, ← Nat.pow_add, show 52 + d = e by omega]
theorem bd_pow (e : Nat) (he : e = 1974) : Bd = 2 ^ e := by
  obtain ⟨d, hd⟩ : ∃ d, d = 1922 := ⟨_, rfl⟩
  unfold Bd
  rw [rv_norm (r := 8660422083433463808) (e := d) (m := 0) (by omega) (by decide), Nat.add_zero, ← two52, ← Nat.pow_add, show 52 + d = e by omega]
theorem two_rv (c : Nat) (hc : c = 1074) : rv 4611686018427387904 = 2 ^ c * 2 := by
  obtain ⟨d, hd⟩ : ∃ d, d = 1023 := ⟨_, rfl⟩
  rw [rv_norm (r := 4611686018427387904) (e := d) (m := 0) (by omega) (by decide), Nat.add_zero, ← two52, ← Nat.pow_add, show 52 + d = c + 1 by omega, Nat.pow_succ]
theorem hi_bd : 16 * Hi ≤ Bd := by
  obtain ⟨a, ha⟩ : ∃ a, a = 1114 := ⟨_, rfl⟩
  obtain ⟨b, hb⟩ : ∃ b, b = 1974 := ⟨_, rfl⟩
  rw [hi_pow a ha, bd_pow b hb, show (16 : Nat) = 2 ^ 4 by decide, ← Nat.pow_add]
  exact Nat.pow_le_pow_right (by decide) (by omega)
theorem lo_hi : Lo ≤ Hi := rv_le.2 (by decide)
theorem lo_pos : 0 < Lo := Nat.pos_of_ne_zero fun h => absurd (rv_zero.1 h) (by decide)
theorem rung_lt {c V : Nat} (hc : c = 1074) (hV : V ≠ 0) (h : V ≤ Bd * 2 ^ c) : rungU V < 9218868437227405312 := by
  have h1 : rungU V ≤ rR c Bd := rungU_mono hV h
  have h2 := rR_lt (c := c) (T := Bd) hc (by have := Bd_gr; unfold Gr at this; have := Bd_pos; omega) (by have := Bd_pos; omega)
  omega
/-- the sum of two variances -/
theorem var_sum {c p q P Q : Nat} (hc : c = 1074) (hp : FV p (P : Int)) (hq : FV q (Q : Int)) (p1 : Lo ≤ P) (p2 : P ≤ Hi) (q1 : Lo ≤ Q) (q2 : Q ≤ Hi) :
    ∃ N : Nat, FV (fop .add p q) (N : Int) ∧ P ≤ N ∧ Q ≤ N ∧ N ≤ 4 * Hi ∧ 9007199254740992 * N ≤ 9007199254740993 * (P + Q) ∧ 9007199254740991 * (P + Q) ≤ 9007199254740992 * N := by
  have hB := hi_bd
  have hG := Bd_gr
  have hL := lo_pos
  obtain ⟨r, hr, hR⟩ := fv_add c hc hp hq (by unfold Gr at hG; omega)
  have e1 := rd_err c hc ((P : Int) + (Q : Int))
  have m1 := rd_mono (c := c) (show (P : Int) ≤ (P : Int) + (Q : Int) by omega)
  have m2 := rd_mono (c := c) (show (Q : Int) ≤ (P : Int) + (Q : Int) by omega)
  rw [rd_fv hc hp] at m1
  rw [rd_fv hc hq] at m2
  obtain ⟨N, hN⟩ : ∃ N : Nat, rd c ((P : Int) + (Q : Int)) = (N : Int) := ⟨(rd c ((P : Int) + (Q : Int))).toNat, by omega⟩
  rw [hN] at hR e1 m1 m2
  exact ⟨N, by rw [fop_some' hr]; exact hR, by omega, by omega, by omega, by omega, by omega⟩
theorem both_pos {c ax bx p q P Q T : Nat} {A B : Int} (hc : c = 1074) (ha : FV ax A) (hb : FV bx B) (hp : FV p (P : Int)) (hq : FV q (Q : Int)) (p1 : Lo ≤ P) (p2 : P ≤ Hi) (q1 : Lo ≤ Q) (q2 : Q ≤ Hi) (tA : A.natAbs ≤ T) (tB : B.natAbs ≤ T) (hT : T ≤ Hi) :
    ∃ L, FV (fop .add ax (fop .mul (fop .sub bx ax) (fop .quo p (fop .add p q)))) L ∧ min A B - ((T / 2251799813685248 : Nat) : Int) ≤ L ∧ L ≤ max A B + ((T / 2251799813685248 : Nat) : Int) := by
  obtain ⟨N, hN, n1, n2, n3, _⟩ := var_sum hc hp hq p1 p2 q1 q2
  have hL := lo_pos
  have hB := hi_bd
  obtain ⟨e, he⟩ : ∃ e, e = 2000 := ⟨_, rfl⟩
  have hNe : (N : Int).natAbs ≤ 2 ^ e := by
    rw [Int.natAbs_natCast]
    obtain ⟨b, hb⟩ : ∃ b, b = 1974 := ⟨_, rfl⟩
    have h1 := bd_pow b hb
    have h2 : 2 ^ b ≤ 2 ^ e := Nat.pow_le_pow_right (by decide) (by omega)
    omega
  obtain ⟨r, z, h1, h2, h3, h4⟩ := quo_unit c hc hp hN (by omega) (by omega) (by omega) e he hNe
  rw [show fop .quo p (fop .add p q) = r from fop_some' h1, fop_mul_comm]
  obtain ⟨L, g1, g2, _⟩ := fv_step (T := T) (E := T / 2251799813685248) hc h2 h3 h4 hb ha tB (by omega) (by omega) rfl
  refine ⟨L, g1, ?_, ?_⟩ <;> rcases g2 with ⟨g2, g3⟩ | ⟨g2, g3⟩ <;> omega
theorem both_var {c p q P Q : Nat} (hc : c = 1074) (hp : FV p (P : Int)) (hq : FV q (Q : Int)) (p1 : Lo ≤ P) (p2 : P ≤ Hi) (q1 : Lo ≤ Q) (q2 : Q ≤ Hi) :
    ∃ V : Nat, FV (fop .quo (fop .mul 4611686018427387904 (fop .mul p q)) (fop .add p q)) (V : Int) ∧ min P Q ≤ V + max P Q / 1125899906842624 ∧ V ≤ max P Q + max P Q / 1125899906842624 := by
  obtain ⟨N, hN, n1, n2, n3, n4, n5⟩ := var_sum hc hp hq p1 p2 q1 q2
  have hL := lo_pos
  have hB := hi_bd
  obtain ⟨l, hl⟩ : ∃ l, l = 1034 := ⟨_, rfl⟩
  obtain ⟨h, hh⟩ : ∃ h, h = 1114 := ⟨_, rfl⟩
  obtain ⟨b, hb⟩ : ∃ b, b = 1974 := ⟨_, rfl⟩
  obtain ⟨K, hK⟩ : ∃ K, K = 2 ^ c := ⟨_, rfl⟩
  have pK : 0 < K := by rw [hK]; exact Nat.two_pow_pos c
  -- the product
  obtain ⟨PQ, hPQ⟩ : ∃ PQ, PQ = P * Q := ⟨_, rfl⟩
  have hPQ0 : 0 < PQ := by rw [hPQ]; exact Nat.mul_pos (by omega) (by omega)
  have hPQi : (P : Int) * (Q : Int) = (PQ : Int) := by rw [hPQ, Int.natCast_mul]
  have hPQlo : 2 ^ (l + l) ≤ PQ := by rw [Nat.pow_add, hPQ, ← lo_pow l hl]; exact Nat.mul_le_mul p1 q1
  have hPQhi : PQ ≤ 2 ^ (h + h) := by rw [Nat.pow_add, hPQ, ← hi_pow h hh]; exact Nat.mul_le_mul p2 q2
  obtain ⟨r1, hr1, _, hn1⟩ := fv_mul hp hq
  have e1 := hn1 (by omega)
  rw [hPQi, Int.natAbs_natCast, Int.natAbs_natCast, ← hPQ, decide_eq_false (by omega), word_false] at e1
  have g1 : rungU PQ < 9218868437227405312 := rung_lt hc (by omega) (Nat.le_trans hPQhi (by rw [bd_pow b hb, ← Nat.pow_add]; exact Nat.pow_le_pow_right (by decide) (by omega)))
  rw [Nat.min_eq_left (by omega)] at e1
  obtain ⟨M1, hM1⟩ : ∃ M1, M1 = rv (rungU PQ) := ⟨_, rfl⟩
  have f1 : FV (fop .mul p q) (M1 : Int) := by rw [fop_some' hr1, e1, hM1]; exact FV.nat g1
  have hlg1 : 1126 ≤ PQ.log2 := by
    obtain ⟨k, hk⟩ : ∃ k, k = 1126 := ⟨_, rfl⟩
    have := log2_ge (k := k) (V := PQ) (Nat.le_trans (Nat.pow_le_pow_right (by decide) (by omega)) hPQlo)
    omega
  obtain ⟨i1, i2⟩ := rungU_err hc (V := PQ) (by omega) hlg1
  rw [← hM1, ← hK] at i1 i2
  have hM1lo : 2 ^ (l + l) ≤ 2 * (M1 * K) := by omega
  have hM1hi : M1 * K ≤ 2 * 2 ^ (h + h) := by omega
  obtain ⟨u9, hu9⟩ : ∃ u, u = 900 := ⟨_, rfl⟩
  obtain ⟨u12, hu12⟩ : ∃ u, u = 1200 := ⟨_, rfl⟩
  have hM1l : 2 ^ u9 ≤ M1 := by
    refine Nat.le_of_mul_le_mul_right ?_ pK
    have : 2 * (2 ^ u9 * K) ≤ 2 ^ (l + l) := by
      rw [hK, ← Nat.pow_add, show 2 * 2 ^ (u9 + c) = 2 ^ (u9 + c + 1) by rw [Nat.pow_succ, Nat.mul_comm]]
      exact Nat.pow_le_pow_right (by decide) (by omega)
    omega
  have hM1h : M1 ≤ 2 ^ u12 := by
    refine Nat.le_of_mul_le_mul_right ?_ pK
    refine Nat.le_trans hM1hi ?_
    rw [hK, ← Nat.pow_add, show 2 * 2 ^ (h + h) = 2 ^ (h + h + 1) by rw [Nat.pow_succ, Nat.mul_comm]]
    exact Nat.pow_le_pow_right (by decide) (by omega)
  have hM10 : 0 < M1 := Nat.lt_of_lt_of_le (Nat.two_pow_pos _) hM1l
  -- twice
  obtain ⟨r2, hr2, _, hn2⟩ := fv_mul (FV.nat (r := 4611686018427387904) (by decide)) f1
  rw [two_rv c hc, ← hK] at hn2
  have hV2i : ((K * 2 : Nat) : Int) * (M1 : Int) = ((K * 2 * M1 : Nat) : Int) := (Int.natCast_mul ..).symm
  obtain ⟨V2, hV2⟩ : ∃ V2, V2 = K * 2 * M1 := ⟨_, rfl⟩
  have hV20 : 0 < V2 := by rw [hV2]; exact Nat.mul_pos (by omega) hM10
  rw [hV2i, ← hV2] at hn2
  have e2 := hn2 (by omega)
  rw [Int.natAbs_natCast, Int.natAbs_natCast, ← hV2, decide_eq_false (by omega), word_false] at e2
  have g2 : rungU V2 < 9218868437227405312 := rung_lt hc (by omega) (by
    rw [hV2, bd_pow b hb, ← hK, Nat.mul_assoc, Nat.mul_comm]
    refine Nat.mul_le_mul_right _ (Nat.le_trans (Nat.mul_le_mul_left 2 hM1h) ?_)
    rw [show 2 * 2 ^ u12 = 2 ^ (u12 + 1) by rw [Nat.pow_succ, Nat.mul_comm]]
    exact Nat.pow_le_pow_right (by decide) (by omega))
  rw [Nat.min_eq_left (by omega)] at e2
  obtain ⟨M2, hM2⟩ : ∃ M2, M2 = rv (rungU V2) := ⟨_, rfl⟩
  have f2 : FV (fop .mul 4611686018427387904 (fop .mul p q)) (M2 : Int) := by rw [fop_some' hr2, e2, hM2]; exact FV.nat g2
  have hlg2 : 1126 ≤ V2.log2 := by
    obtain ⟨k, hk⟩ : ∃ k, k = 1126 := ⟨_, rfl⟩
    have h1 : 2 ^ k ≤ 2 ^ c * 2 ^ u9 := by rw [← Nat.pow_add]; exact Nat.pow_le_pow_right (by decide) (by omega)
    have h2 : 2 ^ c * 2 ^ u9 ≤ V2 := by
      rw [hV2, hK, Nat.mul_assoc]
      exact Nat.mul_le_mul_left _ (by omega)
    have := log2_ge (Nat.le_trans h1 h2)
    omega
  obtain ⟨j1, j2⟩ := rungU_err hc (V := V2) (by omega) hlg2
  rw [← hM2, ← hK] at j1 j2
  obtain ⟨X1, hX1⟩ : ∃ X1, X1 = M1 * K := ⟨_, rfl⟩
  obtain ⟨X2, hX2⟩ : ∃ X2, X2 = M2 * K := ⟨_, rfl⟩
  have hV2X : V2 = 2 * X1 := by rw [hV2, hX1]; ac_rfl
  rw [← hX1] at i1 i2
  rw [← hX2, hV2X] at j1 j2
  have m2a : M1 ≤ M2 := by
    refine Nat.le_of_mul_le_mul_right ?_ pK
    rw [← hX1, ← hX2]; omega
  have m2b : M2 ≤ 3 * M1 := by
    refine Nat.le_of_mul_le_mul_right ?_ pK
    rw [Nat.mul_assoc, ← hX1, ← hX2]; omega
  -- the quotient
  obtain ⟨g, hg⟩ : ∃ g, g = 800 := ⟨_, rfl⟩
  have hNlo : 2 ^ l ≤ N := by rw [← lo_pow l hl]; omega
  have hNhi : N ≤ 4 * 2 ^ h := by rw [← hi_pow h hh]; omega
  obtain ⟨r, V, hr, hRV, v1, v2⟩ := quo_err hc hg f2 hN (by omega) (by omega) (by
    refine Nat.le_trans hNhi (Nat.le_trans ?_ (Nat.mul_le_mul_right _ (Nat.le_trans hM1l m2a)))
    rw [← Nat.pow_add, show (4 : Nat) = 2 ^ 2 by decide, ← Nat.pow_add]
    exact Nat.pow_le_pow_right (by decide) (by omega)) (by
    refine Nat.le_trans (Nat.le_trans m2b (Nat.mul_le_mul_left 3 hM1h)) (Nat.le_trans ?_ (Nat.mul_le_mul_right _ hNlo))
    rw [← Nat.pow_add]
    refine Nat.le_trans (Nat.mul_le_mul_right _ (show 3 ≤ 2 ^ 2 by decide)) ?_
    rw [← Nat.pow_add]
    exact Nat.pow_le_pow_right (by decide) (by omega))
  rw [← hK, ← hX2] at v1 v2
  refine ⟨V, by rw [fop_some' hr]; exact hRV, ?_⟩
  obtain ⟨Y, hY⟩ : ∃ Y, Y = V * N := ⟨_, rfl⟩
  obtain ⟨Z, hZ⟩ : ∃ Z, Z = V * (P + Q) := ⟨_, rfl⟩
  rw [← hY] at v1 v2
  have w1 := Nat.mul_le_mul_left V n4
  have w2 := Nat.mul_le_mul_left V n5
  rw [show V * (9007199254740992 * N) = 9007199254740992 * Y by rw [hY]; ac_rfl, show V * (9007199254740993 * (P + Q)) = 9007199254740993 * Z by rw [hZ]; ac_rfl] at w1
  rw [show V * (9007199254740992 * N) = 9007199254740992 * Y by rw [hY]; ac_rfl, show V * (9007199254740991 * (P + Q)) = 9007199254740991 * Z by rw [hZ]; ac_rfl] at w2
  have c1 : 1125899906842624 * Z ≤ 1125899906842625 * (2 * PQ) := by omega
  have c2 : 1125899906842623 * (2 * PQ) ≤ 1125899906842624 * Z := by omega
  have hmx : 2 * PQ ≤ max P Q * (P + Q) := by
    rw [hPQ, Nat.mul_add]
    rcases Nat.le_total P Q with hle | hle
    · rw [Nat.max_eq_right hle, Nat.mul_comm Q P]
      have := Nat.mul_le_mul_right Q hle
      omega
    · rw [Nat.max_eq_left hle]
      have := Nat.mul_le_mul_left P hle
      omega
  have hmn : min P Q * (P + Q) ≤ 2 * PQ := by
    rw [hPQ, Nat.mul_add]
    rcases Nat.le_total P Q with hle | hle
    · rw [Nat.min_eq_left hle]
      have := Nat.mul_le_mul_left P hle
      omega
    · rw [Nat.min_eq_right hle, Nat.mul_comm Q P]
      have := Nat.mul_le_mul_right Q hle
      omega
  have pa : 0 < P + Q := by omega
  have d1 : 1125899906842624 * V ≤ 1125899906842625 * max P Q := by
    refine Nat.le_of_mul_le_mul_right ?_ pa
    rw [Nat.mul_assoc, ← hZ, Nat.mul_assoc]
    exact Nat.le_trans c1 (Nat.mul_le_mul_left _ hmx)
  have d2 : 1125899906842623 * min P Q ≤ 1125899906842624 * V := by
    refine Nat.le_of_mul_le_mul_right ?_ pa
    rw [Nat.mul_assoc, Nat.mul_assoc, ← hZ]
    exact Nat.le_trans (Nat.mul_le_mul_left _ hmn) c2
  omega
end Go.Lk

namespace Go.Lk
open Go
/-! ### Results of operations are words; nought added -/
theorem write_lt (d : Ieee.Datum) (h : d.isNaN = false) : Ieee.double.write d < 18446744073709551616 := by
  have hw : ∀ s r, r ≤ 9218868437227405312 → Ieee.double.word s r < 18446744073709551616 := fun s r hr => by
    unfold Ieee.Format.word
    rw [double_sw]
    split <;> omega
  cases d with
  | nan s f => simp [Ieee.Datum.isNaN] at h
  | infinity s => exact hw s _ (Nat.le_refl _)
  | number s m p =>
    show Ieee.double.nearest s m p < _
    unfold Ieee.Format.nearest
    dsimp only
    split
    · exact hw s 0 (by omega)
    · exact hw s _ (by rw [double_inf]; exact Nat.min_le_right _ _)
theorem floatBits_lt {op : BinOp} {x y r : Nat} (h : floatBits op .f64 x y = some r) : r < 18446744073709551616 := by
  have key : ∀ o : Option Ieee.Datum, (∀ d, o = some d → d.isNaN = false) → o.map Ieee.double.write = some r → r < 18446744073709551616 := fun o ho hr => by
    cases o with
    | none => cases hr
    | some d => cases hr; exact write_lt d (ho d rfl)
  unfold floatBits at h
  split at h
  · exact key _ (fun d hd => sum_not_nan hd) h
  · exact key _ (fun d hd => sum_not_nan hd) h
  · exact key _ (fun d hd => product_not_nan hd) h
  · exact key _ (fun d hd => quotient_not_nan hd) h
  · cases h
theorem fop_lt (op : BinOp) (x y : Nat) : fop op x y < 18446744073709551616 := by
  unfold fop
  cases h : floatBits op .f64 x y with
  | none => decide
  | some r => exact floatBits_lt h
theorem fop_add0 {x : Nat} (hx : x < 18446744073709551616) (hn : isnan x = false) : fop .add x 0 = if (FloatKind.f64.format.order x 0 == some .eq) = true then 0 else x := by
  obtain ⟨c, hc⟩ : ∃ c, c = 1074 := ⟨_, rfl⟩
  have h0 : FV 0 0 := ⟨false, 0, by simp [Ieee.Format.word], by decide, by rw [show rv 0 = 0 from rv_zero.2 rfl]; rfl⟩
  rcases classify hx with ⟨v, hv⟩ | ⟨s, hs⟩ | h
  · have ho := hv.order h0
    rw [ho]
    obtain ⟨s, r, hxw, hr, hvr⟩ := hv
    by_cases hz : v = 0
    · have hr0 : r = 0 := rv_zero.1 (by cases s <;> simp at hvr <;> omega)
      subst hr0
      rw [hxw, hz]
      cases s <;> decide +kernel
    · have hr0 : r ≠ 0 := fun h => by
        rw [h, show rv 0 = 0 from rv_zero.2 rfl] at hvr
        exact hz (by rw [hvr]; simp)
      rw [if_neg (fun h => hz (Std.LawfulEqCmp.eq_of_compare (cmp := fun a b : Int => compare a b) (Option.some.inj (eq_of_beq h))))]
      have hv2 : FV x v := ⟨s, r, hxw, hr, hvr⟩
      obtain ⟨sx, mx, i, h1, h2, h3⟩ := hv2.read
      obtain ⟨t, n, j, k1, k2, k3⟩ := h0.read
      obtain ⟨q, hq, _, hq'⟩ := fv_sum c hc h2 k2 h3 k3
      have hb : floatBits .add .f64 x 0 = some q := by
        show (Ieee.Datum.sum (Ieee.double.read x) (Ieee.double.read 0)).map Ieee.double.write = some q
        rw [h1, k1]; exact hq
      rw [fop_some' hb, hq' (by omega), Int.add_zero]
      have habs : v.natAbs = rv r := by rw [hvr]; cases s <;> simp
      have hrv : 0 < rv r := Nat.pos_of_ne_zero fun h => hr0 (rv_zero.1 h)
      rw [habs, rR_rv c r hc hr0, Nat.min_eq_left (by omega), hxw]
      congr 1
      cases s <;> simp at hvr ⊢ <;> omega
  · rcases inf_of_read hx hs with rfl | rfl <;> decide +kernel
  · rw [h] at hn; cases hn
end Go.Lk
