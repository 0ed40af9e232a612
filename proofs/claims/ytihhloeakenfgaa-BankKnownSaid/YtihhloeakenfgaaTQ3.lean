/-
  A part of the proof: what functions that the statement reaches do, or a plain law on what they do. Each theorem holds under its own premises alone.
-/
import Derived.Test.YtihhloeakenfgaaTQ2
namespace Go.Lk
open Go
/-! ### Finite floats as whole numbers of units of 2 ^ -1074 -/
theorem read_word' (s : Bool) (r : Nat) (h : r < 9218868437227405312) : ∃ m p, Ieee.double.read (Ieee.double.word s r) = .number s m p ∧ -1074 ≤ p ∧ m * 2 ^ (p + 1074).toNat = rv r := by
  have h1 : ∀ b : Bool, ((Ieee.double.word b r / 9223372036854775808 % 2 == 1) = b) ∧ Ieee.double.word b r % 9223372036854775808 = r := by
    intro b
    unfold Ieee.Format.word
    rw [double_sw]
    cases b
    · simp only [Bool.false_eq_true, if_false]
      refine ⟨?_, by omega⟩
      rw [show r / 9223372036854775808 = 0 by omega]; simp
    · simp only [if_true]
      refine ⟨?_, by omega⟩
      rw [show (9223372036854775808 + r) / 9223372036854775808 = 1 by omega]; simp
  have f2 : Ieee.double.leastPlace = -1074 := by decide
  unfold Ieee.Format.read
  rw [double_sw, double_bin, double_inf, (h1 s).2]
  by_cases a : r < 4503599627370496
  · refine ⟨r, -1074, ?_, by omega, ?_⟩
    · simp only [a, if_true, f2]
      have := (h1 s).1
      rw [this]
    · simp [rv, a]
  · refine ⟨4503599627370496 + r % 4503599627370496, -1074 + (r / 4503599627370496 - 1 : Nat), ?_, by omega, ?_⟩
    · simp only [a, h, if_true, if_false, f2]
      have := (h1 s).1
      rw [this]
    · rw [rv, if_neg a]
      congr 2
      omega
/-- The float is finite, of the value v. -/
def FV (x : Nat) (v : Int) : Prop := ∃ s r, x = Ieee.double.word s r ∧ r < 9218868437227405312 ∧ v = (if s then -1 else 1) * (rv r : Int)
theorem FV.read {x : Nat} {v : Int} (h : FV x v) : ∃ s m p, Ieee.double.read x = .number s m p ∧ -1074 ≤ p ∧ Ieee.signed s m (p + 1074).toNat = v := by
  obtain ⟨s, r, rfl, hr, rfl⟩ := h
  obtain ⟨m, p, h1, h2, h3⟩ := read_word' s r hr
  exact ⟨s, m, p, h1, h2, by rw [signed_eq, h3]⟩
theorem cmp_scale (a b : Int) (k : Nat) (hk : 0 < k) : compare (a * k) (b * k) = compare a b := by
  have hk' : (0 : Int) < k := by omega
  rcases Int.lt_trichotomy a b with h | h | h
  · have h2 : a * k < b * k := Int.mul_lt_mul_of_pos_right h hk'
    rw [Int.compare_eq_lt.2 h, Int.compare_eq_lt.2 h2]
  · rw [h]
    rw [Int.compare_eq_eq.2 rfl, Int.compare_eq_eq.2 rfl]
  · have h2 : b * k < a * k := Int.mul_lt_mul_of_pos_right h hk'
    rw [Int.compare_eq_gt.2 h, Int.compare_eq_gt.2 h2]
theorem FV.order {x y : Nat} {v u : Int} (hx : FV x v) (hy : FV y u) : FloatKind.f64.format.order x y = some (compare v u) := by
  obtain ⟨s, m, i, h1, h2, h3⟩ := hx.read
  obtain ⟨t, n, j, k1, k2, k3⟩ := hy.read
  show (Ieee.double.read x).order (Ieee.double.read y) = _
  rw [h1, k1]
  simp only [Ieee.Datum.order]
  obtain ⟨b, hbd⟩ : ∃ b, b = min i j := ⟨_, rfl⟩
  have hb1 : b ≤ i ∧ b ≤ j ∧ -1074 ≤ b := by omega
  rw [show (i + 1074).toNat = (i - b).toNat + (b + 1074).toNat by omega, signed_scale] at h3
  rw [show (j + 1074).toNat = (j - b).toNat + (b + 1074).toNat by omega, signed_scale] at k3
  rw [← hbd, ← h3, ← k3, cmp_scale _ _ _ (Nat.two_pow_pos _)]
/-- A number written: of the value v, exactly, in units. -/
theorem write_val {s : Bool} {m : Nat} {p v : Int} (c : Nat) (hc : c = 1074) (hp : -1074 ≤ p) (h : Ieee.signed s m (p + 1074).toNat = v) (hv : v ≠ 0) : Ieee.double.nearest s m p = Ieee.double.word (decide (v < 0)) (min (rR c v.natAbs) 9218868437227405312) := by
  have hm : m ≠ 0 := fun h0 => by
    rw [h0, signed_eq] at h
    simp at h
    exact hv h.symm
  have h2 : 0 < m * 2 ^ (p + 1074).toNat := Nat.mul_pos (by omega) (Nat.two_pow_pos _)
  rw [signed_eq] at h
  obtain ⟨A, hA⟩ : ∃ A, A = m * 2 ^ (p + 1074).toNat := ⟨_, rfl⟩
  rw [← hA] at h h2
  have hs : s = decide (v < 0) := by
    cases s
    · simp at h ⊢; omega
    · simp at h ⊢; omega
  have habs : A = v.natAbs := by cases s <;> simp at h <;> omega
  rw [nearest_val s m p hm (by omega), hs]
  unfold rR
  rw [← habs, hA, Nat.mul_assoc, ← Nat.pow_add, show (p + 2148).toNat = (p + 1074).toNat + c by omega]
theorem fv_zero (s : Bool) : FV (Ieee.double.word s 0) 0 := ⟨s, 0, rfl, by decide, by simp [rv]⟩
/-- A sum of finite floats: the value's nearest word. -/
theorem fv_sum {s t : Bool} {m n : Nat} {i j v u : Int} (c : Nat) (hc : c = 1074) (hi : -1074 ≤ i) (hj : -1074 ≤ j) (hx : Ieee.signed s m (i + 1074).toNat = v) (hy : Ieee.signed t n (j + 1074).toNat = u) :
    ∃ r, (Ieee.Datum.sum (.number s m i) (.number t n j)).map Ieee.double.write = some r ∧ (v + u = 0 → FV r 0) ∧ (v + u ≠ 0 → r = Ieee.double.word (decide (v + u < 0)) (min (rR c (v + u).natAbs) 9218868437227405312)) := by
  obtain ⟨b, hbd⟩ : ∃ b, b = min i j := ⟨_, rfl⟩
  have hb1 : b ≤ i ∧ b ≤ j ∧ -1074 ≤ b := by omega
  rw [show (i + 1074).toNat = (i - b).toNat + (b + 1074).toNat by omega, signed_scale] at hx
  rw [show (j + 1074).toNat = (j - b).toNat + (b + 1074).toNat by omega, signed_scale] at hy
  simp only [Ieee.Datum.sum, ← hbd, Option.map_some]
  obtain ⟨T, hT⟩ : ∃ T, T = Ieee.signed s m (i - b).toNat + Ieee.signed t n (j - b).toNat := ⟨_, rfl⟩
  rw [← hT]
  have hTe : T * ((2 ^ (b + 1074).toNat : Nat) : Int) = v + u := by rw [hT, Int.add_mul, hx, hy]
  have hp : ((2 ^ (b + 1074).toNat : Nat) : Int) ≠ 0 := by have := Nat.two_pow_pos (b + 1074).toNat; omega
  refine ⟨_, rfl, fun h0 => ?_, fun h0 => ?_⟩
  · have hT0 : T = 0 := by
      rw [h0] at hTe
      rcases Int.mul_eq_zero.1 hTe with h | h
      · exact h
      · exact absurd h hp
    show FV (Ieee.double.nearest _ T.natAbs b) 0
    rw [hT0]
    exact fv_zero _
  · have hT0 : T ≠ 0 := fun h => h0 (by rw [← hTe, h, Int.zero_mul])
    show Ieee.double.nearest _ T.natAbs b = _
    refine write_val c hc hb1.2.2 ?_ h0
    rw [if_neg hT0, ← hTe, signed_eq, Int.natCast_mul, ← Int.mul_assoc]
    congr 1
    by_cases hn : T < 0
    · simp [hn]; omega
    · simp [hn]; omega
/-- A product of finite floats: in units of 2 ^ -2148 its value is the product of the values. -/
theorem fv_mul {x y : Nat} {v u : Int} (hx : FV x v) (hy : FV y u) : ∃ r, floatBits .mul .f64 x y = some r ∧ (v * u = 0 → FV r 0) ∧ (v * u ≠ 0 → r = Ieee.double.word (decide (v * u < 0)) (min (rungU (v.natAbs * u.natAbs)) 9218868437227405312)) := by
  obtain ⟨s, m, i, h1, h2, h3⟩ := hx.read
  obtain ⟨t, n, j, k1, k2, k3⟩ := hy.read
  rw [signed_eq] at h3 k3
  obtain ⟨A, hA⟩ : ∃ A, A = m * 2 ^ (i + 1074).toNat := ⟨_, rfl⟩
  obtain ⟨B, hB⟩ : ∃ B, B = n * 2 ^ (j + 1074).toNat := ⟨_, rfl⟩
  rw [← hA] at h3
  rw [← hB] at k3
  have ha : A = v.natAbs := by cases s <;> simp at h3 <;> omega
  have hb : B = u.natAbs := by cases t <;> simp at k3 <;> omega
  refine ⟨Ieee.double.nearest (s ^^ t) (m * n) (i + j), ?_, fun h0 => ?_, fun h0 => ?_⟩
  · show (Ieee.Datum.product (Ieee.double.read x) (Ieee.double.read y)).map Ieee.double.write = _
    rw [h1, k1]; rfl
  · have hz : m * n = 0 := by
      have hp1 := Nat.two_pow_pos (i + 1074).toNat
      have hp2 := Nat.two_pow_pos (j + 1074).toNat
      rcases Int.mul_eq_zero.1 h0 with h5 | h5
      · have : A = 0 := by omega
        rw [this] at hA
        rcases Nat.mul_eq_zero.1 hA.symm with h6 | h6
        · rw [h6, Nat.zero_mul]
        · omega
      · have : B = 0 := by omega
        rw [this] at hB
        rcases Nat.mul_eq_zero.1 hB.symm with h6 | h6
        · rw [h6, Nat.mul_zero]
        · omega
    rw [hz]
    exact fv_zero _
  · have hv : v ≠ 0 := fun h => h0 (by rw [h, Int.zero_mul])
    have hu : u ≠ 0 := fun h => h0 (by rw [h, Int.mul_zero])
    have hm : m ≠ 0 := fun h => by rw [h, Nat.zero_mul] at hA; omega
    have hn : n ≠ 0 := fun h => by rw [h, Nat.zero_mul] at hB; omega
    rw [nearest_val _ _ _ (Nat.mul_ne_zero hm hn) (by omega)]
    have e1 : m * n * 2 ^ (i + j + 2148).toNat = v.natAbs * u.natAbs := by
      rw [← ha, ← hb, hA, hB, show (i + j + 2148).toNat = (i + 1074).toNat + (j + 1074).toNat by omega, Nat.pow_add, Nat.mul_mul_mul_comm]
    rw [e1]
    congr 1
    have hs : s = decide (v < 0) := by cases s <;> simp at h3 ⊢ <;> omega
    have ht : t = decide (u < 0) := by cases t <;> simp at k3 ⊢ <;> omega
    rw [hs, ht]
    rcases Int.lt_or_gt_of_ne hv with a | a <;> rcases Int.lt_or_gt_of_ne hu with b | b
    · have := Int.mul_pos_of_neg_of_neg a b; simp [a, b]; omega
    · have := Int.mul_neg_of_neg_of_pos a b; simp [a, show ¬ u < 0 by omega, this]
    · have := Int.mul_neg_of_pos_of_neg a b; simp [b, show ¬ v < 0 by omega, this]
    · have := Int.mul_pos a b; simp [show ¬ v < 0 by omega, show ¬ u < 0 by omega]; omega
end Go.Lk
