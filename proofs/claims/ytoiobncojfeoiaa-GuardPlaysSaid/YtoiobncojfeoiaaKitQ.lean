/-
  A part of the proof: laws for walks, and plain laws, over any program of the model. Each theorem holds under its own premises alone.
-/
import Derived.Test.YtoiobncojfeoiaaKit
namespace Go.Lk
open Go
/-! ### Rounding, as a law of whole numbers: V in units of 2 ^ -2148 -/
/-- V / 2 ^ d, to the nearest, ties to even -/
def rne (V d : Nat) : Nat := V / 2 ^ d + (decide (2 ^ d < 2 * (V % 2 ^ d)) || (2 ^ d == 2 * (V % 2 ^ d) && V / 2 ^ d % 2 == 1)).toNat
theorem rne_le {V W d : Nat} (h : V ≤ W) : rne V d ≤ rne W d := by
  unfold rne
  have hp : 0 < 2 ^ d := Nat.two_pow_pos d
  generalize 2 ^ d = g at hp
  have h1 : V / g ≤ W / g := Nat.div_le_div_right h
  rcases Nat.lt_or_ge (V / g) (W / g) with h2 | h2
  · have : ∀ b : Bool, b.toNat ≤ 1 := fun b => by cases b <;> decide
    have h3 := this (decide (g < 2 * (V % g)) || (g == 2 * (V % g) && V / g % 2 == 1))
    omega
  · have h3 : V / g = W / g := Nat.le_antisymm h1 h2
    have e1 := Nat.div_add_mod V g
    have e2 := Nat.div_add_mod W g
    rw [h3] at e1 ⊢
    have h4 : V % g ≤ W % g := by omega
    refine Nat.add_le_add_left ?_ _
    by_cases a : g < 2 * (V % g)
    · have b : g < 2 * (W % g) := by omega
      simp [a, b]
    · by_cases c : g = 2 * (V % g)
      · by_cases b : g < 2 * (W % g)
        · simp only [b, decide_true, Bool.true_or]
          cases (decide (g < 2 * (V % g)) || (g == 2 * (V % g) && W / g % 2 == 1)) <;> decide
        · have d' : V % g = W % g := by omega
          rw [d']; exact Nat.le_refl _
      · have : (decide (g < 2 * (V % g)) || (g == 2 * (V % g) && W / g % 2 == 1)) = false := by
          simp [a, c]
        rw [this]; exact Nat.zero_le _
theorem rne_exact (q d : Nat) : rne (q * 2 ^ d) d = q := by
  unfold rne
  have hp : 0 < 2 ^ d := Nat.two_pow_pos d
  rw [Nat.mul_div_cancel _ hp, Nat.mul_mod_left]
  have h3 : ¬ 2 ^ d < 2 * 0 := by omega
  have h4 : (2 ^ d == 2 * 0) = false := by simp
  simp [h3]
/-- the place of the last digit kept, above 2 ^ -2148 -/
def lastU (V : Nat) : Nat := max (V.log2 - 52) 1074
def rungU (V : Nat) : Nat := (lastU V - 1074) * 4503599627370496 + rne V (lastU V)
theorem rne_lt {V d k : Nat} (h : V < 2 ^ (d + k)) : rne V d ≤ 2 ^ k := by
  have h1 := rne_le (d := d) (Nat.le_of_lt h)
  rw [Nat.pow_add, Nat.mul_comm, rne_exact] at h1
  exact h1
theorem rne_ge {V d k : Nat} (h : 2 ^ (d + k) ≤ V) : 2 ^ k ≤ rne V d := by
  have h1 := rne_le (d := d) h
  rw [Nat.pow_add, Nat.mul_comm, rne_exact] at h1
  exact h1
theorem log2_mono {V W : Nat} (hV : V ≠ 0) (h : V ≤ W) : V.log2 ≤ W.log2 := by
  have h1 := ((Nat.log2_eq_iff hV).1 rfl).1
  have h2 := ((Nat.log2_eq_iff (by omega : W ≠ 0)).1 rfl).2
  rcases Nat.lt_or_ge W.log2 V.log2 with h3 | h3
  · have h4 : 2 ^ (W.log2 + 1) ≤ 2 ^ V.log2 := Nat.pow_le_pow_right (by decide) h3
    omega
  · exact h3
/-- Rounding is monotone. -/
theorem rungU_mono {V W : Nat} (hV : V ≠ 0) (h : V ≤ W) : rungU V ≤ rungU W := by
  have hl := log2_mono hV h
  have hl2 : lastU V ≤ lastU W := by unfold lastU; omega
  unfold rungU
  rcases Nat.lt_or_ge (lastU V) (lastU W) with h1 | h1
  · have a1 : V < 2 ^ (lastU V + 53) := by
      have h2 := ((Nat.log2_eq_iff hV).1 rfl).2
      have h3 : 2 ^ (V.log2 + 1) ≤ 2 ^ (lastU V + 53) := Nat.pow_le_pow_right (by decide) (by unfold lastU; omega)
      omega
    have a2 : 2 ^ (lastU W + 52) ≤ W := by
      have h2 := ((Nat.log2_eq_iff (by omega : W ≠ 0)).1 rfl).1
      have h3 : 2 ^ (lastU W + 52) ≤ 2 ^ W.log2 := Nat.pow_le_pow_right (by decide) (by unfold lastU at h1 ⊢; omega)
      omega
    have b1 := rne_lt a1
    have b2 := rne_ge a2
    rw [show (2 : Nat) ^ 53 = 9007199254740992 by decide] at b1
    rw [show (2 : Nat) ^ 52 = 4503599627370496 by decide] at b2
    have h5 : 1074 ≤ lastU V := by unfold lastU; omega
    omega
  · have h2 : lastU V = lastU W := by omega
    rw [h2]
    exact Nat.add_le_add_left (rne_le h) _
theorem rne_scale (m d k : Nat) : rne (m * 2 ^ k) (d + k) = rne m d := by
  unfold rne
  have hk : 0 < 2 ^ k := Nat.two_pow_pos k
  have e1 : m * 2 ^ k / 2 ^ (d + k) = m / 2 ^ d := by rw [Nat.pow_add]; exact Nat.mul_div_mul_right _ _ hk
  have e2 : m * 2 ^ k % 2 ^ (d + k) = m % 2 ^ d * 2 ^ k := by rw [Nat.pow_add]; exact Nat.mul_mod_mul_right _ _ _
  rw [e1, e2, Nat.pow_add, ← Nat.mul_assoc]
  have e3 : decide (2 ^ d * 2 ^ k < 2 * (m % 2 ^ d) * 2 ^ k) = decide (2 ^ d < 2 * (m % 2 ^ d)) := by
    rw [decide_eq_decide]; exact Nat.mul_lt_mul_right hk
  have e4 : (2 ^ d * 2 ^ k == 2 * (m % 2 ^ d) * 2 ^ k) = (2 ^ d == 2 * (m % 2 ^ d)) := by
    rw [Bool.eq_iff_iff, beq_iff_eq, beq_iff_eq]; exact Nat.mul_left_inj (by omega)
  rw [e3, e4]
theorem cut_rne (neg : Bool) (m d : Nat) (hm : m ≠ 0) : Ieee.Toward.even.cut neg m d = rne m d := by
  unfold Ieee.Toward.cut
  by_cases h : d ≤ m.log2 + 2
  · simp only [Nat.min_eq_left h, Nat.one_shiftLeft]
    rfl
  · have h1 : min d (m.log2 + 2) = m.log2 + 2 := by omega
    have h2 := ((Nat.log2_eq_iff hm).1 rfl).2
    have h3 : 2 ^ (m.log2 + 2) = 2 * 2 ^ (m.log2 + 1) := by rw [Nat.pow_succ, Nat.mul_comm]
    have h4 : 2 * m < 2 ^ (m.log2 + 2) := by omega
    have h5 : 2 ^ (m.log2 + 2) ≤ 2 ^ d := Nat.pow_le_pow_right (by decide) (by omega)
    have z : ∀ g, 2 * m < g → m / g + (decide (g < 2 * (m % g)) || (g == 2 * (m % g) && m / g % 2 == 1)).toNat = 0 := by
      intro g hg
      rw [Nat.div_eq_of_lt (by omega), Nat.mod_eq_of_lt (by omega)]
      have a : ¬ g < 2 * m := by omega
      have b : (g == 2 * m) = false := by simp; omega
      simp [a, b]
    simp only [h1, Nat.one_shiftLeft]
    unfold rne
    rw [z _ h4, z _ (by omega)]
/-- The word nearest, by the value alone. -/
theorem nearest_val (s : Bool) (m : Nat) (p : Int) (hm : m ≠ 0) (hp : -2148 ≤ p) : Ieee.double.nearest s m p = Ieee.double.word s (min (rungU (m * 2 ^ (p + 2148).toNat)) 9218868437227405312) := by
  obtain ⟨V, hV⟩ : ∃ V, V = m * 2 ^ (p + 2148).toNat := ⟨_, rfl⟩
  have hl : V.log2 = m.log2 + (p + 2148).toNat := by rw [hV, log2_mul_pow hm]
  obtain ⟨lu, hlu⟩ : ∃ lu, lu = lastU V := ⟨_, rfl⟩
  have hlast : max (p + (m.log2 : Int) - 52) (-1074) = (lu : Int) - 2148 := by rw [hlu]; unfold lastU; omega
  have hcut : Ieee.Toward.even.cut s (m <<< (p - ((lu : Int) - 2148)).toNat) (((lu : Int) - 2148) - p).toNat = rne V lu := by
    by_cases hc : (lu : Int) - 2148 ≤ p
    · have h0 : (((lu : Int) - 2148) - p).toNat = 0 := by omega
      rw [h0, cut_rne _ _ _ (by rw [Nat.shiftLeft_eq]; exact Nat.mul_ne_zero hm (Nat.pos_iff_ne_zero.1 (Nat.two_pow_pos _))), Nat.shiftLeft_eq]
      have h1 : (p + 2148).toNat = (p - ((lu : Int) - 2148)).toNat + lu := by omega
      have h2 : V = m * 2 ^ (p - ((lu : Int) - 2148)).toNat * 2 ^ lu := by rw [hV, h1, Nat.pow_add, Nat.mul_assoc]
      rw [h2, rne_exact]
      have := rne_exact (m * 2 ^ (p - ((lu : Int) - 2148)).toNat) 0
      simpa using this
    · have h0 : (p - ((lu : Int) - 2148)).toNat = 0 := by omega
      rw [h0, Nat.shiftLeft_zero, cut_rne _ _ _ hm, hV, show lu = (((lu : Int) - 2148) - p).toNat + (p + 2148).toNat by omega, rne_scale]
      congr 1
      omega
  unfold Ieee.Format.nearest
  rw [if_neg hm]
  have f1 : (Ieee.double.fractionBits : Int) = 52 := rfl
  have f2 : Ieee.double.leastPlace = -1074 := by decide
  have f3 : Ieee.double.infRung = 9218868437227405312 := rfl
  have f4 : Ieee.double.binade = 4503599627370496 := rfl
  simp only [f1, f2, hlast, hcut, f3, f4]
  rw [← hV]
  unfold rungU
  rw [← hlu]
  have h5 : ((lu : Int) - 2148 - -1074).toNat = lu - 1074 := by omega
  rw [h5]
end Go.Lk

namespace Go.Lk
open Go
/-! ### The value of a rung, in units of 2 ^ -1074 -/
def rv (r : Nat) : Nat := if r < 4503599627370496 then r else (4503599627370496 + r % 4503599627370496) * 2 ^ (r / 4503599627370496 - 1)
/-- A whole number of units, rounded: its rung. -/
def rR (c T : Nat) : Nat := rungU (T * 2 ^ c)
theorem rR_small (c T : Nat) (hc : c = 1074) (hT : T ≠ 0) (h : T < 9007199254740992) : rR c T = T := by
  have hl : T.log2 ≤ 52 := by
    have := (Nat.log2_lt hT (k := 53)).2 (by simpa using h)
    omega
  unfold rR rungU
  have h1 : lastU (T * 2 ^ c) = c := by unfold lastU; rw [log2_mul_pow hT]; omega
  rw [h1, rne_exact, hc]; omega
theorem rR_rv (c r : Nat) (hc : c = 1074) (hr : r ≠ 0) : rR c (rv r) = r := by
  unfold rv
  by_cases h : r < 4503599627370496
  · rw [if_pos h]; exact rR_small c r hc hr (by omega)
  · rw [if_neg h]
    obtain ⟨q, hq⟩ : ∃ q, q = r / 4503599627370496 - 1 := ⟨_, rfl⟩
    obtain ⟨k, hk⟩ : ∃ k, k = 4503599627370496 + r % 4503599627370496 := ⟨_, rfl⟩
    have hk2 : 4503599627370496 ≤ k ∧ k < 9007199254740992 := by omega
    rw [← hq, ← hk]
    have hk0 : k ≠ 0 := by omega
    have hl : k.log2 = 52 := (Nat.log2_eq_iff hk0).2 ⟨by simpa using hk2.1, by simpa using hk2.2⟩
    unfold rR rungU
    have h1 : lastU (k * 2 ^ q * 2 ^ c) = q + c := by
      unfold lastU
      rw [Nat.mul_assoc, ← Nat.pow_add, log2_mul_pow hk0]; omega
    rw [h1, Nat.mul_assoc, ← Nat.pow_add, rne_exact, hc]
    omega
theorem rR_mono {c T S : Nat} (hT : T ≠ 0) (h : T ≤ S) : rR c T ≤ rR c S :=
  rungU_mono (Nat.mul_ne_zero hT (Nat.pos_iff_ne_zero.1 (Nat.two_pow_pos c))) (Nat.mul_le_mul_right _ h)
theorem rv_zero {r : Nat} : rv r = 0 ↔ r = 0 := by
  unfold rv
  by_cases h : r < 4503599627370496
  · rw [if_pos h]
  · rw [if_neg h]
    have h1 : 0 < (4503599627370496 + r % 4503599627370496) * 2 ^ (r / 4503599627370496 - 1) := Nat.mul_pos (by omega) (Nat.two_pow_pos _)
    omega
theorem rv_le {r s : Nat} : rv r ≤ rv s ↔ r ≤ s := by
  have key : ∀ r s : Nat, rv r ≤ rv s → r ≤ s := fun r s h => by
    by_cases h0 : r = 0
    · omega
    · have h1 : rv r ≠ 0 := fun h => h0 (rv_zero.1 h)
      have h2 : s ≠ 0 := fun h3 => by rw [rv_zero.2 h3] at h; omega
      obtain ⟨c, hc⟩ : ∃ c, c = 1074 := ⟨_, rfl⟩
      have := rR_mono (c := c) h1 h
      rwa [rR_rv c r hc h0, rR_rv c s hc h2] at this
  refine ⟨key r s, fun h => ?_⟩
  rcases Nat.le_total (rv r) (rv s) with h1 | h1
  · exact h1
  · have := key s r h1
    have : r = s := by omega
    rw [this]; exact Nat.le_refl _
end Go.Lk

namespace Go.Lk
open Go
/-! ### Finite floats as whole numbers of units of 2 ^ -1074 -/
theorem read_word' (s : Bool) (r : Nat) (h : r < 9218868437227405312) : ∃ m p, Ieee.double.read (Ieee.double.word s r) = .number s m p ∧ -1074 ≤ p ∧ m * 2 ^ (p + 1074).toNat = rv r := by
  have h1 : ∀ b : Bool, ((Ieee.double.word b r / 9223372036854775808 % 2 == 1) = b) ∧ Ieee.double.word b r % 9223372036854775808 = r := by
    intro b
    unfold Ieee.Format.word
    rw [double_sw]
    cases b
    · simp only [Bool.false_eq_true, if_false]
      refine ⟨?_, by omega⟩
      rw [show r / 9223372036854775808 = 0 by omega]; simp
    · simp only [if_true]
      refine ⟨?_, by omega⟩
      rw [show (9223372036854775808 + r) / 9223372036854775808 = 1 by omega]; simp
  have f2 : Ieee.double.leastPlace = -1074 := by decide
  unfold Ieee.Format.read
  rw [double_sw, double_bin, double_inf, (h1 s).2]
  by_cases a : r < 4503599627370496
  · refine ⟨r, -1074, ?_, by omega, ?_⟩
    · simp only [a, if_true, f2]
      have := (h1 s).1
      rw [this]
    · simp [rv, a]
  · refine ⟨4503599627370496 + r % 4503599627370496, -1074 + (r / 4503599627370496 - 1 : Nat), ?_, by omega, ?_⟩
    · simp only [a, h, if_true, if_false, f2]
      have := (h1 s).1
      rw [this]
    · rw [rv, if_neg a]
      congr 2
      omega
/-- The float is finite, of the value v. -/
def FV (x : Nat) (v : Int) : Prop := ∃ s r, x = Ieee.double.word s r ∧ r < 9218868437227405312 ∧ v = (if s then -1 else 1) * (rv r : Int)
theorem FV.read {x : Nat} {v : Int} (h : FV x v) : ∃ s m p, Ieee.double.read x = .number s m p ∧ -1074 ≤ p ∧ Ieee.signed s m (p + 1074).toNat = v := by
  obtain ⟨s, r, rfl, hr, rfl⟩ := h
  obtain ⟨m, p, h1, h2, h3⟩ := read_word' s r hr
  exact ⟨s, m, p, h1, h2, by rw [signed_eq, h3]⟩
theorem cmp_scale (a b : Int) (k : Nat) (hk : 0 < k) : compare (a * k) (b * k) = compare a b := by
  have hk' : (0 : Int) < k := by omega
  rcases Int.lt_trichotomy a b with h | h | h
  · have h2 : a * k < b * k := Int.mul_lt_mul_of_pos_right h hk'
    rw [Int.compare_eq_lt.2 h, Int.compare_eq_lt.2 h2]
  · rw [h]
    rw [Int.compare_eq_eq.2 rfl, Int.compare_eq_eq.2 rfl]
  · have h2 : b * k < a * k := Int.mul_lt_mul_of_pos_right h hk'
    rw [Int.compare_eq_gt.2 h, Int.compare_eq_gt.2 h2]
theorem FV.order {x y : Nat} {v u : Int} (hx : FV x v) (hy : FV y u) : FloatKind.f64.format.order x y = some (compare v u) := by
  obtain ⟨s, m, i, h1, h2, h3⟩ := hx.read
  obtain ⟨t, n, j, k1, k2, k3⟩ := hy.read
  show (Ieee.double.read x).order (Ieee.double.read y) = _
  rw [h1, k1]
  simp only [Ieee.Datum.order]
  obtain ⟨b, hbd⟩ : ∃ b, b = min i j := ⟨_, rfl⟩
  have hb1 : b ≤ i ∧ b ≤ j ∧ -1074 ≤ b := by omega
  rw [show (i + 1074).toNat = (i - b).toNat + (b + 1074).toNat by omega, signed_scale] at h3
  rw [show (j + 1074).toNat = (j - b).toNat + (b + 1074).toNat by omega, signed_scale] at k3
  rw [← hbd, ← h3, ← k3, cmp_scale _ _ _ (Nat.two_pow_pos _)]
/-- A number written: of the value v, exactly, in units. -/
theorem write_val {s : Bool} {m : Nat} {p v : Int} (c : Nat) (hc : c = 1074) (hp : -1074 ≤ p) (h : Ieee.signed s m (p + 1074).toNat = v) (hv : v ≠ 0) : Ieee.double.nearest s m p = Ieee.double.word (decide (v < 0)) (min (rR c v.natAbs) 9218868437227405312) := by
  have hm : m ≠ 0 := fun h0 => by
    rw [h0, signed_eq] at h
    simp at h
    exact hv h.symm
  have h2 : 0 < m * 2 ^ (p + 1074).toNat := Nat.mul_pos (by omega) (Nat.two_pow_pos _)
  rw [signed_eq] at h
  obtain ⟨A, hA⟩ : ∃ A, A = m * 2 ^ (p + 1074).toNat := ⟨_, rfl⟩
  rw [← hA] at h h2
  have hs : s = decide (v < 0) := by
    cases s
    · simp at h ⊢; omega
    · simp at h ⊢; omega
  have habs : A = v.natAbs := by cases s <;> simp at h <;> omega
  rw [nearest_val s m p hm (by omega), hs]
  unfold rR
  rw [← habs, hA, Nat.mul_assoc, ← Nat.pow_add, show (p + 2148).toNat = (p + 1074).toNat + c by omega]
theorem fv_zero (s : Bool) : FV (Ieee.double.word s 0) 0 := ⟨s, 0, rfl, by decide, by simp [rv]⟩
/-- A sum of finite floats: the value's nearest word. -/
theorem fv_sum {s t : Bool} {m n : Nat} {i j v u : Int} (c : Nat) (hc : c = 1074) (hi : -1074 ≤ i) (hj : -1074 ≤ j) (hx : Ieee.signed s m (i + 1074).toNat = v) (hy : Ieee.signed t n (j + 1074).toNat = u) :
    ∃ r, (Ieee.Datum.sum (.number s m i) (.number t n j)).map Ieee.double.write = some r ∧ (v + u = 0 → FV r 0) ∧ (v + u ≠ 0 → r = Ieee.double.word (decide (v + u < 0)) (min (rR c (v + u).natAbs) 9218868437227405312)) := by
  obtain ⟨b, hbd⟩ : ∃ b, b = min i j := ⟨_, rfl⟩
  have hb1 : b ≤ i ∧ b ≤ j ∧ -1074 ≤ b := by omega
  rw [show (i + 1074).toNat = (i - b).toNat + (b + 1074).toNat by omega, signed_scale] at hx
  rw [show (j + 1074).toNat = (j - b).toNat + (b + 1074).toNat by omega, signed_scale] at hy
  simp only [Ieee.Datum.sum, ← hbd, Option.map_some]
  obtain ⟨T, hT⟩ : ∃ T, T = Ieee.signed s m (i - b).toNat + Ieee.signed t n (j - b).toNat := ⟨_, rfl⟩
  rw [← hT]
  have hTe : T * ((2 ^ (b + 1074).toNat : Nat) : Int) = v + u := by rw [hT, Int.add_mul, hx, hy]
  have hp : ((2 ^ (b + 1074).toNat : Nat) : Int) ≠ 0 := by have := Nat.two_pow_pos (b + 1074).toNat; omega
  refine ⟨_, rfl, fun h0 => ?_, fun h0 => ?_⟩
  · have hT0 : T = 0 := by
      rw [h0] at hTe
      rcases Int.mul_eq_zero.1 hTe with h | h
      · exact h
      · exact absurd h hp
    show FV (Ieee.double.nearest _ T.natAbs b) 0
    rw [hT0]
    exact fv_zero _
  · have hT0 : T ≠ 0 := fun h => h0 (by rw [← hTe, h, Int.zero_mul])
    show Ieee.double.nearest _ T.natAbs b = _
    refine write_val c hc hb1.2.2 ?_ h0
    rw [if_neg hT0, ← hTe, signed_eq, Int.natCast_mul, ← Int.mul_assoc]
    congr 1
    by_cases hn : T < 0
    · simp [hn]; omega
    · simp [hn]; omega
end Go.Lk

namespace Go.Lk
open Go
end Go.Lk

namespace Go.Lk
open Go
/-! ### Rounding with signs -/
def rd (c : Nat) (T : Int) : Int := if T = 0 then 0 else (if T < 0 then -1 else 1) * (rv (rR c T.natAbs) : Int)
theorem rd_zero (c : Nat) : rd c 0 = 0 := by simp [rd]
end Go.Lk

namespace Go.Lk
open Go
/-- The greatest finite rung's value bounds what does not run over. -/
theorem rR_lt {c T : Nat} (hc : c = 1074) (h : T ≤ rv 9218868437227405311) (hT : T ≠ 0) : rR c T < 9218868437227405312 := by
  have h1 := rR_mono (c := c) hT h
  rw [rR_rv c _ hc (by decide)] at h1
  omega
theorem fv_word {c : Nat} {T : Int} (hc : c = 1074) (hT : T ≠ 0) (hb : T.natAbs ≤ rv 9218868437227405311) : FV (Ieee.double.word (decide (T < 0)) (min (rR c T.natAbs) 9218868437227405312)) (rd c T) := by
  have h1 := rR_lt hc hb (by omega)
  rw [Nat.min_eq_left (by omega)]
  refine ⟨_, _, rfl, h1, ?_⟩
  unfold rd
  rw [if_neg hT]
  by_cases h : T < 0 <;> simp [h]
theorem fv_sub {x y : Nat} {v u : Int} (c : Nat) (hc : c = 1074) (hx : FV x v) (hy : FV y u) (hb : (v - u).natAbs ≤ rv 9218868437227405311) : ∃ r, floatBits .sub .f64 x y = some r ∧ FV r (rd c (v - u)) := by
  obtain ⟨s, m, i, h1, h2, h3⟩ := hx.read
  obtain ⟨t, n, j, k1, k2, k3⟩ := hy.read
  have k4 : Ieee.signed (!t) n (j + 1074).toNat = -u := by rw [signed_not, k3]
  obtain ⟨r, hr, h0, h0'⟩ := fv_sum c hc h2 k2 h3 k4
  refine ⟨r, ?_, ?_⟩
  · show (Ieee.Datum.sum (Ieee.double.read x) (Ieee.double.read y).opposite).map Ieee.double.write = some r
    rw [h1, k1]; exact hr
  · rw [← Int.sub_eq_add_neg] at h0 h0'
    by_cases hz : v - u = 0
    · rw [hz, rd_zero]; exact h0 hz
    · rw [h0' hz]; exact fv_word hc hz hb
end Go.Lk

namespace Go.Lk
open Go
/-- Any word of 64 bits: finite, infinite, or none. -/
theorem classify {x : Nat} (h : x < 18446744073709551616) : (∃ v, FV x v) ∨ (∃ s, Ieee.double.read x = .infinity s) ∨ isnan x = true := by
  obtain ⟨s, r, hx, hr⟩ : ∃ s r, x = Ieee.double.word s r ∧ r < 9223372036854775808 := by
    by_cases h1 : x < 9223372036854775808
    · exact ⟨false, x, by simp [Ieee.Format.word], h1⟩
    · exact ⟨true, x - 9223372036854775808, by simp [Ieee.Format.word, double_sw]; omega, by omega⟩
  by_cases h2 : r < 9218868437227405312
  · exact .inl ⟨_, s, r, hx, h2, rfl⟩
  · right
    by_cases h3 : r = 9218868437227405312
    · left
      subst h3
      refine ⟨s, ?_⟩
      rw [hx]
      cases s <;> decide +kernel
    · right
      refine isnan_of_rung ?_
      rw [hx]
      unfold Ieee.Format.word
      rw [double_sw]
      cases s <;> simp <;> omega
end Go.Lk

namespace Go.Lk
open Go
/-! ### One step of a smoothing -/
end Go.Lk

namespace Go.Lk
open Go
/-! ### Values of some floats -/
/-- the greatest finite float, in units -/
def Gr : Nat := rv 9218868437227405311
theorem FV.neq {x y : Nat} {v u : Int} (hx : FV x v) (hy : FV y u) : FloatKind.f64.format.order x y ≠ none := by rw [hx.order hy]; simp
theorem FV.leq {x y : Nat} {v u : Int} (hx : FV x v) (hy : FV y u) : (FloatKind.f64.format.order x y == some .lt || FloatKind.f64.format.order x y == some .eq) = decide (v ≤ u) := by
  rw [hx.order hy]
  rcases Int.lt_trichotomy v u with h | h | h
  · rw [Int.compare_eq_lt.2 h]; simp; omega
  · rw [Int.compare_eq_eq.2 h]; simp; omega
  · rw [Int.compare_eq_gt.2 h]; simp; omega
theorem FV.geq {x y : Nat} {v u : Int} (hx : FV x v) (hy : FV y u) : (FloatKind.f64.format.order x y == some .gt || FloatKind.f64.format.order x y == some .eq) = decide (u ≤ v) := by
  rw [hx.order hy]
  rcases Int.lt_trichotomy v u with h | h | h
  · rw [Int.compare_eq_lt.2 h]; simp; omega
  · rw [Int.compare_eq_eq.2 h]; simp; omega
  · rw [Int.compare_eq_gt.2 h]; simp; omega
theorem FV.eql {x y : Nat} {v u : Int} (hx : FV x v) (hy : FV y u) : (FloatKind.f64.format.order x y == some .eq) = decide (v = u) := by
  rw [hx.order hy]
  rcases Int.lt_trichotomy v u with h | h | h
  · rw [Int.compare_eq_lt.2 h]; simp; omega
  · rw [Int.compare_eq_eq.2 h]; simp; omega
  · rw [Int.compare_eq_gt.2 h]; simp; omega
theorem FV.max {x y : Nat} {v u : Int} (hx : FV x v) (hy : FV y u) : FV (fmax x y) (max v u) := by
  unfold fmax
  rw [hx.order hy]
  rcases Int.lt_trichotomy v u with h | h | h
  · rw [Int.compare_eq_lt.2 h, show Max.max v u = u by omega]; exact hy
  · rw [Int.compare_eq_eq.2 h, show Max.max v u = u by omega]
    dsimp only
    split
    · exact hy
    · rw [← h]; exact hx
  · rw [Int.compare_eq_gt.2 h, show Max.max v u = v by omega]; exact hx
theorem FV.min {x y : Nat} {v u : Int} (hx : FV x v) (hy : FV y u) : FV (fmin x y) (min v u) := by
  unfold fmin
  rw [hx.order hy]
  rcases Int.lt_trichotomy v u with h | h | h
  · rw [Int.compare_eq_lt.2 h, show Min.min v u = v by omega]; exact hx
  · rw [Int.compare_eq_eq.2 h, show Min.min v u = u by omega]
    dsimp only
    split
    · rw [← h]; exact hx
    · exact hy
  · rw [Int.compare_eq_gt.2 h, show Min.min v u = u by omega]; exact hy
theorem FV.num {x : Nat} {v : Int} (h : FV x v) : isnan x = false := by
  obtain ⟨s, m, p, h1, _, _⟩ := h.read
  show (Ieee.double.read x).isNaN = false
  rw [h1]; rfl
theorem FV.fin {x : Nat} {v : Int} (h : FV x v) : v.natAbs ≤ Gr := by
  obtain ⟨s, r, _, h2, h3⟩ := h
  have := rv_le.2 (show r ≤ 9218868437227405311 by omega)
  have : v.natAbs = rv r := by rw [h3]; cases s <;> simp
  unfold Gr; omega
theorem FV.cn {x y : Nat} {v : Int} (h : FV y v) (he : cn x = y) : FV x v := by
  cases hx : isnan x with
  | true =>
    have h1 := isnan_cn x
    rw [he, h.num, hx] at h1
    cases h1
  | false => rw [cn_num hx] at he; rw [he]; exact h
theorem FV.fop {op : BinOp} {x y r : Nat} {v : Int} (hr : floatBits op .f64 x y = some r) (h : FV r v) : FV (fop op x y) v := by
  unfold Lk.fop; rw [hr]; exact h
theorem FV.fs {op : BinOp} {x y r z : Nat} {v : Int} (hr : floatBits op .f64 x y = some r) (h : FV r v) (hz : Fs op x y z) : FV z v := by
  rcases hz with hz | ⟨hz, _⟩
  · rw [hr] at hz; cases hz; exact h
  · rw [hr] at hz; cases hz
end Go.Lk

namespace Go.Lk
open Go
/-! ### The steps of a smoothing, and its slack -/
end Go.Lk

namespace Go.Lk
open Go
/-! ### Squares are not negative; a quotient up to 1; floors of small numbers -/
end Go.Lk

namespace Go.Lk
open Go
end Go.Lk

namespace Go.Lk
open Go
/-! ### Relative errors of products and quotients; a harmonic mean -/
theorem inf_of_read {x : Nat} {s : Bool} (hx : x < 18446744073709551616) (hs : Ieee.double.read x = .infinity s) : x = 9218868437227405312 ∨ x = 18442240474082181120 := by
  unfold Ieee.Format.read at hs
  rw [double_sw, double_bin, double_inf] at hs
  by_cases a : x % 9223372036854775808 < 4503599627370496
  · simp [a] at hs
  · by_cases b : x % 9223372036854775808 < 9218868437227405312
    · simp [a, b] at hs
    · by_cases d : x % 9223372036854775808 = 9218868437227405312
      · omega
      · simp [a, b, d] at hs
theorem fop_some' {op : BinOp} {x y r : Nat} (h : floatBits op .f64 x y = some r) : fop op x y = r := by simp [fop, h]
end Go.Lk

namespace Go.Lk
open Go
end Go.Lk

namespace Go.Lk
open Go
/-! ### What two states are together: bounds -/
end Go.Lk

namespace Go.Lk
open Go
/-! ### Results of operations are words; nought added -/
end Go.Lk
