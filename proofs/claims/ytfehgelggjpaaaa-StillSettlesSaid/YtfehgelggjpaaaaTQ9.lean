/-
  A part of the proof: what functions that the statement reaches do, or a plain law on what they do. Each theorem holds under its own premises alone.
-/
import Derived.Test.YtfehgelggjpaaaaTQ8
import Derived.Test.YtfehgelggjpaaaaKit
namespace Go.Lk
open Go
/-! ### Values of some floats -/
theorem rv_norm {r m e : Nat} (h : r = (e + 1) * 4503599627370496 + m) (hm : m < 4503599627370496) : rv r = (4503599627370496 + m) * 2 ^ e := by
  unfold rv
  rw [if_neg (by omega), show r % 4503599627370496 = m by omega, show r / 4503599627370496 - 1 = e by omega]
theorem two52 : (2 : Nat) ^ 52 = 4503599627370496 := by decide
theorem FV.nat {r : Nat} (h : r < 9218868437227405312) : FV r (rv r : Int) := ⟨false, r, by simp [Ieee.Format.word], h, by simp⟩
theorem fv_0 : FV 0 0 := FV.nat (r := 0) (by decide)
theorem rv_one (c : Nat) (hc : c = 1074) : rv 4607182418800017408 = 2 ^ c := by
  obtain ⟨e, he⟩ : ∃ e, e = 1022 := ⟨_, rfl⟩
  rw [rv_norm (m := 0) (e := e) (by omega) (by decide), Nat.add_zero, ← two52, ← Nat.pow_add]
  congr 1; omega
theorem fv_one (c : Nat) (hc : c = 1074) : FV 4607182418800017408 ((2 ^ c : Nat) : Int) := by
  rw [← rv_one c hc]; exact FV.nat (by decide)
theorem rv_eps (e : Nat) (he : e = 1024) : rv 4382002437431492608 = 2 ^ e := by
  obtain ⟨f, hf⟩ : ∃ f, f = 972 := ⟨_, rfl⟩
  rw [rv_norm (m := 0) (e := f) (by omega) (by decide), Nat.add_zero, ← two52, ← Nat.pow_add]
  congr 1; omega
theorem fv_eps (e : Nat) (he : e = 1024) : FV 4382002437431492608 ((2 ^ e : Nat) : Int) := by
  rw [← rv_eps e he]; exact FV.nat (by decide)
/-- 2 ^ 900, in units -/
def Bd : Nat := rv 8660422083433463808
/-- the greatest finite float, in units -/
def Gr : Nat := rv 9218868437227405311
theorem fv_bd : FV 8660422083433463808 (Bd : Int) := FV.nat (by decide)
theorem Bd_pos : 0 < Bd := Nat.pos_of_ne_zero fun h => absurd (rv_zero.1 h) (by decide)
theorem Bd_gr : 1048576 * Bd ≤ Gr := by
  obtain ⟨e, he⟩ : ∃ e, e = 1922 := ⟨_, rfl⟩
  obtain ⟨f, hf⟩ : ∃ f, f = 2045 := ⟨_, rfl⟩
  unfold Bd Gr
  rw [rv_norm (r := 8660422083433463808) (m := 0) (e := e) (by omega) (by decide), rv_norm (r := 9218868437227405311) (m := 4503599627370495) (e := f) (by omega) (by decide)]
  have h1 : 2 ^ (e + 20) ≤ 2 ^ f := Nat.pow_le_pow_right (by decide) (by omega)
  rw [Nat.pow_add, show (2 : Nat) ^ 20 = 1048576 by decide] at h1
  omega
theorem FV.neq {x y : Nat} {v u : Int} (hx : FV x v) (hy : FV y u) : FloatKind.f64.format.order x y ≠ none := by rw [hx.order hy]; simp
theorem FV.leq {x y : Nat} {v u : Int} (hx : FV x v) (hy : FV y u) : (FloatKind.f64.format.order x y == some .lt || FloatKind.f64.format.order x y == some .eq) = decide (v ≤ u) := by
  rw [hx.order hy]
  rcases Int.lt_trichotomy v u with h | h | h
  · rw [Int.compare_eq_lt.2 h]; simp; omega
  · rw [Int.compare_eq_eq.2 h]; simp; omega
  · rw [Int.compare_eq_gt.2 h]; simp; omega
theorem FV.geq {x y : Nat} {v u : Int} (hx : FV x v) (hy : FV y u) : (FloatKind.f64.format.order x y == some .gt || FloatKind.f64.format.order x y == some .eq) = decide (u ≤ v) := by
  rw [hx.order hy]
  rcases Int.lt_trichotomy v u with h | h | h
  · rw [Int.compare_eq_lt.2 h]; simp; omega
  · rw [Int.compare_eq_eq.2 h]; simp; omega
  · rw [Int.compare_eq_gt.2 h]; simp; omega
theorem FV.eql {x y : Nat} {v u : Int} (hx : FV x v) (hy : FV y u) : (FloatKind.f64.format.order x y == some .eq) = decide (v = u) := by
  rw [hx.order hy]
  rcases Int.lt_trichotomy v u with h | h | h
  · rw [Int.compare_eq_lt.2 h]; simp; omega
  · rw [Int.compare_eq_eq.2 h]; simp; omega
  · rw [Int.compare_eq_gt.2 h]; simp; omega
theorem FV.max {x y : Nat} {v u : Int} (hx : FV x v) (hy : FV y u) : FV (fmax x y) (max v u) := by
  unfold fmax
  rw [hx.order hy]
  rcases Int.lt_trichotomy v u with h | h | h
  · rw [Int.compare_eq_lt.2 h, show Max.max v u = u by omega]; exact hy
  · rw [Int.compare_eq_eq.2 h, show Max.max v u = u by omega]
    dsimp only
    split
    · exact hy
    · rw [← h]; exact hx
  · rw [Int.compare_eq_gt.2 h, show Max.max v u = v by omega]; exact hx
theorem FV.min {x y : Nat} {v u : Int} (hx : FV x v) (hy : FV y u) : FV (fmin x y) (min v u) := by
  unfold fmin
  rw [hx.order hy]
  rcases Int.lt_trichotomy v u with h | h | h
  · rw [Int.compare_eq_lt.2 h, show Min.min v u = v by omega]; exact hx
  · rw [Int.compare_eq_eq.2 h, show Min.min v u = u by omega]
    dsimp only
    split
    · rw [← h]; exact hx
    · exact hy
  · rw [Int.compare_eq_gt.2 h, show Min.min v u = u by omega]; exact hy
theorem FV.num {x : Nat} {v : Int} (h : FV x v) : isnan x = false := by
  obtain ⟨s, m, p, h1, _, _⟩ := h.read
  show (Ieee.double.read x).isNaN = false
  rw [h1]; rfl
theorem FV.fin {x : Nat} {v : Int} (h : FV x v) : v.natAbs ≤ Gr := by
  obtain ⟨s, r, _, h2, h3⟩ := h
  have := rv_le.2 (show r ≤ 9218868437227405311 by omega)
  have : v.natAbs = rv r := by rw [h3]; cases s <;> simp
  unfold Gr; omega
theorem FV.lt64 {x : Nat} {v : Int} (h : FV x v) : x < 18446744073709551616 := by
  obtain ⟨s, r, rfl, hr, _⟩ := h
  unfold Ieee.Format.word
  rw [double_sw]
  split <;> omega
theorem FV.abs {x : Nat} {v : Int} (h : FV x v) : FV (x % 9223372036854775808) (v.natAbs : Int) := by
  obtain ⟨s, r, rfl, hr, rfl⟩ := h
  refine ⟨false, r, ?_, hr, ?_⟩
  · unfold Ieee.Format.word
    rw [double_sw]
    cases s <;> simp <;> omega
  · cases s <;> simp
theorem FV.cn {x y : Nat} {v : Int} (h : FV y v) (he : cn x = y) : FV x v := by
  cases hx : isnan x with
  | true =>
    have h1 := isnan_cn x
    rw [he, h.num, hx] at h1
    cases h1
  | false => rw [cn_num hx] at he; rw [he]; exact h
theorem FV.fop {op : BinOp} {x y r : Nat} {v : Int} (hr : floatBits op .f64 x y = some r) (h : FV r v) : FV (fop op x y) v := by
  unfold Lk.fop; rw [hr]; exact h
theorem FV.fs {op : BinOp} {x y r z : Nat} {v : Int} (hr : floatBits op .f64 x y = some r) (h : FV r v) (hz : Fs op x y z) : FV z v := by
  rcases hz with hz | ⟨hz, _⟩
  · rw [hr] at hz; cases hz; exact h
  · rw [hr] at hz; cases hz
/-- A word whose size is at most 2 ^ 900 is finite. -/
theorem fv_of_abs {x : Nat} (hx : x < 18446744073709551616) (h : (FloatKind.f64.format.order (x % 9223372036854775808) 8660422083433463808 == some .lt || FloatKind.f64.format.order (x % 9223372036854775808) 8660422083433463808 == some .eq) = true) : ∃ v, FV x v ∧ v.natAbs ≤ Bd := by
  rcases classify hx with ⟨v, hv⟩ | ⟨s, hs⟩ | hn
  · rw [hv.abs.leq fv_bd] at h
    have := of_decide_eq_true h
    exact ⟨v, hv, by omega⟩
  · exfalso
    have hq : x = 9218868437227405312 ∨ x = 18442240474082181120 := by
      unfold Ieee.Format.read at hs
      rw [double_sw, double_bin, double_inf] at hs
      by_cases a : x % 9223372036854775808 < 4503599627370496
      · simp [a] at hs
      · by_cases b : x % 9223372036854775808 < 9218868437227405312
        · simp [a, b] at hs
        · by_cases d : x % 9223372036854775808 = 9218868437227405312
          · omega
          · simp [a, b, d] at hs
    have hm : x % 9223372036854775808 = 9218868437227405312 := by omega
    rw [hm] at h
    revert h; decide +kernel
  · exfalso
    have h1 : isnan (x % 9223372036854775808) = true := by
      refine isnan_of_rung ?_
      obtain ⟨s, f, hs⟩ := nan_read hn
      have hq : 9218868437227405312 < x % 9223372036854775808 := by
        unfold Ieee.Format.read at hs
        rw [double_sw, double_bin, double_inf] at hs
        by_cases a : x % 9223372036854775808 < 4503599627370496
        · simp [a] at hs
        · by_cases b : x % 9223372036854775808 < 9218868437227405312
          · simp [a, b] at hs
          · by_cases d : x % 9223372036854775808 = 9218868437227405312
            · simp [a, b, d] at hs
            · omega
      omega
    rw [order_nanL h1] at h
    revert h; decide
/-- Shares that a map takes. -/
theorem fv_of_share {x c : Nat} (hc : c = 1074) (hx : x < 18446744073709551616) (h : ((FloatKind.f64.format.order x 0 == some .gt || FloatKind.f64.format.order x 0 == some .eq) && (FloatKind.f64.format.order x 4607182418800017408 == some .lt || FloatKind.f64.format.order x 4607182418800017408 == some .eq)) = true) : ∃ S, FV x S ∧ 0 ≤ S ∧ S ≤ ((2 ^ c : Nat) : Int) := by
  rw [Bool.and_eq_true] at h
  rcases classify hx with ⟨v, hv⟩ | ⟨s, hs⟩ | hn
  · rw [hv.geq fv_0, hv.leq (fv_one c hc)] at h
    exact ⟨v, hv, of_decide_eq_true h.1, of_decide_eq_true h.2⟩
  · exfalso
    have hq : x = 9218868437227405312 ∨ x = 18442240474082181120 := by
      unfold Ieee.Format.read at hs
      rw [double_sw, double_bin, double_inf] at hs
      by_cases a : x % 9223372036854775808 < 4503599627370496
      · simp [a] at hs
      · by_cases b : x % 9223372036854775808 < 9218868437227405312
        · simp [a, b] at hs
        · by_cases d : x % 9223372036854775808 = 9218868437227405312
          · omega
          · simp [a, b, d] at hs
    rcases hq with rfl | rfl <;> (revert h; decide +kernel)
  · exfalso
    rw [order_nanL hn] at h
    exact absurd h.1 (by decide)
theorem Rep.fv {x : Nat} {v : Int} (h : Rep x v) (c : Nat) (hc : c = 1074) (hx : x < 18446744073709551616) : FV x (v * ((2 ^ c : Nat) : Int)) := by
  obtain ⟨s, m, p, h1, h2, _, h3⟩ := h.read c hc
  rcases classify hx with ⟨u, hu⟩ | ⟨s', hs⟩ | hn
  · obtain ⟨t, n, q, k1, k2, k3⟩ := hu.read
    rw [h1] at k1
    cases k1
    rw [h3] at k3
    rw [k3]; exact hu
  · rw [h1] at hs; cases hs
  · obtain ⟨s', f, hs⟩ := nan_read hn
    rw [h1] at hs; cases hs
theorem fv_small {n c : Nat} (hc : c = 1074) (hn : n ≤ 200) : FV (FloatKind.f64.nearest (n : Int)) ((n * 2 ^ c : Nat) : Int) := by
  have h1 := Rep.fv (rep_nearest (n : Int) (by omega)) c hc (by
    have : ∀ n < 201, FloatKind.f64.nearest ((n : Nat) : Int) < 18446744073709551616 := by decide +kernel
    exact this n (by omega))
  rw [Int.natCast_mul]; exact h1
end Go.Lk
