/-
  A part of the proof: what functions that the statement reaches do, or a plain law on what they do. Each theorem holds under its own premises alone.
-/
import Derived.Test.YtfehgelggjpaaaaTQ9
namespace Go.Lk
open Go
/-! ### The steps of a smoothing, and its slack -/
theorem FV.unique {x : Nat} {v u : Int} (h : FV x v) (k : FV x u) : v = u := by
  have h1 := h.order k
  rw [h.order h] at h1
  rw [Int.compare_eq_eq.2 rfl] at h1
  injection h1 with h1
  exact Int.compare_eq_eq.1 h1.symm
/-- The slack behind n rounds is at least n parts. -/
theorem fv_slack {n T y : Nat} (hn : 1 ≤ n) (hn2 : n ≤ 200) (hy : FV y (T : Int)) (hT : T ≤ Bd) :
    ∃ a r, ∃ O : Nat, floatBits .mul .f64 4382002437431492608 y = some a ∧ floatBits .mul .f64 (FloatKind.f64.nearest (n : Int)) a = some r ∧ FV r (O : Int) ∧ n * (T / 2251799813685248) ≤ O ∧ O ≤ 1024 * Bd := by
  obtain ⟨c, hc⟩ : ∃ c, c = 1074 := ⟨_, rfl⟩
  obtain ⟨e, he⟩ : ∃ e, e = 1024 := ⟨_, rfl⟩
  obtain ⟨E, hE⟩ : ∃ E, E = T / 2251799813685248 := ⟨_, rfl⟩
  have hG := Bd_gr
  have hce : 2 ^ c = 1125899906842624 * 2 ^ e := by
    rw [show c = 50 + e by omega, Nat.pow_add]
  have hp0 : 0 < 2 ^ e := Nat.two_pow_pos e
  rw [← hE]
  obtain ⟨a, ha, ha0, ha1⟩ := fv_mul (fv_eps e he) hy
  obtain ⟨K, hK, hK1, hK2⟩ : ∃ K : Nat, FV a (K : Int) ∧ 9007199254740992 * (2 * E) ≤ 9007199254740992 * K + 2 * E ∧ K ≤ 2 * Bd := by
    by_cases h0 : T = 0
    · refine ⟨0, ha0 (by rw [h0]; simp), ?_, by omega⟩
      have : E = 0 := by rw [hE, h0]
      omega
    · have hV : 2 ^ e * T ≠ 0 := Nat.mul_ne_zero (by omega) h0
      have hle : 2 ^ e * T ≤ T * 2 ^ c := by
        rw [Nat.mul_comm]; exact Nat.mul_le_mul_left _ (by rw [hce]; omega)
      have h2 : rungU (2 ^ e * T) ≤ rR c T := rungU_mono hV hle
      have h3 := rR_lt (c := c) (T := T) hc (by unfold Gr at hG; omega) h0
      have h5 := rv_le.2 h2
      have h6 := rR_err c T hc h0
      have hVi : ((2 ^ e : Nat) : Int) * (T : Int) = ((2 ^ e * T : Nat) : Int) := (Int.natCast_mul ..).symm
      have h7 := ha1 (by rw [hVi]; omega)
      rw [hVi, Int.natAbs_natCast, Int.natAbs_natCast, Nat.min_eq_left (by omega)] at h7
      refine ⟨rv (rungU (2 ^ e * T)), ?_, ?_, by omega⟩
      · rw [h7, decide_eq_false (Int.not_lt.2 (Int.natCast_nonneg _))]
        exact ⟨false, _, rfl, by omega, by simp⟩
      · by_cases hE0 : E = 0
        · rw [hE0]; omega
        · have hle2 : 2 * E * 2 ^ c ≤ 2 ^ e * T := by
            rw [hce, ← Nat.mul_assoc, Nat.mul_comm]
            exact Nat.mul_le_mul_left _ (by omega)
          have h8 : rR c (2 * E) ≤ rungU (2 ^ e * T) := rungU_mono (Nat.mul_ne_zero (by omega) (by have := Nat.two_pow_pos c; omega)) hle2
          have h9 := rv_le.2 h8
          have h10 := rR_err c (2 * E) hc (by omega)
          omega
  obtain ⟨r, hr, hr0, hr1⟩ := fv_mul (fv_small hc hn2) hK
  refine ⟨a, r, ?_⟩
  by_cases h0 : K = 0
  · refine ⟨0, ha, hr, hr0 (by rw [h0]; simp), ?_, by omega⟩
    have : E = 0 := by omega
    rw [this]; simp
  · have hX0 : n * K ≠ 0 := Nat.mul_ne_zero (by omega) h0
    obtain ⟨X, hX⟩ : ∃ X, X = n * K := ⟨_, rfl⟩
    obtain ⟨Y, hY⟩ : ∃ Y, Y = n * E := ⟨_, rfl⟩
    have hXle : X ≤ 400 * Bd := by rw [hX]; exact Nat.le_trans (Nat.mul_le_mul hn2 hK2) (by omega)
    have hXY : 9007199254740992 * (2 * Y) ≤ 9007199254740992 * X + 2 * Y := by
      have := Nat.mul_le_mul_left n hK1
      rw [Nat.mul_add] at this
      have e1 : n * (9007199254740992 * (2 * E)) = 9007199254740992 * (2 * Y) := by rw [hY, Nat.mul_left_comm, Nat.mul_left_comm n 2]
      have e2 : n * (9007199254740992 * K) = 9007199254740992 * X := by rw [hX, Nat.mul_left_comm]
      have e3 : n * (2 * E) = 2 * Y := by rw [hY, Nat.mul_left_comm]
      omega
    have hVi : ((n * 2 ^ c : Nat) : Int) * (K : Int) = ((n * K * 2 ^ c : Nat) : Int) := by
      rw [← Int.natCast_mul, Nat.mul_right_comm]
    have hVn : n * 2 ^ c * K = X * 2 ^ c := by rw [hX, Nat.mul_right_comm]
    have hp : 0 < X * 2 ^ c := Nat.mul_pos (by omega) (Nat.two_pow_pos c)
    have h3 := rR_lt (c := c) (T := X) hc (by unfold Gr at hG; omega) (by omega)
    have h6 := rR_err c X hc (by omega)
    rw [← hX] at hVi
    have h7 := hr1 (by rw [hVi]; omega)
    rw [hVi, Int.natAbs_natCast, Int.natAbs_natCast, hVn] at h7
    have h8 : rungU (X * 2 ^ c) = rR c X := rfl
    rw [h8, Nat.min_eq_left (by omega), decide_eq_false (Int.not_lt.2 (Int.natCast_nonneg _))] at h7
    refine ⟨rv (rR c X), ha, hr, ⟨false, _, h7, h3, by simp⟩, ?_, by omega⟩
    rw [← hY]; omega
theorem fv_step {c : Nat} (hc : c = 1074) {s x l : Nat} {S X L : Int} {T E : Nat} (hs : FV s S) (S0 : 0 ≤ S) (S1 : S ≤ ((2 ^ c : Nat) : Int)) (hx : FV x X) (hl : FV l L) (hX : X.natAbs ≤ T) (hT : T ≤ Bd) (hLT : L.natAbs ≤ T + 200 * E) (hE : E = T / 2251799813685248) :
    ∃ L', FV (fop .add l (fop .mul s (fop .sub x l))) L' ∧ ((L ≤ L' ∧ L' ≤ X + E) ∨ (X - E ≤ L' ∧ L' ≤ L)) ∧ (S = ((2 ^ c : Nat) : Int) → (L' - X).natAbs ≤ E) ∧ (X = L → L' = L ∧ FV (fop .sub x l) 0) := by
  have hG := Bd_gr
  obtain ⟨d, hd, hD⟩ := fv_sub c hc hx hl (by unfold Gr at hG; omega)
  have e1 := rd_err c hc (X - L)
  obtain ⟨p, P, hp, hP, hPD⟩ := fv_share c hc hs hD S0 S1 (by unfold Gr at hG; omega)
  obtain ⟨r, hr, hR⟩ := fv_add c hc hl hP (by unfold Gr at hG; omega)
  have ed : fop .sub x l = d := by unfold fop; rw [hd]; rfl
  have ep : fop .mul s d = p := by unfold fop; rw [hp]; rfl
  have er : fop .add l p = r := by unfold fop; rw [hr]; rfl
  rw [ed, ep, er]
  refine ⟨_, hR, step_drift c hc T E L X P (rd_fv hc hl) hX hLT hE hPD, fun hS => ?_, fun hXL => ?_⟩
  · have hPeq : P = rd c (X - L) := by
      by_cases h0 : rd c (X - L) = 0
      · omega
      · obtain ⟨p', hp', _, hn⟩ := fv_mul hs hD
        have hpp : p' = p := by rw [hp] at hp'; cases hp'; rfl
        have h1 := hn (by rw [hS]; exact Int.mul_ne_zero (by have := Nat.two_pow_pos c; omega) h0)
        have h2 : S.natAbs * (rd c (X - L)).natAbs = (rd c (X - L)).natAbs * 2 ^ c := by rw [hS, Int.natAbs_natCast, Nat.mul_comm]
        have h3 : rungU ((rd c (X - L)).natAbs * 2 ^ c) = rR c (rd c (X - L)).natAbs := rfl
        have h4 : (S * rd c (X - L) < 0) = (rd c (X - L) < 0) := by
          have hpos : (0 : Int) < S := by rw [hS]; have := Nat.two_pow_pos c; omega
          apply propext
          constructor
          · intro h
            rcases Int.lt_or_gt_of_ne h0 with h5 | h5
            · exact h5
            · have := Int.mul_pos hpos h5; omega
          · intro h; exact Int.mul_neg_of_pos_of_neg hpos h
        rw [h2, h3] at h1
        simp only [h4] at h1
        have h5 := fv_word (c := c) (T := rd c (X - L)) hc h0 (by unfold Gr at hG; omega)
        rw [← h1, rd_fv hc hD, hpp] at h5
        exact hP.unique h5
    rw [hPeq]
    have e2 := rd_err c hc (L + rd c (X - L))
    omega
  · have h0 : X - L = 0 := by omega
    rw [h0, rd_zero] at hPD hD
    obtain rfl : P = 0 := by omega
    rw [Int.add_zero, rd_fv hc hl]
    exact ⟨rfl, hD⟩
/-- The checks of a step. -/
theorem fv_checks {c : Nat} (hc : c = 1074) {x y z o : Nat} {L lo hi : Int} {O : Nat} (hx : FV x L) (hy : FV y lo) (hz : FV z hi) (ho : FV o (O : Int)) (h1 : lo - O ≤ L) (h2 : L ≤ hi + O) (hb : lo.natAbs ≤ Bd) (hb2 : hi.natAbs ≤ Bd) (hO : O ≤ 1024 * Bd) :
    (∃ r, floatBits .sub .f64 y o = some r ∧ (FloatKind.f64.format.order x r == some .gt || FloatKind.f64.format.order x r == some .eq) = true) ∧
    (∃ r, floatBits .add .f64 z o = some r ∧ (FloatKind.f64.format.order x r == some .lt || FloatKind.f64.format.order x r == some .eq) = true) := by
  have hG := Bd_gr
  obtain ⟨r, hr, hR⟩ := fv_sub c hc hy ho (by unfold Gr at hG; omega)
  obtain ⟨q, hq, hQ⟩ := fv_add c hc hz ho (by unfold Gr at hG; omega)
  have m1 := rd_mono (c := c) h1
  have m2 := rd_mono (c := c) h2
  rw [rd_fv hc hx] at m1 m2
  exact ⟨⟨r, hr, by rw [hx.geq hR]; simpa using m1⟩, ⟨q, hq, by rw [hx.leq hQ]; simpa using m2⟩⟩
theorem fv_near {c : Nat} (hc : c = 1074) {x y o : Nat} {L X : Int} {O : Nat} (hx : FV x L) (hy : FV y X) (ho : FV o (O : Int)) (h : (L - X).natAbs ≤ O) (hO : O ≤ 1024 * Bd) :
    ∃ r, floatBits .sub .f64 x y = some r ∧ r < 18446744073709551616 ∧ (FloatKind.f64.format.order (r % 9223372036854775808) o == some .lt || FloatKind.f64.format.order (r % 9223372036854775808) o == some .eq) = true := by
  have hG := Bd_gr
  obtain ⟨r, hr, hR⟩ := fv_sub c hc hx hy (by unfold Gr at hG; omega)
  have m1 := rd_mono (c := c) (T := L - X) (S := O) (by omega)
  have m2 := rd_mono (c := c) (T := -O) (S := L - X) (by omega)
  have m3 : rd c (-(O : Int)) = -rd c O := by
    by_cases h0 : (O : Int) = 0
    · rw [h0]; simp [rd_zero]
    · rw [rd_neg (by omega), rd_pos (by omega), Int.natAbs_neg]
  rw [m3, rd_fv hc ho] at m2
  rw [rd_fv hc ho] at m1
  exact ⟨r, hr, hR.lt64, by rw [hR.abs.leq ho]; simp; omega⟩
end Go.Lk
