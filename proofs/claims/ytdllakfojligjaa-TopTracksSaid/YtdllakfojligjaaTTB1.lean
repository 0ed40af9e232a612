/-
  A part of the proof: what functions that the statement reaches do, or a plain law on what they do. Each theorem holds under its own premises alone.
-/
import Derived.Test.YtdllakfojligjaaTKT2
import Derived.Test.YtdllakfojligjaaTKT4
import Derived.Test.YtdllakfojligjaaKitQ
namespace Go.Proofs.Ytdllakfojligjaa
open Go Go.Lk
/-! ### A step ahead: how far the speed goes with the place -/
/-- a product with a time of a thousandth at least -/
theorem mul_low {c x t A B M : Nat} {v T : Int} (hc : c = 1074) (hx : FV x v) (ht : FV t T) (h1 : ((2 ^ c : Nat) : Int) ≤ v) (hT : ((2 ^ c : Nat) : Int) ≤ T * 1001) (hA : v ≤ ((A * 2 ^ c : Nat) : Int)) (hB : T ≤ ((B * 2 ^ c : Nat) : Int)) (hM : A * B ≤ M) (hF : Flt M) :
  ∃ z, FV (fop .mul x t) z ∧ 0 ≤ z ∧ z ≤ ((M * 2 ^ c : Nat) : Int) ∧ v ≤ 1024 * z := by
 have pc := Nat.two_pow_pos c
 have v0 : 0 < v := by omega
 have T0 : 0 < T := by omega
 obtain ⟨V, rfl⟩ : ∃ V : Nat, v = V := ⟨v.natAbs, by omega⟩
 obtain ⟨U, rfl⟩ : ∃ U : Nat, T = U := ⟨T.natAbs, by omega⟩
 have hVU : V * U ≤ M * 2 ^ c * 2 ^ c := by
  have h2 := Nat.mul_le_mul (show V ≤ A * 2 ^ c by omega) (show U ≤ B * 2 ^ c by omega)
  have h3 : A * 2 ^ c * (B * 2 ^ c) = A * B * 2 ^ c * 2 ^ c := by rw [Nat.mul_mul_mul_comm, Nat.mul_assoc (A * B)]
  have h4 := Nat.mul_le_mul_right (2 ^ c) (Nat.mul_le_mul_right (2 ^ c) hM)
  omega
 obtain ⟨r, e, h0, h5⟩ := fv_mul hx ht
 have hne : (V : Int) * (U : Int) ≠ 0 := by
  have := Int.mul_pos v0 T0
  omega
 have e1 := h5 hne
 have hneg : ¬ ((V : Int) * (U : Int) < 0) := by
  have := Int.mul_pos v0 T0
  omega
 rw [decide_eq_false hneg, Int.natAbs_natCast, Int.natAbs_natCast] at e1
 have hV0 : V * U ≠ 0 := by
  intro h
  rcases Nat.mul_eq_zero.1 h with h | h <;> omega
 obtain ⟨m, m1, m2, m3⟩ := hF
 have m4 := m3 c hc
 have hr : rungU (V * U) ≤ m := by
  have h6 := rungU_mono hV0 hVU
  have h7 := rR_rv c m hc m2
  unfold rR at h7
  rw [m4] at h7
  omega
 obtain ⟨f, hf⟩ : ∃ f, f = 1126 := ⟨_, rfl⟩
 have hlog : f ≤ (V * U).log2 := by
  refine log2_ge ?_
  have h6 : 2 ^ (c - 10) ≤ U := by
   have h7 : 2 ^ (c - 10) * 1024 = 2 ^ c := by rw [show (1024 : Nat) = 2 ^ 10 from rfl, ← Nat.pow_add]; congr 1; omega
   omega
  have h8 := Nat.mul_le_mul (show 2 ^ c ≤ V by omega) h6
  rw [← Nat.pow_add] at h8
  exact Nat.le_trans (Nat.pow_le_pow_right (by decide) (by omega)) h8
 obtain ⟨_, h9⟩ := rungU_err hc hV0 (by omega)
 have h10 := rv_le.2 hr
 rw [m4] at h10
 have h11 : rungU (V * U) < 9218868437227405312 := Nat.lt_of_le_of_lt hr m1
 rw [Nat.min_eq_left (Nat.le_of_lt h11)] at e1
 generalize rungU (V * U) = ru at e1 h9 h10 h11
 refine ⟨(rv ru : Int), by rw [fop_some' e]; exact ⟨false, ru, e1, h11, by simp⟩, Int.natCast_nonneg _, by omega, ?_⟩
 have h12 : V * 2 ^ c ≤ V * U * 1001 := by
  rw [Nat.mul_assoc]
  exact Nat.mul_le_mul_left V (by omega)
 have h13 : V * 2 ^ c ≤ 1024 * rv ru * 2 ^ c := by
  rw [Nat.mul_assoc]
  generalize rv ru * 2 ^ c = z at h9 ⊢
  generalize V * 2 ^ c = p at h12 ⊢
  generalize V * U = q at h12 h9
  omega
 have := Nat.le_of_mul_le_mul_right h13 pc
 omega
/-- a third -/
theorem third_low {c x A G : Nat} {v : Int} (hc : c = 1074) (hx : FV x v) (h1 : ((2 ^ c : Nat) : Int) ≤ v * 4096) (hA : v ≤ ((A * 2 ^ c : Nat) : Int)) (hG : G ≤ 700) (hA2 : A ≤ 2 ^ G) :
  ∃ z, FV (fop .quo x 4613937818241073152) z ∧ 0 ≤ z ∧ v ≤ 4 * z := by
 have pc := Nat.two_pow_pos c
 obtain ⟨V, rfl⟩ : ∃ V : Nat, v = V := ⟨v.natAbs, by omega⟩
 obtain ⟨g, hg⟩ : ∃ g, g = 800 := ⟨_, rfl⟩
 have h800 : 4096 * 3 ≤ 2 ^ g := Nat.le_trans (show 4096 * 3 ≤ 2 ^ 14 by decide) (pow_le (by omega))
 have h700 : A ≤ 2 ^ g := Nat.le_trans hA2 (pow_le (by omega))
 obtain ⟨r, z, e, hz, _, h3⟩ := quo_err (c := c) (g := g) (v := V) (u := 3 * 2 ^ c) hc hg hx (fv_three c hc) (by omega) (by omega)
  (by
   have h4 := Nat.mul_le_mul_left V h800
   omega)
  (by
   have h4 := Nat.mul_le_mul_right (2 ^ c) h700
   have h5 : 2 ^ g * 2 ^ c ≤ 3 * 2 ^ c * 2 ^ g := by rw [Nat.mul_comm (2 ^ g)]; exact Nat.mul_le_mul_right _ (by omega)
   omega)
 refine ⟨(z : Int), by rw [fop_some' e]; exact hz, Int.natCast_nonneg _, ?_⟩
 have h6 : V * 2 ^ c ≤ 4 * z * 2 ^ c := by
  have e2 : z * (3 * 2 ^ c) = 3 * (z * 2 ^ c) := by rw [← Nat.mul_assoc, Nat.mul_comm z 3, Nat.mul_assoc]
  rw [e2] at h3
  rw [Nat.mul_assoc]
  generalize z * 2 ^ c = Z at h3 ⊢
  generalize V * 2 ^ c = P at h3 ⊢
  omega
 have := Nat.le_of_mul_le_mul_right h6 pc
 omega
theorem gt_of {t : Nat} {T : Int} (h : FV t T) (h0 : 0 < T) : gtZ t = true := by rw [gtZ_fv h, decide_eq_true h0]
theorem ahead_rel {c X : Nat} (hc : c = 1074) (hX : X ≤ 600) {s : Stt} {t w : Nat} {T : Int} (p : NM c s.p (2 ^ X)) (q : NM c s.q (2 ^ X)) (r : NM c s.r (2 ^ X)) (ht : FV t T) (T1 : ((2 ^ c : Nat) : Int) ≤ T * 1001) (T2 : T ≤ ((2 ^ 4 * 2 ^ c : Nat) : Int)) (hw : NM c w (2 ^ X)) :
  ∃ q1 p1, FV (aheadF s t w).q q1 ∧ FV (aheadF s t w).p p1 ∧ 0 ≤ q1 ∧ 0 ≤ p1 ∧ (q1 ≤ 24576 * p1 ∨ q1 ≤ ((6 * 2 ^ c : Nat) : Int)) := by
 have pc := Nat.two_pow_pos c
 have T0 : 0 < T := by omega
 have hT : NM c t (2 ^ 4) := ⟨T, ht, by omega, T2⟩
 obtain ⟨e, he⟩ : ∃ e, e = 2000 := ⟨_, rfl⟩
 have three1 : ((2 ^ c : Nat) : Int) ≤ ((3 * 2 ^ c : Nat) : Int) := by omega
 have three2 : (((3 * 2 ^ c : Nat) : Int)).natAbs ≤ 2 ^ e := by
  rw [Int.natAbs_natCast]; have := small_e (g := 2) hc he (by omega); omega
 have two1 : ((2 ^ c : Nat) : Int) ≤ ((2 * 2 ^ c : Nat) : Int) := by omega
 have two2 : (((2 * 2 ^ c : Nat) : Int)).natAbs ≤ 2 ^ e := by
  rw [Int.natAbs_natCast]; have := small_e (g := 2) hc he (by omega); omega
 have step : ∀ {y A}, A ≤ 700 → NM c y (2 ^ A) → NM c (fop .mul y t) (2 ^ (A + 4)) := fun hA h => h.mul hc hT (by rw [← Nat.pow_add]; exact Nat.le_refl _) (flt_pow (by omega))
 have hA := step (by omega) q
 have hB := step (by omega) r
 have hB2 := step (by omega) hB
 have hW := step (by omega) hw
 have hC := step (by omega) hW
 have hD := step (by omega) hC
 have hG : NM c (fop .quo (fop .mul (fop .mul (fop .mul w t) t) t) 4613937818241073152) (2 ^ (X + 4 + 4 + 4)) := nm_quo hc (by omega) hD (fv_three c hc) three1 he three2 (Nat.le_refl _)
 obtain ⟨pv, p1, p2, p3⟩ := p
 obtain ⟨qv, q1, q2, q3⟩ := q
 obtain ⟨av, a1, a2, a3⟩ := hA
 obtain ⟨bv', b1, b2, b3⟩ := hB
 obtain ⟨b2v, b21, b22, b23⟩ := hB2
 obtain ⟨cv, c1, c2, c3⟩ := hC
 obtain ⟨dv, d1, d2, d3⟩ := hD
 obtain ⟨gv, g1, g2, g3⟩ := hG
 have up : ∀ {v : Int} {A : Nat}, A ≤ X + 12 → v ≤ ((2 ^ A * 2 ^ c : Nat) : Int) → v ≤ ((2 ^ (X + 12) * 2 ^ c : Nat) : Int) := fun {v A} h1 h2 => by
  have := Nat.mul_le_mul_right (2 ^ c) (pow_le h1)
  omega
 replace p3 := up (by omega) p3
 replace q3 := up (by omega) q3
 replace a3 := up (by omega) a3
 replace b3 := up (by omega) b3
 replace b23 := up (by omega) b23
 replace c3 := up (by omega) c3
 replace d3 := up (by omega) d3
 replace g3 := up (by omega) g3
 have dbl : ∀ A, 2 ^ (A + 1) * 2 ^ c = 2 * (2 ^ A * 2 ^ c) := fun A => by rw [Nat.pow_succ, Nat.mul_comm (2 ^ A) 2, Nat.mul_assoc]
 have e1 := dbl (X + 12)
 have e2 := dbl (X + 12 + 1)
 have e3 := dbl (X + 12 + 1 + 1)
 have e4 := dbl (X + 12 + 1 + 1 + 1)
 -- how sure the place is
 obtain ⟨s0, x0, y0, z0, u0, _⟩ := fv_addN (M := 2 ^ (X + 12 + 1)) hc p1 a1 p2 a2 (flt_pow (by omega)) (by omega)
 obtain ⟨s1, x1, y1, z1, u1, _⟩ := fv_addN (M := 2 ^ (X + 12 + 1 + 1)) hc x0 a1 (by omega) a2 (flt_pow (by omega)) (by omega)
 obtain ⟨s2, x2, y2, z2, u2, _⟩ := fv_addN (M := 2 ^ (X + 12 + 1 + 1 + 1)) hc x1 b21 (by omega) b22 (flt_pow (by omega)) (by omega)
 obtain ⟨s3, x3, y3, z3, u3, _⟩ := fv_addN (M := 2 ^ (X + 12 + 1 + 1 + 1 + 1)) hc x2 g1 (by omega) g2 (flt_pow (by omega)) (by omega)
 -- the greatest of the parts, and a power of two above it
 obtain ⟨m, hm⟩ : ∃ m : Nat, (m : Int) = max (max qv bv') (max cv ((2 ^ c : Nat) : Int)) := ⟨(max (max qv bv') (max cv ((2 ^ c : Nat) : Int))).natAbs, by omega⟩
 have hmc : 2 ^ c ≤ m := by omega
 have hmu : m ≤ 2 ^ (X + 12) * 2 ^ c := by
  have := Nat.mul_le_mul_right (2 ^ c) (Nat.one_le_two_pow (n := X + 12))
  omega
 obtain ⟨J, hJ⟩ : ∃ J, J = m.log2 + 1 := ⟨_, rfl⟩
 have j1 : m < 2 ^ J := by rw [hJ]; exact Nat.lt_log2_self
 have j2 : 2 ^ J ≤ 2 * m := by rw [hJ, Nat.pow_succ]; have := Nat.log2_self_le (n := m) (by omega); omega
 have j3 : c ≤ J := by
  have := Nat.lt_of_le_of_lt hmc j1
  exact Nat.le_of_lt ((Nat.pow_lt_pow_iff_right (by decide)).1 this)
 obtain ⟨k, hk⟩ : ∃ k, J = k + c := ⟨J - c, by omega⟩
 have hk2 : k ≤ X + 13 := by
  have h1 : 2 ^ J ≤ 2 ^ (X + 13 + c) := by
   have e5 : 2 ^ (X + 13 + c) = 2 * (2 ^ (X + 12) * 2 ^ c) := by rw [show X + 13 + c = X + 12 + c + 1 by omega, Nat.pow_succ, Nat.pow_add 2 (X + 12) c]; omega
   omega
  have := (Nat.pow_le_pow_iff_right (by decide)).1 h1
  omega
 have hJk : 2 ^ J = 2 ^ k * 2 ^ c := by rw [hk, Nat.pow_add]
 have nq : NM c s.q (2 ^ k) := ⟨qv, q1, q2, by omega⟩
 have nb : NM c (fop .mul s.r t) (2 ^ k) := ⟨bv', b1, b2, by omega⟩
 have nc : NM c (fop .mul (fop .mul w t) t) (2 ^ k) := ⟨cv, c1, c2, by omega⟩
 have nh : NM c (fop .quo (fop .mul (fop .mul w t) t) 4611686018427387904) (2 ^ k) := nm_quo hc (by omega) nc (fv_two c hc) two1 he two2 (Nat.le_refl _)
 have nqb := nq.add hc nb (M := 2 ^ (k + 1)) (by rw [Nat.pow_succ]; omega) (flt_pow (by omega))
 obtain ⟨z, w1, w2, w3⟩ := nqb.add hc nh (M := 3 * 2 ^ k) (by rw [Nat.pow_succ]; omega) (flt_three (by omega))
 have w4 : z ≤ 6 * (m : Int) := by
  have : 3 * 2 ^ k * 2 ^ c = 3 * 2 ^ J := by rw [hJk, Nat.mul_assoc]
  omega
 have ha : FV (aheadF s t w).q z ∧ FV (aheadF s t w).p s3 := by
  unfold aheadF
  rw [if_pos (gt_of ht T0)]
  refine ⟨w1, ?_⟩
  have := above_fv x3
  rwa [show max s3 0 = s3 by omega] at this
 refine ⟨z, s3, ha.1, ha.2, w2, by omega, ?_⟩
 have low : ∀ {y : Nat} {v u : Int}, FV y v → FV (fop .mul y t) u → ((2 ^ c : Nat) : Int) ≤ v → v ≤ ((2 ^ (X + 12) * 2 ^ c : Nat) : Int) → v ≤ 1024 * u := fun {y v u} h1 h2 h3 h4 => by
  obtain ⟨u', k1, _, _, k4⟩ := mul_low (M := 2 ^ (X + 12 + 4)) hc h1 ht h3 T1 h4 T2 (by rw [← Nat.pow_add]; exact Nat.le_refl _) (flt_pow (by omega))
  rw [FV.unique h2 k1]
  exact k4
 by_cases h1 : ((2 ^ c : Nat) : Int) ≤ qv ∧ (m : Int) = qv
 ·
  have := low q1 a1 h1.1 q3
  left; omega
 ·
  by_cases h2 : ((2 ^ c : Nat) : Int) ≤ bv' ∧ (m : Int) = bv'
  ·
   have := low b1 b21 h2.1 b3
   left; omega
  ·
   by_cases h3 : ((2 ^ c : Nat) : Int) ≤ cv ∧ (m : Int) = cv
   ·
    have h4 := low c1 d1 h3.1 c3
    obtain ⟨g', k1, _, k3⟩ := third_low hc d1 (by omega) d3 (G := X + 12) (by omega) (Nat.le_refl _)
    rw [← FV.unique g1 k1] at k3
    left; omega
   ·
    right; omega
end Go.Proofs.Ytdllakfojligjaa
