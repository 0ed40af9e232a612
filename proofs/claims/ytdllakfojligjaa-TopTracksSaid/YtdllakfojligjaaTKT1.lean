/-
  A part of the proof: what functions that the statement reaches do, or a plain law on what they do. Each theorem holds under its own premises alone.
-/
import Derived.Test.YtdllakfojligjaaTKX
import Derived.Test.YtdllakfojligjaaKitQ
namespace Go.Proofs.Ytdllakfojligjaa
open Go Go.Lk
/-! ### States within bounds -/
theorem gtZ_fv {x : Nat} {v : Int} (h : FV x v) : gtZ x = decide (0 < v) := h.gtZ'
theorem above_fv {x : Nat} {v : Int} (h : FV x v) : FV (aboveF x) (max v 0) := by
 unfold aboveF
 rw [gtZ_fv h]
 by_cases h0 : 0 < v
 ·
  rw [decide_eq_true h0, if_pos rfl, show max v 0 = v by omega]; exact h
 ·
  rw [decide_eq_false h0, if_neg (by decide), show max v 0 = 0 by omega]; exact fv_0
theorem nm_above {c x M : Nat} (h : NM c x M) : NM c (aboveF x) M := by
 obtain ⟨v, h1, h2, h3⟩ := h
 exact ⟨_, above_fv h1, by omega, by omega⟩
theorem nm_quo {c x y A k e : Nat} {u : Int} (hc : c = 1074) (hk : k ≤ 1000) (hx : NM c x A) (hy : FV y u) (h1 : ((2 ^ c : Nat) : Int) ≤ u) (he : e = 2000) (hu2 : u.natAbs ≤ 2 ^ e) (hA : A ≤ 2 ^ k) : NM c (fop .quo x y) (2 ^ k) := by
 obtain ⟨v, v1, v2, v3⟩ := hx
 have pc := Nat.two_pow_pos c
 have h3 : v ≤ u * ((2 ^ k : Nat) : Int) := by
  have h4 := Nat.mul_le_mul_right (2 ^ c) hA
  have h5 : (2 ^ k : Nat) * 2 ^ c ≤ u.natAbs * 2 ^ k := by rw [Nat.mul_comm]; exact Nat.mul_le_mul_right _ (by omega)
  have h6 : u * ((2 ^ k : Nat) : Int) = ((u.natAbs * 2 ^ k : Nat) : Int) := by rw [Int.natCast_mul, show ((u.natAbs : Nat) : Int) = u by omega]
  rw [h6]; omega
 obtain ⟨z, z1, z2, z3, _⟩ := quo_pow c hc hk v1 hy v2 h3 (by omega) e he hu2
 exact ⟨z, z1, z2, z3⟩
theorem fv_two (c : Nat) (hc : c = 1074) : FV 4611686018427387904 ((2 * 2 ^ c : Nat) : Int) := by
 obtain ⟨e, he⟩ : ∃ e, e = 1023 := ⟨_, rfl⟩
 have := FV.nat (r := 4611686018427387904) (by decide)
 rwa [rv_norm (e := e) (m := 0) (by omega) (by decide), show 4503599627370496 + 0 = 2 * 2 ^ 51 by decide, Nat.mul_assoc, ← Nat.pow_add, show 51 + e = c by omega] at this
theorem fv_three (c : Nat) (hc : c = 1074) : FV 4613937818241073152 ((3 * 2 ^ c : Nat) : Int) := by
 obtain ⟨e, he⟩ : ∃ e, e = 1023 := ⟨_, rfl⟩
 have := FV.nat (r := 4613937818241073152) (by decide)
 rwa [rv_norm (e := e) (m := 2251799813685248) (by omega) (by decide), show 4503599627370496 + 2251799813685248 = 3 * 2 ^ 51 by decide, Nat.mul_assoc, ← Nat.pow_add, show 51 + e = c by omega] at this
theorem pow_le {a b : Nat} (h : a ≤ b) : 2 ^ a ≤ 2 ^ b := Nat.pow_le_pow_right (by decide) h
theorem small_e {c e g : Nat} (hc : c = 1074) (he : e = 2000) (h : g ≤ 900) : 2 ^ g * 2 ^ c ≤ 2 ^ e := by
 rw [← Nat.pow_add]
 exact pow_le (by omega)
theorem pow_two {a b : Nat} (h : b = a + 1) : 2 ^ a + 2 ^ a ≤ 2 ^ b := by rw [h, Nat.pow_succ]; omega
/-- what a step ahead does to how sure a state is -/
theorem ahead_pqr {c E P Q R T W : Nat} (hc : c = 1074) {s : Stt} {t w : Nat} (hP : P ≤ E) (hQ : Q + T + 2 ≤ E) (hR : R + T + T + 2 ≤ E) (hW : W + T + T + T + 2 ≤ E) (hE : E ≤ 900) (p : NM c s.p (2 ^ P)) (q : NM c s.q (2 ^ Q)) (r : NM c s.r (2 ^ R)) (ht : NM c t (2 ^ T)) (hw : NM c w (2 ^ W)) {Q' R' : Nat} (hQ' : 2 ^ Q + 2 ^ (R + T) ≤ 3 * 2 ^ Q') (hQ2 : W + T + T ≤ Q') (hQ3 : Q' ≤ E) (hR' : 2 ^ R + 2 ^ (W + T) ≤ 2 ^ R') (hR2 : R' ≤ E) :
  NM c (aheadF s t w).p (2 ^ (E + 3)) ∧ NM c (aheadF s t w).q (2 ^ (Q' + 2)) ∧ NM c (aheadF s t w).r (2 ^ R') := by
 unfold aheadF
 split
 ·
  obtain ⟨e, he⟩ : ∃ e, e = 2000 := ⟨_, rfl⟩
  have pc := Nat.two_pow_pos c
  have two1 : ((2 ^ c : Nat) : Int) ≤ ((2 * 2 ^ c : Nat) : Int) := by omega
  have three1 : ((2 ^ c : Nat) : Int) ≤ ((3 * 2 ^ c : Nat) : Int) := by omega
  have two2 : (((2 * 2 ^ c : Nat) : Int)).natAbs ≤ 2 ^ e := by
   rw [Int.natAbs_natCast]; have := small_e (g := 2) hc he (by omega); omega
  have three2 : (((3 * 2 ^ c : Nat) : Int)).natAbs ≤ 2 ^ e := by
   rw [Int.natAbs_natCast]; have := small_e (g := 2) hc he (by omega); omega
  have a : NM c (fop .mul s.q t) (2 ^ (Q + T)) := q.mul hc ht (by rw [← Nat.pow_add]; exact Nat.le_refl _) (flt_pow (by omega))
  have b : NM c (fop .mul s.r t) (2 ^ (R + T)) := r.mul hc ht (by rw [← Nat.pow_add]; exact Nat.le_refl _) (flt_pow (by omega))
  have g : NM c (fop .mul w t) (2 ^ (W + T)) := hw.mul hc ht (by rw [← Nat.pow_add]; exact Nat.le_refl _) (flt_pow (by omega))
  have g2 : NM c (fop .mul (fop .mul w t) t) (2 ^ (W + T + T)) := g.mul hc ht (by rw [← Nat.pow_add]; exact Nat.le_refl _) (flt_pow (by omega))
  have g3 : NM c (fop .mul (fop .mul (fop .mul w t) t) t) (2 ^ (W + T + T + T)) := g2.mul hc ht (by rw [← Nat.pow_add]; exact Nat.le_refl _) (flt_pow (by omega))
  have g4 : NM c (fop .quo (fop .mul (fop .mul (fop .mul w t) t) t) 4613937818241073152) (2 ^ (W + T + T + T)) := nm_quo hc (by omega) g3 (fv_three c hc) three1 he three2 (Nat.le_refl _)
  have g5 : NM c (fop .quo (fop .mul (fop .mul w t) t) 4611686018427387904) (2 ^ (W + T + T)) := nm_quo hc (by omega) g2 (fv_two c hc) two1 he two2 (Nat.le_refl _)
  have b2 : NM c (fop .mul (fop .mul s.r t) t) (2 ^ (R + T + T)) := b.mul hc ht (by rw [← Nat.pow_add]; exact Nat.le_refl _) (flt_pow (by omega))
  have e1 := pow_le hP
  have e2 := pow_le (show Q + T ≤ E by omega)
  have e3 := pow_le (show R + T + T ≤ E by omega)
  have e4 := pow_le (show W + T + T + T ≤ E by omega)
  have d1 := pow_two (a := E) (b := E + 1) rfl
  have d2 := pow_two (a := E + 1) (b := E + 2) rfl
  have d3 := pow_two (a := E + 2) (b := E + 3) rfl
  have e5 := pow_le (show E ≤ E + 1 by omega)
  have e6 := pow_le (show E + 1 ≤ E + 2 by omega)
  refine ⟨?_, ?_, r.add hc g hR' (flt_pow (by omega))⟩
  ·
   exact nm_above ((((p.add hc a (M := 2 ^ (E + 1)) (by omega) (flt_pow (by omega))).add hc a (M := 2 ^ (E + 2)) (by omega) (flt_pow (by omega))).add hc b2 (M := 3 * 2 ^ (E + 1)) (by
    have h9 := pow_le (show R + T + T + 2 ≤ E by omega)
    have h10 := pow_two (a := E + 1) (b := E + 2) rfl
    rw [Nat.pow_add 2 (E + 1) 1] at *
    omega) (flt_three (by omega))).add hc g4 (by
    have h10 : 3 * 2 ^ (E + 1) + 2 ^ (E + 1) = 2 ^ (E + 3) := by rw [show E + 3 = E + 1 + 2 by omega, Nat.pow_add 2 (E + 1) 2]; omega
    omega) (flt_pow (by omega)))
  ·
   have h1 := q.add hc b (M := 3 * 2 ^ Q') hQ' (flt_three (by omega))
   refine h1.add hc g5 ?_ (flt_pow (by omega))
   have := pow_le hQ2
   rw [Nat.pow_add 2 Q' 2]; omega
 ·
  exact ⟨p.mono (pow_le (by omega)), q.mono (Nat.le_trans (by have := Nat.two_pow_pos (R + T); rw [Nat.pow_add 2 Q' 2]; omega) (Nat.le_refl _)), r.mono (by have := Nat.two_pow_pos (W + T); omega)⟩
theorem nat_mul {u : Int} (h : 0 ≤ u) (k : Nat) : u * ((k : Nat) : Int) = ((u.natAbs * k : Nat) : Int) := by
 rw [Int.natCast_mul, show ((u.natAbs : Nat) : Int) = u by omega]
/-- what a plot seen does to how sure a state is -/
theorem seen_pqr {c E G R : Nat} (hc : c = 1074) {s : Stt} {x n : Nat} {N p r : Int} (hE : 20 ≤ E) (hE2 : E ≤ 480) (hG : G ≤ 800) (hR : R ≤ 900) (hp : FV s.p p) (p0 : 0 ≤ p) (p1 : p ≤ ((2 ^ G * 2 ^ c : Nat) : Int)) (hq : NM c s.q (2 ^ E)) (hr : FV s.r r) (r0 : 0 ≤ r) (r1 : r ≤ ((2 ^ R * 2 ^ c : Nat) : Int))
  (hn : FV n N) (N0 : ((2 ^ c : Nat) : Int) ≤ N * 1048576) (N1 : N ≤ ((1048576 * 2 ^ c : Nat) : Int)) :
  gtZ (farW s n) = true ∧ (∃ u, FV (farW s n) u ∧ 0 < u ∧ p ≤ u ∧ N ≤ u ∧ u ≤ ((2 ^ (G + 21) * 2 ^ c : Nat) : Int)) ∧ (∃ K, FV (seenK s n) K ∧ 0 ≤ K ∧ K ≤ ((2 ^ c : Nat) : Int)) ∧ NM c (seenH s n) (2 ^ (E + 20)) ∧
  (∃ z, FV (seenF s x n).p z ∧ 0 ≤ z ∧ z ≤ N) ∧ NM c (seenF s x n).q (2 ^ (E + 1)) ∧ (∃ z, FV (seenF s x n).r z ∧ 0 ≤ z ∧ z ≤ r) := by
 have pc := Nat.two_pow_pos c
 have hN : 0 < N := by omega
 obtain ⟨e, he⟩ : ∃ e, e = 2000 := ⟨_, rfl⟩
 have g1 : 2 ^ G ≤ 2 ^ (G + 20) := pow_le (by omega)
 have g2 : 1048576 ≤ 2 ^ (G + 20) := by
  have := pow_le (show 20 ≤ G + 20 by omega)
  omega
 have g3 := pow_two (a := G + 20) (b := G + 21) rfl
 have g4 : 2 ^ G * 2 ^ c + 1048576 * 2 ^ c ≤ 2 ^ (G + 21) * 2 ^ c := by rw [← Nat.add_mul]; exact Nat.mul_le_mul_right _ (by omega)
 obtain ⟨u, u1, u2, u3, u4, _⟩ := fv_addN (M := 2 ^ (G + 21)) hc hp hn p0 (by omega) (flt_pow (by omega)) (by omega)
 have u1 : FV (farW s n) u := u1
 have hu : 0 < u := by omega
 have hue : u.natAbs ≤ 2 ^ e := by
  have := small_e (g := G + 21) hc he (by omega)
  omega
 have hgt : gtZ (farW s n) = true := by rw [gtZ_fv u1, decide_eq_true hu]
 obtain ⟨K, K1, K2, K3, _⟩ := quo_pow c hc (k := 0) (by omega) hp u1 p0 (by rw [show ((2 ^ 0 : Nat) : Int) = 1 from rfl]; omega) hu e he hue
 rw [show 2 ^ 0 * 2 ^ c = 2 ^ c by omega] at K3
 have K1 : FV (seenK s n) K := K1
 obtain ⟨q, q1, q2, q3⟩ := hq
 have hqu : q ≤ u * ((2 ^ (E + 20) : Nat) : Int) := by
  rw [nat_mul (by omega)]
  have h1 : 2 ^ c ≤ u.natAbs * 1048576 := by omega
  have h2 := Nat.mul_le_mul_left (2 ^ E) h1
  have h3 : 2 ^ E * (u.natAbs * 1048576) = u.natAbs * 2 ^ (E + 20) := by
   rw [Nat.pow_add 2 E 20, Nat.mul_left_comm]
  omega
 obtain ⟨H, H1, H2, H3, _⟩ := quo_pow c hc (k := E + 20) (by omega) q1 u1 q2 hqu hu e he hue
 have H1 : FV (seenH s n) H := H1
 have hH : NM c (seenH s n) (2 ^ (E + 20)) := ⟨H, H1, H2, H3⟩
 -- the share of the noise
 have hNf : N.natAbs ≤ rv 9218868437227405311 := by
  have := (flt_pow (e := 20) (by omega)).bound hc
  omega
 obtain ⟨z, Z, z1, z2, z3⟩ := fv_share c hc K1 hn K2 K3 hNf
 have z4 : FV (fop .mul (seenK s n) n) Z := by rw [fop_some' z1]; exact z2
 have zb : 0 ≤ Z ∧ Z ≤ N := by omega
 have hpF : ∃ y, FV (seenF s x n).p y ∧ 0 ≤ y ∧ y ≤ N := by
  unfold seenF
  rw [if_pos hgt]
  dsimp only
  unfold ltB
  rw [z4.ltt hp]
  by_cases h : Z < p
  ·
   rw [decide_eq_true h, if_pos rfl]; exact ⟨Z, z4, zb⟩
  ·
   rw [decide_eq_false h, if_neg (by decide)]; exact ⟨p, hp, p0, by omega⟩
 -- how sure the speed goes with the place
 have hqF : NM c (fop .mul (seenH s n) n) (2 ^ (E + 1)) := by
  obtain ⟨J, hJ⟩ : ∃ J, J = u.natAbs.log2 := ⟨_, rfl⟩
  have j1 : 2 ^ J ≤ u.natAbs := by rw [hJ]; exact Nat.log2_self_le (by omega)
  have j2 : u.natAbs < 2 ^ (J + 1) := by rw [hJ]; exact Nat.lt_log2_self
  have fin : ∀ k, k ≤ 1000 → q ≤ u * ((2 ^ k : Nat) : Int) → 2 ^ k * N.natAbs ≤ 2 ^ (E + 1) * 2 ^ c → NM c (fop .mul (seenH s n) n) (2 ^ (E + 1)) := fun k hk h1 h2 => by
   obtain ⟨h, a1, a2, a3, _⟩ := quo_pow c hc hk q1 u1 q2 h1 hu e he hue
   have h3 : h.natAbs * N.natAbs ≤ 2 ^ (E + 1) * 2 ^ c * 2 ^ c := by
    have h4 := Nat.mul_le_mul_right N.natAbs (show h.natAbs ≤ 2 ^ k * 2 ^ c by omega)
    have h5 := Nat.mul_le_mul_right (2 ^ c) h2
    rw [Nat.mul_right_comm] at h4
    omega
   obtain ⟨y, y1, y2, y3, _⟩ := fv_mulB hc (show FV (seenH s n) h from a1) hn (flt_pow (e := E + 1) (by omega)) h3
   have := y3 a2 (by omega)
   exact ⟨y, y1, this, by omega⟩
  by_cases hJE : J ≤ E + c
  ·
   have hJc : c ≤ J + 21 := by
    have h1 : 2 ^ c < 2 ^ (J + 21) := by
     have h2 : 2 ^ (J + 21) = 2 ^ (J + 1) * 1048576 := by rw [show J + 21 = J + 1 + 20 by omega, Nat.pow_add 2 (J + 1) 20]
     omega
    have := (Nat.pow_lt_pow_iff_right (by decide)).1 h1
    omega
   refine fin (E + c - J) (by omega) ?_ ?_
   ·
    rw [nat_mul (by omega)]
    have h1 := Nat.mul_le_mul_right (2 ^ (E + c - J)) j1
    rw [← Nat.pow_add, show J + (E + c - J) = E + c by omega, Nat.pow_add] at h1
    omega
   ·
    have h1 := Nat.mul_le_mul_left (2 ^ (E + c - J)) (show N.natAbs ≤ 2 ^ (J + 1) by omega)
    rw [← Nat.pow_add, show E + c - J + (J + 1) = E + 1 + c by omega, Nat.pow_add 2 (E + 1)] at h1
    exact h1
  ·
   refine fin 0 (by omega) ?_ ?_
   ·
    have h1 := pow_le (show E + c ≤ J by omega)
    rw [Nat.pow_add] at h1
    rw [show ((2 ^ 0 : Nat) : Int) = 1 from rfl]
    omega
   ·
    have h1 := Nat.mul_le_mul_right (2 ^ c) (pow_le (show 20 ≤ E + 1 by omega))
    omega
 have hrF : ∃ y, FV (seenF s x n).r y ∧ 0 ≤ y ∧ y ≤ r := by
  obtain ⟨v, v1, v2, v3⟩ := hH.mul hc (show NM c s.q (2 ^ E) from ⟨q, q1, q2, q3⟩) (M := 2 ^ (E + 20 + E)) (by rw [← Nat.pow_add]; exact Nat.le_refl _) (flt_pow (by omega))
  have hb := (flt_pow (e := 990) (by omega)).bound hc
  have b1 := Nat.mul_le_mul_right (2 ^ c) (pow_le (show E + 20 + E ≤ 990 by omega))
  have b2 := Nat.mul_le_mul_right (2 ^ c) (pow_le (show R ≤ 990 by omega))
  generalize 2 ^ 990 * 2 ^ c = big at hb b1 b2
  obtain ⟨y, y1, y2⟩ := fv_sub c hc hr v1 (by omega)
  have y3 := rd_mono (c := c) (T := r - v) (S := r) (by omega)
  rw [rd_fv hc hr] at y3
  have y4 : FV (fop .sub s.r (fop .mul (seenH s n) s.q)) (rd c (r - v)) := by rw [fop_some' y1]; exact y2
  unfold seenF
  rw [if_pos hgt]
  exact ⟨_, above_fv y4, by omega, by omega⟩
 refine ⟨hgt, ⟨u, u1, hu, u2, u3, u4⟩, ⟨K, K1, K2, K3⟩, hH, hpF, ?_, hrF⟩
 unfold seenF
 rw [if_pos hgt]
 exact hqF
end Go.Proofs.Ytdllakfojligjaa
