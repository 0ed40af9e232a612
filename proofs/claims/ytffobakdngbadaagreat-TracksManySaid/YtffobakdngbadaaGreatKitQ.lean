/-
  A part of the proof: laws for walks, and plain laws, over any program of the model. Each theorem holds under its own premises alone.
-/
import Derived.Test.YtffobakdngbadaaGreatKit
namespace Go.Lk
open Go
def rne (V d : Nat) : Nat := V / 2 ^ d + (decide (2 ^ d < 2 * (V % 2 ^ d)) || (2 ^ d == 2 * (V % 2 ^ d) && V / 2 ^ d % 2 == 1)).toNat
theorem rne_le {V W d : Nat} (h : V <= W) : rne V d <= rne W d := by
 unfold rne
 have hp : 0 < 2 ^ d := Nat.two_pow_pos d
 generalize 2 ^ d = g at hp
 have h1 : V / g <= W / g := Nat.div_le_div_right h
 rcases Nat.lt_or_ge (V / g) (W / g) with h2 | h2
 ·
  have : ∀ b : Bool, b.toNat <= 1 := fun b => by cases b <;> decide
  have h3 := this (decide (g < 2 * (V % g)) || (g == 2 * (V % g) && V / g % 2 == 1))
  omega
 have h3 : V / g = W / g := Nat.le_antisymm h1 h2
 have e1 := Nat.div_add_mod V g
 have e2 := Nat.div_add_mod W g
 rw [h3] at e1 ⊢
 have h4 : V % g <= W % g := by omega
 refine Nat.add_le_add_left ?_ _
 by_cases a : g < 2 * (V % g)
 ·
  have b : g < 2 * (W % g) := by omega
  simp [a, b]
 by_cases c : g = 2 * (V % g)
 ·
  by_cases b : g < 2 * (W % g)
  ·
   simp only [b, decide_true, Bool.true_or]
   cases (decide (g < 2 * (V % g)) || (g == 2 * (V % g) && W / g % 2 == 1)) <;> decide
  have d' : V % g = W % g := by omega
  rw [d']; exact Nat.le_refl _
 have : (decide (g < 2 * (V % g)) || (g == 2 * (V % g) && W / g % 2 == 1)) = false := by
  simp [a, c]
 rw [this]; exact Nat.zero_le _
theorem jfE (q d : Nat) : rne (q * 2 ^ d) d = q := by
 unfold rne
 have hp : 0 < 2 ^ d := Nat.two_pow_pos d
 rw [Nat.mul_div_cancel _ hp, Nat.mul_mod_left]
 have h3 : ¬ 2 ^ d < 2 * 0 := by omega
 have h4 : (2 ^ d == 2 * 0) = false := by simp
 simp [h3]
def jd7 (V : Nat) : Nat := max (V.log2 - 52) 1074
def jfQ (V : Nat) : Nat := (jd7 V - 1074) * 4503599627370496 + rne V (jd7 V)
theorem rne_lt {V d k : Nat} (h : V < 2 ^ (d + k)) : rne V d <= 2 ^ k := by
 have h1 := rne_le (d := d) (Nat.le_of_lt h)
 rw [Nat.pow_add, Nat.mul_comm, jfE] at h1
 exact h1
theorem rne_ge {V d k : Nat} (h : 2 ^ (d + k) <= V) : 2 ^ k <= rne V d := by
 have h1 := rne_le (d := d) h
 rw [Nat.pow_add, Nat.mul_comm, jfE] at h1
 exact h1
theorem log2_mono {V W : Nat} (hV : V ≠ 0) (h : V <= W) : V.log2 <= W.log2 := by
 have h1 := ((Nat.log2_eq_iff hV).1 rfl).1
 have h2 := ((Nat.log2_eq_iff (by omega : W ≠ 0)).1 rfl).2
 rcases Nat.lt_or_ge W.log2 V.log2 with h3 | h3
 ·
  have h4 : 2 ^ (W.log2 + 1) <= 2 ^ V.log2 := Nat.pow_le_pow_right (by decide) h3
  omega
 exact h3
theorem jg9 {V W : Nat} (hV : V ≠ 0) (h : V <= W) : jfQ V <= jfQ W := by
 have hl := log2_mono hV h
 have hl2 : jd7 V <= jd7 W := by unfold jd7; omega
 unfold jfQ
 rcases Nat.lt_or_ge (jd7 V) (jd7 W) with h1 | h1
 ·
  have a1 : V < 2 ^ (jd7 V + 53) := by
   have h2 := ((Nat.log2_eq_iff hV).1 rfl).2
   have h3 : 2 ^ (V.log2 + 1) <= 2 ^ (jd7 V + 53) := Nat.pow_le_pow_right (by decide) (by unfold jd7; omega)
   omega
  have a2 : 2 ^ (jd7 W + 52) <= W := by
   have h2 := ((Nat.log2_eq_iff (by omega : W ≠ 0)).1 rfl).1
   have h3 : 2 ^ (jd7 W + 52) <= 2 ^ W.log2 := Nat.pow_le_pow_right (by decide) (by unfold jd7 at h1 ⊢; omega)
   omega
  have b1 := rne_lt a1
  have b2 := rne_ge a2
  rw [show (2 : Nat) ^ 53 = 9007199254740992 by decide] at b1
  rw [show (2 : Nat) ^ 52 = 4503599627370496 by decide] at b2
  have h5 : 1074 <= jd7 V := by unfold jd7; omega
  omega
 have h2 : jd7 V = jd7 W := by omega
 rw [h2]
 exact Nat.add_le_add_left (rne_le h) _
theorem rne_scale (m d k : Nat) : rne (m * 2 ^ k) (d + k) = rne m d := by
 unfold rne
 have hk : 0 < 2 ^ k := Nat.two_pow_pos k
 have e1 : m * 2 ^ k / 2 ^ (d + k) = m / 2 ^ d := by rw [Nat.pow_add]; exact Nat.mul_div_mul_right _ _ hk
 have e2 : m * 2 ^ k % 2 ^ (d + k) = m % 2 ^ d * 2 ^ k := by rw [Nat.pow_add]; exact Nat.mul_mod_mul_right _ _ _
 rw [e1, e2, Nat.pow_add, <- Nat.mul_assoc]
 have e3 : decide (2 ^ d * 2 ^ k < 2 * (m % 2 ^ d) * 2 ^ k) = decide (2 ^ d < 2 * (m % 2 ^ d)) := by
  rw [decide_eq_decide]; exact Nat.mul_lt_mul_right hk
 have e4 : (2 ^ d * 2 ^ k == 2 * (m % 2 ^ d) * 2 ^ k) = (2 ^ d == 2 * (m % 2 ^ d)) := by
  rw [Bool.eq_iff_iff, beq_iff_eq, beq_iff_eq]; exact Nat.mul_left_inj (by omega)
 rw [e3, e4]
theorem cut_rne (neg : Bool) (m d : Nat) (hm : m ≠ 0) : Ieee.Toward.even.cut neg m d = rne m d := by
 unfold Ieee.Toward.cut
 by_cases h : d <= m.log2 + 2
 ·
  simp only [Nat.min_eq_left h, Nat.one_shiftLeft]
  rfl
 have h1 : min d (m.log2 + 2) = m.log2 + 2 := by omega
 have h2 := ((Nat.log2_eq_iff hm).1 rfl).2
 have h3 : 2 ^ (m.log2 + 2) = 2 * 2 ^ (m.log2 + 1) := by rw [Nat.pow_succ, Nat.mul_comm]
 have h4 : 2 * m < 2 ^ (m.log2 + 2) := by omega
 have h5 : 2 ^ (m.log2 + 2) <= 2 ^ d := Nat.pow_le_pow_right (by decide) (by omega)
 have z : ∀ g, 2 * m < g -> m / g + (decide (g < 2 * (m % g)) || (g == 2 * (m % g) && m / g % 2 == 1)).toNat = 0 := by
  intro g hg
  rw [Nat.div_eq_of_lt (by omega), Nat.mod_eq_of_lt (by omega)]
  have a : ¬ g < 2 * m := by omega
  have b : (g == 2 * m) = false := by simp; omega
  simp [a, b]
 simp only [h1, Nat.one_shiftLeft]
 unfold rne
 rw [z _ h4, z _ (by omega)]
theorem jfH (s : Bool) (m : Nat) (p : Int) (hm : m ≠ 0) (hp : -2148 <= p) : Ieee.double.nearest s m p = Ieee.double.word s (min (jfQ (m * 2 ^ (p + 2148).toNat)) 9218868437227405312) := by
 obtain ⟨V, hV⟩ : ∃ V, V = m * 2 ^ (p + 2148).toNat := ⟨_, rfl⟩
 have hl : V.log2 = m.log2 + (p + 2148).toNat := by rw [hV, jdZ hm]
 obtain ⟨lu, hlu⟩ : ∃ lu, lu = jd7 V := ⟨_, rfl⟩
 have hlast : max (p + (m.log2 : Int) - 52) (-1074) = (lu : Int) - 2148 := by rw [hlu]; unfold jd7; omega
 have hcut : Ieee.Toward.even.cut s (m <<< (p - ((lu : Int) - 2148)).toNat) (((lu : Int) - 2148) - p).toNat = rne V lu := by
  by_cases hc : (lu : Int) - 2148 <= p
  ·
   have h0 : (((lu : Int) - 2148) - p).toNat = 0 := by omega
   rw [h0, cut_rne _ _ _ (by rw [Nat.shiftLeft_eq]; exact Nat.mul_ne_zero hm (Nat.pos_iff_ne_zero.1 (Nat.two_pow_pos _))), Nat.shiftLeft_eq]
   have h1 : (p + 2148).toNat = (p - ((lu : Int) - 2148)).toNat + lu := by omega
   have h2 : V = m * 2 ^ (p - ((lu : Int) - 2148)).toNat * 2 ^ lu := by rw [hV, h1, Nat.pow_add, Nat.mul_assoc]
   rw [h2, jfE]
   have := jfE (m * 2 ^ (p - ((lu : Int) - 2148)).toNat) 0
   simpa using this
  have h0 : (p - ((lu : Int) - 2148)).toNat = 0 := by omega
  rw [h0, Nat.shiftLeft_zero, cut_rne _ _ _ hm, hV, show lu = (((lu : Int) - 2148) - p).toNat + (p + 2148).toNat by omega, rne_scale]
  congr 1
  omega
 unfold Ieee.Format.nearest
 rw [if_neg hm]
 have f1 : (Ieee.double.fractionBits : Int) = 52 := rfl
 have f2 : Ieee.double.leastPlace = -1074 := by decide
 have f3 : Ieee.double.infRung = 9218868437227405312 := rfl
 have f4 : Ieee.double.binade = 4503599627370496 := rfl
 simp only [f1, f2, hlast, hcut, f3, f4]
 rw [<- hV]
 unfold jfQ
 rw [<- hlu]
 have h5 : ((lu : Int) - 2148 - -1074).toNat = lu - 1074 := by omega
 rw [h5]
def rv (r : Nat) : Nat := if r < 4503599627370496 then r else (4503599627370496 + r % 4503599627370496) * 2 ^ (r / 4503599627370496 - 1)
def rR (c T : Nat) : Nat := jfQ (T * 2 ^ c)
theorem rR_small (c T : Nat) (hc : c = 1074) (hT : T ≠ 0) (h : T < 9007199254740992) : rR c T = T := by
 have hl : T.log2 <= 52 := by
  have := (Nat.log2_lt hT (k := 53)).2 (by simpa using h)
  omega
 unfold rR jfQ
 have h1 : jd7 (T * 2 ^ c) = c := by unfold jd7; rw [jdZ hT]; omega
 rw [h1, jfE, hc]; omega
theorem jkF (c r : Nat) (hc : c = 1074) (hr : r ≠ 0) : rR c (rv r) = r := by
 unfold rv
 by_cases h : r < 4503599627370496
 ·
  rw [if_pos h]; exact rR_small c r hc hr (by omega)
 rw [if_neg h]
 obtain ⟨q, hq⟩ : ∃ q, q = r / 4503599627370496 - 1 := ⟨_, rfl⟩
 obtain ⟨k, hk⟩ : ∃ k, k = 4503599627370496 + r % 4503599627370496 := ⟨_, rfl⟩
 have hk2 : 4503599627370496 <= k /\ k < 9007199254740992 := by omega
 rw [<- hq, <- hk]
 have hk0 : k ≠ 0 := by omega
 have hl : k.log2 = 52 := (Nat.log2_eq_iff hk0).2 ⟨by simpa using hk2.1, by simpa using hk2.2⟩
 unfold rR jfQ
 have h1 : jd7 (k * 2 ^ q * 2 ^ c) = q + c := by
  unfold jd7
  rw [Nat.mul_assoc, <- Nat.pow_add, jdZ hk0]; omega
 rw [h1, Nat.mul_assoc, <- Nat.pow_add, jfE, hc]
 omega
theorem jh4 {c T S : Nat} (hT : T ≠ 0) (h : T <= S) : rR c T <= rR c S :=
 jg9 (Nat.mul_ne_zero hT (Nat.pos_iff_ne_zero.1 (Nat.two_pow_pos c))) (Nat.mul_le_mul_right _ h)
theorem rv_zero {r : Nat} : rv r = 0 ↔ r = 0 := by
 unfold rv
 by_cases h : r < 4503599627370496
 ·
  rw [if_pos h]
 rw [if_neg h]
 have h1 : 0 < (4503599627370496 + r % 4503599627370496) * 2 ^ (r / 4503599627370496 - 1) := Nat.mul_pos (by omega) (Nat.two_pow_pos _)
 omega
theorem rv_le {r s : Nat} : rv r <= rv s ↔ r <= s := by
 have key : ∀ r s : Nat, rv r <= rv s -> r <= s := fun r s h => by
  by_cases h0 : r = 0
  ·
   omega
  have h1 : rv r ≠ 0 := fun h => h0 (rv_zero.1 h)
  have h2 : s ≠ 0 := fun h3 => by rw [rv_zero.2 h3] at h; omega
  obtain ⟨c, hc⟩ : ∃ c, c = 1074 := ⟨_, rfl⟩
  have := jh4 (c := c) h1 h
  rwa [jkF c r hc h0, jkF c s hc h2] at this
 refine ⟨key r s, fun h => ?_⟩
 rcases Nat.le_total (rv r) (rv s) with h1 | h1
 ·
  exact h1
 have := key s r h1
 have : r = s := by omega
 rw [this]; exact Nat.le_refl _
theorem rv_rungU (V : Nat) (hV : V ≠ 0) : rv (jfQ V) * 2 ^ 1074 = rne V (jd7 V) * 2 ^ jd7 V := by
 obtain ⟨lu, hlu⟩ : ∃ lu, lu = jd7 V := ⟨_, rfl⟩
 obtain ⟨k, hk⟩ : ∃ k, k = rne V lu := ⟨_, rfl⟩
 have h1 : 1074 <= lu := by rw [hlu]; unfold jd7; omega
 have a1 : k <= 9007199254740992 := by
  have h2 := ((Nat.log2_eq_iff hV).1 rfl).2
  have h3 : 2 ^ (V.log2 + 1) <= 2 ^ (lu + 53) := Nat.pow_le_pow_right (by decide) (by rw [hlu]; unfold jd7; omega)
  have := rne_lt (show V < 2 ^ (lu + 53) by omega)
  rw [<- hk] at this
  simpa using this
 obtain ⟨d, hd⟩ : ∃ d, lu = 1074 + d := ⟨lu - 1074, by omega⟩
 have a2 : 0 < d -> 4503599627370496 <= k := fun hd0 => by
  have h2 := ((Nat.log2_eq_iff hV).1 rfl).1
  have h3 : 2 ^ (lu + 52) <= 2 ^ V.log2 := Nat.pow_le_pow_right (by decide) (by rw [hlu] at hd ⊢; unfold jd7 at hd ⊢; omega)
  have := rne_ge (show 2 ^ (lu + 52) <= V by omega)
  rw [<- hk] at this
  simpa using this
 have e : rv (jfQ V) = k * 2 ^ d := by
  unfold jfQ
  rw [<- hlu, <- hk, hd, Nat.add_sub_cancel_left]
  unfold rv
  by_cases h5 : d * 4503599627370496 + k < 4503599627370496
  ·
   rw [if_pos h5]
   have : d = 0 := by omega
   subst this; simp
  rw [if_neg h5]
  by_cases h6 : k = 9007199254740992
  ·
   rw [show (d * 4503599627370496 + k) % 4503599627370496 = 0 by omega, show (d * 4503599627370496 + k) / 4503599627370496 - 1 = d + 1 by omega, h6, Nat.pow_succ]
   omega
  rw [show (d * 4503599627370496 + k) % 4503599627370496 = k - 4503599627370496 by omega, show (d * 4503599627370496 + k) / 4503599627370496 - 1 = d by omega, show 4503599627370496 + (k - 4503599627370496) = k by omega]
 rw [e, <- hlu, <- hk, hd, Nat.pow_add, Nat.mul_assoc, Nat.mul_comm (2 ^ d)]
theorem rne_err (V d : Nat) : 2 * (rne V d * 2 ^ d) <= 2 * V + 2 ^ d /\ 2 * V <= 2 * (rne V d * 2 ^ d) + 2 ^ d := by
 unfold rne
 have hp : 0 < 2 ^ d := Nat.two_pow_pos d
 have h1 := Nat.div_add_mod V (2 ^ d)
 have h2 := Nat.mod_lt V hp
 rw [Nat.mul_comm] at h1
 generalize 2 ^ d = g at *
 generalize V % g = x at *
 generalize V / g = q at *
 rw [Nat.add_mul]
 generalize q * g = A at *
 by_cases a : g < 2 * x
 ·
  simp [a]; omega
 by_cases b : g = 2 * x
 ·
  cases hb : (decide (g < 2 * x) || (g == 2 * x && q % 2 == 1)) <;> simp <;> omega
 have : (decide (g < 2 * x) || (g == 2 * x && q % 2 == 1)) = false := by simp [a, b]
 rw [this]; simp; omega
theorem jq1 (s : Bool) (r : Nat) (h : r < 9218868437227405312) : ∃ m p, Ieee.double.read (Ieee.double.word s r) = .number s m p /\ -1074 <= p /\ m * 2 ^ (p + 1074).toNat = rv r := by
 have h1 : ∀ b : Bool, ((Ieee.double.word b r / 9223372036854775808 % 2 == 1) = b) /\ Ieee.double.word b r % 9223372036854775808 = r := by
  intro b
  unfold Ieee.Format.word
  rw [jb3]
  cases b
  ·
   simp only [Bool.false_eq_true, if_false]
   refine ⟨?_, by omega⟩
   rw [show r / 9223372036854775808 = 0 by omega]; simp
  simp only [if_true]
  refine ⟨?_, by omega⟩
  rw [show (9223372036854775808 + r) / 9223372036854775808 = 1 by omega]; simp
 have f2 : Ieee.double.leastPlace = -1074 := by decide
 unfold Ieee.Format.read
 rw [jb3, jdP, jc8, (h1 s).2]
 by_cases a : r < 4503599627370496
 ·
  refine ⟨r, -1074, ?_, by omega, ?_⟩
  ·
   simp only [a, if_true, f2]
   have := (h1 s).1
   rw [this]
  simp [rv, a]
 refine ⟨4503599627370496 + r % 4503599627370496, -1074 + (r / 4503599627370496 - 1 : Nat), ?_, by omega, ?_⟩
 ·
  simp only [a, h, if_true, if_false, f2]
  have := (h1 s).1
  rw [this]
 rw [rv, if_neg a]
 congr 2
 omega
def FV (x : Nat) (v : Int) : Prop := ∃ s r, x = Ieee.double.word s r /\ r < 9218868437227405312 /\ v = (if s then -1 else 1) * (rv r : Int)
theorem FV.read {x : Nat} {v : Int} (h : FV x v) : ∃ s m p, Ieee.double.read x = .number s m p /\ -1074 <= p /\ Ieee.signed s m (p + 1074).toNat = v := by
 obtain ⟨s, r, rfl, hr, rfl⟩ := h
 obtain ⟨m, p, h1, h2, h3⟩ := jq1 s r hr
 exact ⟨s, m, p, h1, h2, by rw [jbC, h3]⟩
theorem cmp_scale (a b : Int) (k : Nat) (hk : 0 < k) : compare (a * k) (b * k) = compare a b := by
 have hk' : (0 : Int) < k := by omega
 rcases Int.lt_trichotomy a b with h | h | h
 ·
  have h2 : a * k < b * k := Int.mul_lt_mul_of_pos_right h hk'
  rw [Int.compare_eq_lt.2 h, Int.compare_eq_lt.2 h2]
 ·
  rw [h]
  rw [Int.compare_eq_eq.2 rfl, Int.compare_eq_eq.2 rfl]
 have h2 : b * k < a * k := Int.mul_lt_mul_of_pos_right h hk'
 rw [Int.compare_eq_gt.2 h, Int.compare_eq_gt.2 h2]
theorem FV.order {x y : Nat} {v u : Int} (hx : FV x v) (hy : FV y u) : FloatKind.f64.format.order x y = some (compare v u) := by
 obtain ⟨s, m, i, h1, h2, h3⟩ := hx.read
 obtain ⟨t, n, j, k1, k2, k3⟩ := hy.read
 show (Ieee.double.read x).order (Ieee.double.read y) = _
 rw [h1, k1]
 simp only [Ieee.Datum.order]
 obtain ⟨b, hbd⟩ : ∃ b, b = min i j := ⟨_, rfl⟩
 have hb1 : b <= i /\ b <= j /\ -1074 <= b := by omega
 rw [show (i + 1074).toNat = (i - b).toNat + (b + 1074).toNat by omega, jfT] at h3
 rw [show (j + 1074).toNat = (j - b).toNat + (b + 1074).toNat by omega, jfT] at k3
 rw [<- hbd, <- h3, <- k3, cmp_scale _ _ _ (Nat.two_pow_pos _)]
theorem write_val {s : Bool} {m : Nat} {p v : Int} (c : Nat) (hc : c = 1074) (hp : -1074 <= p) (h : Ieee.signed s m (p + 1074).toNat = v) (hv : v ≠ 0) : Ieee.double.nearest s m p = Ieee.double.word (decide (v < 0)) (min (rR c v.natAbs) 9218868437227405312) := by
 have hm : m ≠ 0 := fun h0 => by
  rw [h0, jbC] at h
  simp at h
  exact hv h.symm
 have h2 : 0 < m * 2 ^ (p + 1074).toNat := Nat.mul_pos (by omega) (Nat.two_pow_pos _)
 rw [jbC] at h
 obtain ⟨A, hA⟩ : ∃ A, A = m * 2 ^ (p + 1074).toNat := ⟨_, rfl⟩
 rw [<- hA] at h h2
 have hs : s = decide (v < 0) := by
  cases s
  ·
   simp at h ⊢; omega
  simp at h ⊢; omega
 have habs : A = v.natAbs := by cases s <;> simp at h <;> omega
 rw [jfH s m p hm (by omega), hs]
 unfold rR
 rw [<- habs, hA, Nat.mul_assoc, <- Nat.pow_add, show (p + 2148).toNat = (p + 1074).toNat + c by omega]
theorem jm9 (s : Bool) : FV (Ieee.double.word s 0) 0 := ⟨s, 0, rfl, by decide, by simp [rv]⟩
theorem fv_sum {s t : Bool} {m n : Nat} {i j v u : Int} (c : Nat) (hc : c = 1074) (hi : -1074 <= i) (hj : -1074 <= j) (hx : Ieee.signed s m (i + 1074).toNat = v) (hy : Ieee.signed t n (j + 1074).toNat = u) :
  ∃ r, (Ieee.Datum.sum (.number s m i) (.number t n j)).map Ieee.double.write = some r /\ (v + u = 0 -> FV r 0) /\ (v + u ≠ 0 -> r = Ieee.double.word (decide (v + u < 0)) (min (rR c (v + u).natAbs) 9218868437227405312)) := by
 obtain ⟨b, hbd⟩ : ∃ b, b = min i j := ⟨_, rfl⟩
 have hb1 : b <= i /\ b <= j /\ -1074 <= b := by omega
 rw [show (i + 1074).toNat = (i - b).toNat + (b + 1074).toNat by omega, jfT] at hx
 rw [show (j + 1074).toNat = (j - b).toNat + (b + 1074).toNat by omega, jfT] at hy
 simp only [Ieee.Datum.sum, <- hbd, Option.map_some]
 obtain ⟨T, hT⟩ : ∃ T, T = Ieee.signed s m (i - b).toNat + Ieee.signed t n (j - b).toNat := ⟨_, rfl⟩
 rw [<- hT]
 have hTe : T * ((2 ^ (b + 1074).toNat : Nat) : Int) = v + u := by rw [hT, Int.add_mul, hx, hy]
 have hp : ((2 ^ (b + 1074).toNat : Nat) : Int) ≠ 0 := by have := Nat.two_pow_pos (b + 1074).toNat; omega
 refine ⟨_, rfl, fun h0 => ?_, fun h0 => ?_⟩
 ·
  have hT0 : T = 0 := by
   rw [h0] at hTe
   rcases Int.mul_eq_zero.1 hTe with h | h
   ·
    exact h
   exact absurd h hp
  show FV (Ieee.double.nearest _ T.natAbs b) 0
  rw [hT0]
  exact jm9 _
 have hT0 : T ≠ 0 := fun h => h0 (by rw [<- hTe, h, Int.zero_mul])
 show Ieee.double.nearest _ T.natAbs b = _
 refine write_val c hc hb1.2.2 ?_ h0
 rw [if_neg hT0, <- hTe, jbC, Int.natCast_mul, <- Int.mul_assoc]
 congr 1
 by_cases hn : T < 0
 ·
  simp [hn]; omega
 simp [hn]; omega
theorem fv_mul {x y : Nat} {v u : Int} (hx : FV x v) (hy : FV y u) : ∃ r, floatBits .mul .f64 x y = some r /\ (v * u = 0 -> FV r 0) /\ (v * u ≠ 0 -> r = Ieee.double.word (decide (v * u < 0)) (min (jfQ (v.natAbs * u.natAbs)) 9218868437227405312)) := by
 obtain ⟨s, m, i, h1, h2, h3⟩ := hx.read
 obtain ⟨t, n, j, k1, k2, k3⟩ := hy.read
 rw [jbC] at h3 k3
 obtain ⟨A, hA⟩ : ∃ A, A = m * 2 ^ (i + 1074).toNat := ⟨_, rfl⟩
 obtain ⟨B, hB⟩ : ∃ B, B = n * 2 ^ (j + 1074).toNat := ⟨_, rfl⟩
 rw [<- hA] at h3
 rw [<- hB] at k3
 have ha : A = v.natAbs := by cases s <;> simp at h3 <;> omega
 have hb : B = u.natAbs := by cases t <;> simp at k3 <;> omega
 refine ⟨Ieee.double.nearest (s ^^ t) (m * n) (i + j), ?_, fun h0 => ?_, fun h0 => ?_⟩
 ·
  show (Ieee.Datum.product (Ieee.double.read x) (Ieee.double.read y)).map Ieee.double.write = _
  rw [h1, k1]; rfl
 ·
  have hz : m * n = 0 := by
   have hp1 := Nat.two_pow_pos (i + 1074).toNat
   have hp2 := Nat.two_pow_pos (j + 1074).toNat
   rcases Int.mul_eq_zero.1 h0 with h5 | h5
   ·
    have : A = 0 := by omega
    rw [this] at hA
    rcases Nat.mul_eq_zero.1 hA.symm with h6 | h6
    ·
     rw [h6, Nat.zero_mul]
    omega
   have : B = 0 := by omega
   rw [this] at hB
   rcases Nat.mul_eq_zero.1 hB.symm with h6 | h6
   ·
    rw [h6, Nat.mul_zero]
   omega
  rw [hz]
  exact jm9 _
 have hv : v ≠ 0 := fun h => h0 (by rw [h, Int.zero_mul])
 have hu : u ≠ 0 := fun h => h0 (by rw [h, Int.mul_zero])
 have hm : m ≠ 0 := fun h => by rw [h, Nat.zero_mul] at hA; omega
 have hn : n ≠ 0 := fun h => by rw [h, Nat.zero_mul] at hB; omega
 rw [jfH _ _ _ (Nat.mul_ne_zero hm hn) (by omega)]
 have e1 : m * n * 2 ^ (i + j + 2148).toNat = v.natAbs * u.natAbs := by
  rw [<- ha, <- hb, hA, hB, show (i + j + 2148).toNat = (i + 1074).toNat + (j + 1074).toNat by omega, Nat.pow_add, Nat.mul_mul_mul_comm]
 rw [e1]
 congr 1
 have hs : s = decide (v < 0) := by cases s <;> simp at h3 ⊢ <;> omega
 have ht : t = decide (u < 0) := by cases t <;> simp at k3 ⊢ <;> omega
 rw [hs, ht]
 rcases Int.lt_or_gt_of_ne hv with a | a <;> rcases Int.lt_or_gt_of_ne hu with b | b
 ·
  have := Int.mul_pos_of_neg_of_neg a b; simp [a, b]; omega
 ·
  have := Int.mul_neg_of_neg_of_pos a b; simp [a, show ¬ u < 0 by omega, this]
 ·
  have := Int.mul_neg_of_pos_of_neg a b; simp [b, show ¬ v < 0 by omega, this]
 have := Int.mul_pos a b; simp [show ¬ v < 0 by omega, show ¬ u < 0 by omega]; omega
theorem rR_err (c T : Nat) (hc : c = 1074) (hT : T ≠ 0) : 9007199254740992 * rv (rR c T) <= 9007199254740992 * T + T /\ 9007199254740992 * T <= 9007199254740992 * rv (rR c T) + T := by
 obtain ⟨C, hC⟩ : ∃ C, C = 2 ^ c := ⟨_, rfl⟩
 have hC0 : 0 < C := by rw [hC]; exact Nat.two_pow_pos c
 have hV : T * 2 ^ c ≠ 0 := Nat.mul_ne_zero hT (by omega)
 have h1 := rv_rungU (T * 2 ^ c) hV
 have h2 := rne_err (T * 2 ^ c) (jd7 (T * 2 ^ c))
 have h3 : jfQ (T * 2 ^ c) = rR c T := rfl
 rw [h3] at h1
 have h4 : rv (rR c T) * C = rne (T * 2 ^ c) (jd7 (T * 2 ^ c)) * 2 ^ jd7 (T * 2 ^ c) := by rw [hC, hc] at *; exact h1
 rw [<- h4] at h2
 by_cases hl : jd7 (T * 2 ^ c) = c
 ·
  have h5 : rne (T * 2 ^ c) (jd7 (T * 2 ^ c)) = T := by rw [hl, jfE]
  rw [h5, hl, <- hC] at h4
  have : rv (rR c T) = T := Nat.eq_of_mul_eq_mul_right hC0 h4
  omega
 have h6 : 2 ^ jd7 (T * 2 ^ c) * 4503599627370496 <= T * C := by
  have h7 := ((Nat.log2_eq_iff hV).1 rfl).1
  have h8 : 2 ^ (jd7 (T * 2 ^ c) + 52) <= 2 ^ (T * 2 ^ c).log2 := Nat.pow_le_pow_right (by decide) (by unfold jd7 at hl ⊢; omega)
  rw [Nat.pow_add, pow52] at h8
  rw [hC]; omega
 have e1 : T * 2 ^ c = T * C := by rw [hC]
 obtain ⟨g, hg⟩ : ∃ g, g = 2 ^ jd7 (T * 2 ^ c) := ⟨_, rfl⟩
 rw [<- hg] at h2 h6
 obtain ⟨b, hb⟩ : ∃ b, b = T * C := ⟨_, rfl⟩
 rw [e1, <- hb] at h2
 rw [<- hb] at h6
 obtain ⟨a, ha⟩ : ∃ a, a = rv (rR c T) * C := ⟨_, rfl⟩
 rw [<- ha] at h2
 clear h1 h3 h4 hl hg
 refine ⟨Nat.le_of_mul_le_mul_right (c := C) ?_ hC0, Nat.le_of_mul_le_mul_right (c := C) ?_ hC0⟩
 ·
  rw [Nat.add_mul, Nat.mul_assoc, Nat.mul_assoc, <- ha, <- hb]
  omega
 rw [Nat.add_mul, Nat.mul_assoc, Nat.mul_assoc, <- ha, <- hb]
 omega
def rd (c : Nat) (T : Int) : Int := if T = 0 then 0 else (if T < 0 then -1 else 1) * (rv (rR c T.natAbs) : Int)
theorem jk0 (c : Nat) : rd c 0 = 0 := by simp [rd]
theorem jnM {c : Nat} {T : Int} (h : 0 < T) : rd c T = (rv (rR c T.natAbs) : Int) := by
 unfold rd; rw [if_neg (by omega), if_neg (by omega)]; simp
theorem jnN {c : Nat} {T : Int} (h : T < 0) : rd c T = -(rv (rR c T.natAbs) : Int) := by
 unfold rd; rw [if_neg (by omega), if_pos h]; simp
theorem jnP {c : Nat} {T S : Int} (h : T <= S) : rd c T <= rd c S := by
 rcases Int.lt_trichotomy T 0 with a | a | a <;> rcases Int.lt_trichotomy S 0 with b | b | b
 ·
  rw [jnN a, jnN b]
  have h1 := rv_le.2 (jh4 (c := c) (T := S.natAbs) (S := T.natAbs) (by omega) (by omega))
  omega
 ·
  rw [jnN a, b, jk0]; omega
 ·
  rw [jnN a, jnM b]; omega
 ·
  omega
 ·
  rw [a, b]; exact Int.le_refl _
 ·
  rw [a, jk0, jnM b]; omega
 ·
  omega
 ·
  omega
 rw [jnM a, jnM b]
 have h1 := rv_le.2 (jh4 (c := c) (T := T.natAbs) (S := S.natAbs) (by omega) (by omega))
 omega
theorem rR_lt {c T : Nat} (hc : c = 1074) (h : T <= rv 9218868437227405311) (hT : T ≠ 0) : rR c T < 9218868437227405312 := by
 have h1 := jh4 (c := c) hT h
 rw [jkF c _ hc (by decide)] at h1
 omega
theorem jgS {c : Nat} {T : Int} (hc : c = 1074) (hT : T ≠ 0) (hb : T.natAbs <= rv 9218868437227405311) : FV (Ieee.double.word (decide (T < 0)) (min (rR c T.natAbs) 9218868437227405312)) (rd c T) := by
 have h1 := rR_lt hc hb (by omega)
 rw [Nat.min_eq_left (by omega)]
 refine ⟨_, _, rfl, h1, ?_⟩
 unfold rd
 rw [if_neg hT]
 by_cases h : T < 0 <;> simp [h]
theorem fv_add {x y : Nat} {v u : Int} (c : Nat) (hc : c = 1074) (hx : FV x v) (hy : FV y u) (hb : (v + u).natAbs <= rv 9218868437227405311) : ∃ r, floatBits .add .f64 x y = some r /\ FV r (rd c (v + u)) := by
 obtain ⟨s, m, i, h1, h2, h3⟩ := hx.read
 obtain ⟨t, n, j, k1, k2, k3⟩ := hy.read
 obtain ⟨r, hr, h0, h0'⟩ := fv_sum c hc h2 k2 h3 k3
 refine ⟨r, ?_, ?_⟩
 ·
  show (Ieee.Datum.sum (Ieee.double.read x) (Ieee.double.read y)).map Ieee.double.write = some r
  rw [h1, k1]; exact hr
 by_cases hz : v + u = 0
 ·
  rw [hz, jk0]; exact h0 hz
 rw [h0' hz]; exact jgS hc hz hb
theorem fv_sub {x y : Nat} {v u : Int} (c : Nat) (hc : c = 1074) (hx : FV x v) (hy : FV y u) (hb : (v - u).natAbs <= rv 9218868437227405311) : ∃ r, floatBits .sub .f64 x y = some r /\ FV r (rd c (v - u)) := by
 obtain ⟨s, m, i, h1, h2, h3⟩ := hx.read
 obtain ⟨t, n, j, k1, k2, k3⟩ := hy.read
 have k4 : Ieee.signed (!t) n (j + 1074).toNat = -u := by rw [jkZ, k3]
 obtain ⟨r, hr, h0, h0'⟩ := fv_sum c hc h2 k2 h3 k4
 refine ⟨r, ?_, ?_⟩
 ·
  show (Ieee.Datum.sum (Ieee.double.read x) (Ieee.double.read y).opposite).map Ieee.double.write = some r
  rw [h1, k1]; exact hr
 rw [<- Int.sub_eq_add_neg] at h0 h0'
 by_cases hz : v - u = 0
 ·
  rw [hz, jk0]; exact h0 hz
 rw [h0' hz]; exact jgS hc hz hb
theorem jhL {x : Nat} (h : x < 18446744073709551616) : (∃ v, FV x v) ∨ (∃ s, Ieee.double.read x = .infinity s) ∨ jb1 x = true := by
 obtain ⟨s, r, hx, hr⟩ : ∃ s r, x = Ieee.double.word s r /\ r < 9223372036854775808 := by
  by_cases h1 : x < 9223372036854775808
  ·
   exact ⟨false, x, by simp [Ieee.Format.word], h1⟩
  exact ⟨true, x - 9223372036854775808, by simp [Ieee.Format.word, jb3]; omega, by omega⟩
 by_cases h2 : r < 9218868437227405312
 ·
  exact .inl ⟨_, s, r, hx, h2, rfl⟩
 right
 by_cases h3 : r = 9218868437227405312
 ·
  left
  subst h3
  refine ⟨s, ?_⟩
  rw [hx]
  cases s <;> decide +kernel
 right
 refine jkM ?_
 rw [hx]
 unfold Ieee.Format.word
 rw [jb3]
 cases s <;> simp <;> omega
theorem rd_fv {c : Nat} (hc : c = 1074) {x : Nat} {v : Int} (h : FV x v) : rd c v = v := by
 obtain ⟨s, r, rfl, hr, rfl⟩ := h
 by_cases h0 : r = 0
 ·
  subst h0; simp [rv, rd]
 have h1 : rv r ≠ 0 := fun h => h0 (rv_zero.1 h)
 cases s
 ·
  simp only [Bool.false_eq_true, if_false, Int.one_mul]
  rw [jnM (by omega), Int.natAbs_natCast, jkF c r hc h0]
 simp only [if_true]
 rw [jnN (by omega), Int.natAbs_mul, Int.natAbs_natCast]
 simp [jkF c r hc h0]
theorem fv_share (c : Nat) (hc : c = 1074) {x y : Nat} {S D : Int} (hx : FV x S) (hy : FV y D) (h0 : 0 <= S) (h1 : S <= ((2 ^ c : Nat) : Int)) (hD : D.natAbs <= rv 9218868437227405311) :
  ∃ r P, floatBits .mul .f64 x y = some r /\ FV r P /\ ((0 <= P /\ P <= D) ∨ (D <= P /\ P <= 0)) := by
 obtain ⟨r, hr, hz, hn⟩ := fv_mul hx hy
 by_cases h : S * D = 0
 ·
  exact ⟨r, 0, hr, hz h, by omega⟩
 have hS : S ≠ 0 := fun h2 => h (by rw [h2, Int.zero_mul])
 have hD0 : D ≠ 0 := fun h2 => h (by rw [h2, Int.mul_zero])
 have hle : S.natAbs * D.natAbs <= D.natAbs * 2 ^ c := by
  rw [Nat.mul_comm]
  exact Nat.mul_le_mul_left _ (by omega)
 have hm : S.natAbs * D.natAbs ≠ 0 := Nat.mul_ne_zero (by omega) (by omega)
 have h2 : jfQ (S.natAbs * D.natAbs) <= rR c D.natAbs := jg9 hm hle
 have h3 := rR_lt hc hD (by omega)
 have h4 := rd_fv hc hy
 have h5 := rv_le.2 h2
 have h6 := hn h
 rw [Nat.min_eq_left (by omega)] at h6
 refine ⟨r, (if decide (S * D < 0) = true then -1 else 1) * (rv (jfQ (S.natAbs * D.natAbs)) : Int), hr, ⟨_, _, h6, by omega, rfl⟩, ?_⟩
 rcases Int.lt_or_gt_of_ne hD0 with a | a
 ·
  right
  have b : S * D < 0 := Int.mul_neg_of_pos_of_neg (by omega) a
  rw [jnN a] at h4
  simp only [b, decide_true, if_true]
  omega
 left
 have b : ¬ S * D < 0 := by have := Int.mul_pos (show 0 < S by omega) a; omega
 rw [jnM a] at h4
 simp only [b, decide_false, Bool.false_eq_true, if_false]
 omega
theorem jgP {r m e : Nat} (h : r = (e + 1) * 4503599627370496 + m) (hm : m < 4503599627370496) : rv r = (4503599627370496 + m) * 2 ^ e := by
 unfold rv
 rw [if_neg (by omega), show r % 4503599627370496 = m by omega, show r / 4503599627370496 - 1 = e by omega]
theorem two52 : (2 : Nat) ^ 52 = 4503599627370496 := by decide
theorem FV.nat {r : Nat} (h : r < 9218868437227405312) : FV r (rv r : Int) := ⟨false, r, by simp [Ieee.Format.word], h, by simp⟩
theorem fv_0 : FV 0 0 := FV.nat (r := 0) (by decide)
theorem rv_one (c : Nat) (hc : c = 1074) : rv 4607182418800017408 = 2 ^ c := by
 obtain ⟨e, he⟩ : ∃ e, e = 1022 := ⟨_, rfl⟩
 rw [jgP (m := 0) (e := e) (by omega) (by decide), Nat.add_zero, <- two52, <- Nat.pow_add]
 congr 1; omega
theorem fv_one (c : Nat) (hc : c = 1074) : FV 4607182418800017408 ((2 ^ c : Nat) : Int) := by
 rw [<- rv_one c hc]; exact FV.nat (by decide)
def Gr : Nat := rv 9218868437227405311
theorem FV.neq {x y : Nat} {v u : Int} (hx : FV x v) (hy : FV y u) : FloatKind.f64.format.order x y ≠ none := by rw [hx.order hy]; simp
theorem FV.leq {x y : Nat} {v u : Int} (hx : FV x v) (hy : FV y u) : (FloatKind.f64.format.order x y == some .lt || FloatKind.f64.format.order x y == some .eq) = decide (v <= u) := by
 rw [hx.order hy]
 rcases Int.lt_trichotomy v u with h | h | h
 ·
  rw [Int.compare_eq_lt.2 h]; simp; omega
 ·
  rw [Int.compare_eq_eq.2 h]; simp; omega
 rw [Int.compare_eq_gt.2 h]; simp; omega
theorem FV.geq {x y : Nat} {v u : Int} (hx : FV x v) (hy : FV y u) : (FloatKind.f64.format.order x y == some .gt || FloatKind.f64.format.order x y == some .eq) = decide (u <= v) := by
 rw [hx.order hy]
 rcases Int.lt_trichotomy v u with h | h | h
 ·
  rw [Int.compare_eq_lt.2 h]; simp; omega
 ·
  rw [Int.compare_eq_eq.2 h]; simp; omega
 rw [Int.compare_eq_gt.2 h]; simp; omega
theorem FV.eql {x y : Nat} {v u : Int} (hx : FV x v) (hy : FV y u) : (FloatKind.f64.format.order x y == some .eq) = decide (v = u) := by
 rw [hx.order hy]
 rcases Int.lt_trichotomy v u with h | h | h
 ·
  rw [Int.compare_eq_lt.2 h]; simp; omega
 ·
  rw [Int.compare_eq_eq.2 h]; simp; omega
 rw [Int.compare_eq_gt.2 h]; simp; omega
theorem FV.max {x y : Nat} {v u : Int} (hx : FV x v) (hy : FV y u) : FV (fmax x y) (max v u) := by
 unfold fmax
 rw [hx.order hy]
 rcases Int.lt_trichotomy v u with h | h | h
 ·
  rw [Int.compare_eq_lt.2 h, show Max.max v u = u by omega]; exact hy
 ·
  rw [Int.compare_eq_eq.2 h, show Max.max v u = u by omega]
  dsimp only
  split
  ·
   exact hy
  rw [<- h]; exact hx
 rw [Int.compare_eq_gt.2 h, show Max.max v u = v by omega]; exact hx
theorem FV.min {x y : Nat} {v u : Int} (hx : FV x v) (hy : FV y u) : FV (fmin x y) (min v u) := by
 unfold fmin
 rw [hx.order hy]
 rcases Int.lt_trichotomy v u with h | h | h
 ·
  rw [Int.compare_eq_lt.2 h, show Min.min v u = v by omega]; exact hx
 ·
  rw [Int.compare_eq_eq.2 h, show Min.min v u = u by omega]
  dsimp only
  split
  ·
   rw [<- h]; exact hx
  exact hy
 rw [Int.compare_eq_gt.2 h, show Min.min v u = u by omega]; exact hy
theorem FV.num {x : Nat} {v : Int} (h : FV x v) : jb1 x = false := by
 obtain ⟨s, m, p, h1, _, _⟩ := h.read
 show (Ieee.double.read x).isNaN = false
 rw [h1]; rfl
theorem FV.fin {x : Nat} {v : Int} (h : FV x v) : v.natAbs <= Gr := by
 obtain ⟨s, r, _, h2, h3⟩ := h
 have := rv_le.2 (show r <= 9218868437227405311 by omega)
 have : v.natAbs = rv r := by rw [h3]; cases s <;> simp
 unfold Gr; omega
theorem FV.abs {x : Nat} {v : Int} (h : FV x v) : FV (x % 9223372036854775808) (v.natAbs : Int) := by
 obtain ⟨s, r, rfl, hr, rfl⟩ := h
 refine ⟨false, r, ?_, hr, ?_⟩
 ·
  unfold Ieee.Format.word
  rw [jb3]
  cases s <;> simp <;> omega
 cases s <;> simp
theorem FV.cn {x y : Nat} {v : Int} (h : FV y v) (he : cn x = y) : FV x v := by
 cases hx : jb1 x with
 | true =>
  have h1 := jdA x
  rw [he, h.num, hx] at h1
  cases h1
 | false => rw [jdH hx] at he; rw [he]; exact h
theorem FV.fop {op : BinOp} {x y r : Nat} {v : Int} (hr : floatBits op .f64 x y = some r) (h : FV r v) : FV (fop op x y) v := by
 unfold Lk.fop; rw [hr]; exact h
theorem FV.fs {op : BinOp} {x y r z : Nat} {v : Int} (hr : floatBits op .f64 x y = some r) (h : FV r v) (hz : Fs op x y z) : FV z v := by
 rcases hz with hz | ⟨hz, _⟩
 ·
  rw [hr] at hz; cases hz; exact h
 rw [hr] at hz; cases hz
theorem Rep.fv {x : Nat} {v : Int} (h : Rep x v) (c : Nat) (hc : c = 1074) (hx : x < 18446744073709551616) : FV x (v * ((2 ^ c : Nat) : Int)) := by
 obtain ⟨s, m, p, h1, h2, _, h3⟩ := h.read c hc
 rcases jhL hx with ⟨u, hu⟩ | ⟨s', hs⟩ | hn
 ·
  obtain ⟨t, n, q, k1, k2, k3⟩ := hu.read
  rw [h1] at k1
  cases k1
  rw [h3] at k3
  rw [k3]; exact hu
 ·
  rw [h1] at hs; cases hs
 obtain ⟨s', f, hs⟩ := jkG hn
 rw [h1] at hs; cases hs
theorem je9 (r : Nat) : Ieee.double.word false r = r := by simp [Ieee.Format.word]
theorem nearest_pos (m : Nat) (p : Int) : Ieee.double.nearest false m p <= 9218868437227405312 := by
 unfold Ieee.Format.nearest
 split
 ·
  rw [je9]; omega
 dsimp only
 rw [je9, jc8]
 exact Nat.min_le_right _ _
theorem jn8 {d : Ieee.Datum} (hn : d.isNaN = false) (hs : d.neg = false) : Ieee.double.write d <= 9218868437227405312 := by
 cases d with
 | nan s f => cases hn
 | infinity s => cases hs; exact Nat.le_refl _
 | number s m p => cases hs; exact nearest_pos m p
theorem mul_self (x : Nat) : jb1 (fop .mul x x) = true ∨ fop .mul x x <= 9218868437227405312 := by
 have e : floatBits .mul .f64 x x = ((Ieee.double.read x).product (Ieee.double.read x)).map Ieee.double.write := rfl
 unfold fop
 rw [e]
 cases Ieee.double.read x with
 | nan s f => left; exact jfB
 | infinity s => right; refine jn8 (d := .infinity (s ^^ s)) rfl ?_; show (s ^^ s) = false; simp
 | number s m p => right; refine jn8 (d := .number (s ^^ s) (m * m) (p + p)) rfl ?_; show (s ^^ s) = false; simp
theorem jmX {x : Nat} (h : x <= 9218868437227405312) : (∃ m p, Ieee.double.read x = .number false m p) ∨ Ieee.double.read x = .infinity false := by
 rcases Nat.lt_or_ge x 9218868437227405312 with h1 | h1
 ·
  obtain ⟨m, p, h2, _⟩ := jq1 false x h1
  rw [je9] at h2
  exact .inl ⟨m, p, h2⟩
 obtain rfl : x = 9218868437227405312 := by omega
 exact .inr (by decide +kernel)
theorem opt_write {o : Option Ieee.Datum} {d : Ieee.Datum} (ho : o = some d) (hn : d.isNaN = false) (hs : d.neg = false) : (o.map Ieee.double.write).getD qnan <= 9218868437227405312 := by
 subst ho
 exact jn8 hn hs
theorem jpZ (m k : Nat) : 0 <= Ieee.signed false m k := by
 rw [jbC]; simp only [Bool.false_eq_true, if_false, Int.one_mul]; exact Int.natCast_nonneg _
theorem sum_pos {a b : Ieee.Datum} (ha : (∃ m p, a = .number false m p) ∨ a = .infinity false) (hb : (∃ m p, b = .number false m p) ∨ b = .infinity false) : ∃ d, a.sum b = some d /\ d.isNaN = false /\ d.neg = false := by
 rcases ha with ⟨m, p, rfl⟩ | rfl <;> rcases hb with ⟨n, q, rfl⟩ | rfl
 ·
  refine ⟨_, rfl, rfl, ?_⟩
  show (if _ then _ else _) = false
  split
  ·
   rfl
  have h1 := jpZ m (p - min p q).toNat
  have h2 := jpZ n (q - min p q).toNat
  exact decide_eq_false (by omega)
 ·
  exact ⟨.infinity false, rfl, rfl, rfl⟩
 ·
  exact ⟨.infinity false, rfl, rfl, rfl⟩
 exact ⟨.infinity false, rfl, rfl, rfl⟩
theorem add_pos {x y : Nat} (hx : x <= 9218868437227405312) (hy : y <= 9218868437227405312) : fop .add x y <= 9218868437227405312 := by
 have e : floatBits .add .f64 x y = ((Ieee.double.read x).sum (Ieee.double.read y)).map Ieee.double.write := rfl
 unfold fop
 rw [e]
 obtain ⟨d, h1, h2, h3⟩ := sum_pos (jmX hx) (jmX hy)
 exact opt_write h1 h2 h3
theorem fin_of_le {D F : Nat} {u : Int} (hD : D <= 9218868437227405312) (hF : FV F u) (h : (FloatKind.f64.format.order D F == some .lt || FloatKind.f64.format.order D F == some .eq) = true) : FV D (rv D : Int) /\ (rv D : Int) <= u := by
 rcases Nat.lt_or_ge D 9218868437227405312 with h1 | h1
 ·
  have hd := FV.nat h1
  refine ⟨hd, ?_⟩
  rw [hd.leq hF] at h
  exact of_decide_eq_true h
 obtain rfl : D = 9218868437227405312 := by omega
 obtain ⟨s, m, p, h2, _⟩ := hF.read
 have e : FloatKind.f64.format.order 9218868437227405312 F = some .gt := by
  show (Ieee.double.read 9218868437227405312).order (Ieee.double.read F) = _
  rw [h2, show Ieee.double.read 9218868437227405312 = .infinity false by decide +kernel]; rfl
 rw [e] at h
 exact absurd h (by decide)
theorem sticky {q n D t A S : Nat} (hA : A <= S) (h1 : q * n <= D) (ht : t <= 1) (h2 : t = 1 -> q * n < D) (h3 : D * 2 ^ A <= n * 2 ^ S) (hn : 0 < n) : (2 * q + t) * 2 ^ A <= 2 ^ (S + 1) := by
 obtain ⟨k, rfl⟩ : ∃ k, S = A + k := ⟨S - A, by omega⟩
 have p1 : 0 < 2 ^ A := Nat.two_pow_pos A
 rw [Nat.pow_add, <- Nat.mul_assoc, Nat.mul_right_comm] at h3
 have h3' : D <= n * 2 ^ k := Nat.le_of_mul_le_mul_right (by simpa [Nat.mul_comm, Nat.mul_left_comm, Nat.mul_assoc] using h3) p1
 have h4 : 2 * q + t <= 2 ^ (k + 1) := by
  rw [Nat.pow_succ]
  rcases Nat.lt_or_ge q (2 ^ k) with hq | hq
  ·
   omega
  have h5 : 2 ^ k * n <= q * n := Nat.mul_le_mul_right _ hq
  have h9 : 2 ^ k * n = n * 2 ^ k := Nat.mul_comm _ _
  have h6 : q * n = 2 ^ k * n := by omega
  have h7 : q = 2 ^ k := Nat.eq_of_mul_eq_mul_right hn h6
  have h8 : t ≠ 1 := fun h => by have := h2 h; rw [h6, Nat.mul_comm] at this; omega
  omega
 calc (2 * q + t) * 2 ^ A <= 2 ^ (k + 1) * 2 ^ A := Nat.mul_le_mul_right _ h4
  _ = 2 ^ (A + k + 1) := by rw [<- Nat.pow_add]; congr 1; omega
theorem rv_fine (c : Nat) (hc : c = 1074) : rv 4697254411347427328 = 1048576 * 2 ^ c := by
 obtain ⟨e, he⟩ : ∃ e, e = 1042 := ⟨_, rfl⟩
 rw [jgP (r := 4697254411347427328) (e := e) (m := 0) (by omega) (by decide), Nat.add_zero, show c = 32 + e by omega, Nat.pow_add, <- Nat.mul_assoc]
theorem Rep.toInt {x : Nat} {v : Int} (h : Rep x v) : floatToIntVal .f64 x .i64 = some v := by
 obtain ⟨c, hc⟩ : ∃ c, c = 1074 := ⟨_, rfl⟩
 have hv : v.natAbs < 9007199254740992 := by rcases h with ⟨rfl, _⟩ | ⟨_, h, _⟩ <;> first | exact h | decide
 obtain ⟨s, m, p, h1, h2, h3, h4⟩ := h.read c hc
 rw [jbC] at h4
 have key : (FloatKind.f64.decode x).toInt .zero = some v := by
  show (Ieee.double.read x).toInt .zero = some v
  rw [h1]
  simp only [Ieee.Datum.toInt, Ieee.Datum.integral, Ieee.Toward.cut, Bool.toNat_false, Nat.add_zero]
  congr 1
  rw [jbC, Nat.pow_zero, Nat.mul_one]
  by_cases hp : 0 <= p
  ·
   rw [show (-p).toNat = 0 by omega, Nat.zero_min, Nat.shiftLeft_zero, Nat.div_one, Nat.shiftLeft_eq]
   rw [show (p + 1074).toNat = p.toNat + c by omega, Nat.pow_add, <- Nat.mul_assoc, Int.natCast_mul (m * 2 ^ p.toNat), <- Int.mul_assoc] at h4
   have pc := Nat.two_pow_pos c
   exact Int.eq_of_mul_eq_mul_right (by omega) h4
  rw [show p.toNat = 0 by omega, Nat.shiftLeft_zero]
  have pc := Nat.two_pow_pos (p + 1074).toNat
  have e1 : (2 ^ c : Nat) = 2 ^ (-p).toNat * 2 ^ (p + 1074).toNat := by rw [<- Nat.pow_add]; congr 1; omega
  rw [e1, Int.natCast_mul m, <- Int.mul_assoc, Int.natCast_mul (2 ^ (-p).toNat), <- Int.mul_assoc] at h4
  have h5 := Int.eq_of_mul_eq_mul_right (by omega) h4
  have p2 := Nat.two_pow_pos (-p).toNat
  by_cases hm : m = 0
  ·
   subst hm
   rw [Int.natCast_zero, Int.mul_zero] at h5
   have : v = 0 := (Int.mul_eq_zero.1 h5.symm).resolve_right (by omega)
   rw [this, Nat.zero_div]; simp
  have hmv : m = v.natAbs * 2 ^ (-p).toNat := by
   have h6 := congrArg Int.natAbs h5
   rw [Int.natAbs_mul, Int.natAbs_mul, Int.natAbs_natCast, Int.natAbs_natCast] at h6
   have : (if s then -1 else 1 : Int).natAbs = 1 := by cases s <;> rfl
   rw [this, Nat.one_mul] at h6
   exact h6
  have hv0 : v.natAbs ≠ 0 := fun h => hm (by rw [hmv, h, Nat.zero_mul])
  have hlg : (-p).toNat <= m.log2 := by
   rw [hmv, jdZ hv0]; omega
  rw [Nat.min_eq_left (by omega), Nat.one_shiftLeft]
  have hdiv : m / 2 ^ (-p).toNat = v.natAbs := by rw [hmv, Nat.mul_div_cancel _ p2]
  rw [hdiv]
  have hm1 : (m : Int) = (v.natAbs : Int) * ((2 ^ (-p).toNat : Nat) : Int) := by rw [<- Int.natCast_mul, <- hmv]
  rw [hm1, <- Int.mul_assoc] at h5
  exact Int.eq_of_mul_eq_mul_right (by omega) h5
 unfold floatToIntVal
 rw [key]
 dsimp only
 rw [if_pos]
 have b1 : IntKind.i64.min = -9223372036854775808 := by decide
 have b2 : IntKind.i64.max = 9223372036854775807 := by decide
 rw [b1, b2]
 omega
theorem read_word2 (s : Bool) (r : Nat) (h : r < 9218868437227405312) : ∃ m p, Ieee.double.read (Ieee.double.word s r) = .number s m p /\ -1074 <= p /\ m * 2 ^ (p + 1074).toNat = rv r /\ m < 9007199254740992 := by
 have h1 : ∀ b : Bool, ((Ieee.double.word b r / 9223372036854775808 % 2 == 1) = b) /\ Ieee.double.word b r % 9223372036854775808 = r := by
  intro b
  unfold Ieee.Format.word
  rw [jb3]
  cases b
  ·
   simp only [Bool.false_eq_true, if_false]
   refine ⟨?_, by omega⟩
   rw [show r / 9223372036854775808 = 0 by omega]; simp
  simp only [if_true]
  refine ⟨?_, by omega⟩
  rw [show (9223372036854775808 + r) / 9223372036854775808 = 1 by omega]; simp
 have f2 : Ieee.double.leastPlace = -1074 := by decide
 unfold Ieee.Format.read
 rw [jb3, jdP, jc8, (h1 s).2]
 by_cases a : r < 4503599627370496
 ·
  refine ⟨r, -1074, ?_, by omega, ?_, by omega⟩
  ·
   simp only [a, if_true, f2]
   have := (h1 s).1
   rw [this]
  simp [rv, a]
 refine ⟨4503599627370496 + r % 4503599627370496, -1074 + (r / 4503599627370496 - 1 : Nat), ?_, by omega, ?_, by omega⟩
 ·
  simp only [a, h, if_true, if_false, f2]
  have := (h1 s).1
  rw [this]
 rw [rv, if_neg a]
 congr 2
 omega
theorem jfK {x : Nat} {s : Bool} (hx : x < 18446744073709551616) (hs : Ieee.double.read x = .infinity s) : x = 9218868437227405312 ∨ x = 18442240474082181120 := by
 unfold Ieee.Format.read at hs
 rw [jb3, jdP, jc8] at hs
 by_cases a : x % 9223372036854775808 < 4503599627370496
 ·
  simp [a] at hs
 by_cases b : x % 9223372036854775808 < 9218868437227405312
 ·
  simp [a, b] at hs
 by_cases d : x % 9223372036854775808 = 9218868437227405312
 ·
  omega
 simp [a, b, d] at hs
theorem isnan_rng (y : Nat) : jb1 y = !(decide (y % 9223372036854775808 <= 9218868437227405312)) := by
 show (Ieee.Format.read Ieee.double y).isNaN = _
 unfold Ieee.Format.read
 rw [jb3, jdP, jc8]
 dsimp only
 split
 ·
  rw [decide_eq_true (by omega)]; rfl
 split
 ·
  rw [decide_eq_true (by omega)]; rfl
 split
 ·
  rw [decide_eq_true (by omega)]; rfl
 rw [decide_eq_false (by omega)]; rfl
theorem jbY {op : BinOp} {x y r : Nat} (h : floatBits op .f64 x y = some r) : fop op x y = r := by simp [fop, h]
theorem jqF (d : Ieee.Datum) (h : d.isNaN = false) : Ieee.double.write d < 18446744073709551616 := by
 have hw : ∀ s r, r <= 9218868437227405312 -> Ieee.double.word s r < 18446744073709551616 := fun s r hr => by
  unfold Ieee.Format.word
  rw [jb3]
  split <;> omega
 cases d with
 | nan s f => simp [Ieee.Datum.isNaN] at h
 | infinity s => exact hw s _ (Nat.le_refl _)
 | number s m p =>
  show Ieee.double.nearest s m p < _
  unfold Ieee.Format.nearest
  dsimp only
  split
  ·
   exact hw s 0 (by omega)
  exact hw s _ (by rw [jc8]; exact Nat.min_le_right _ _)
theorem jfX {op : BinOp} {x y r : Nat} (h : floatBits op .f64 x y = some r) : r < 18446744073709551616 := by
 have key : ∀ o : Option Ieee.Datum, (∀ d, o = some d -> d.isNaN = false) -> o.map Ieee.double.write = some r -> r < 18446744073709551616 := fun o ho hr => by
  cases o with
  | none => cases hr
  | some d => cases hr; exact jqF d (ho d rfl)
 unfold floatBits at h
 split at h
 ·
  exact key _ (fun d hd => jeB hd) h
 ·
  exact key _ (fun d hd => jeB hd) h
 ·
  exact key _ (fun d hd => jfF hd) h
 ·
  exact key _ (fun d hd => jf0 hd) h
 cases h
theorem fop_lt (op : BinOp) (x y : Nat) : fop op x y < 18446744073709551616 := by
 unfold fop
 cases h : floatBits op .f64 x y with
 | none => decide
 | some r => exact jfX h
theorem fop_add0 {x : Nat} (hx : x < 18446744073709551616) (hn : jb1 x = false) : fop .add x 0 = if (FloatKind.f64.format.order x 0 == some .eq) = true then 0 else x := by
 obtain ⟨c, hc⟩ : ∃ c, c = 1074 := ⟨_, rfl⟩
 have h0 : FV 0 0 := ⟨false, 0, by simp [Ieee.Format.word], by decide, by rw [show rv 0 = 0 from rv_zero.2 rfl]; rfl⟩
 rcases jhL hx with ⟨v, hv⟩ | ⟨s, hs⟩ | h
 ·
  have ho := hv.order h0
  rw [ho]
  obtain ⟨s, r, hxw, hr, hvr⟩ := hv
  by_cases hz : v = 0
  ·
   have hr0 : r = 0 := rv_zero.1 (by cases s <;> simp at hvr <;> omega)
   subst hr0
   rw [hxw, hz]
   cases s <;> decide +kernel
  have hr0 : r ≠ 0 := fun h => by
   rw [h, show rv 0 = 0 from rv_zero.2 rfl] at hvr
   exact hz (by rw [hvr]; simp)
  rw [if_neg (fun h => hz (Std.LawfulEqCmp.eq_of_compare (cmp := fun a b : Int => compare a b) (Option.some.inj (eq_of_beq h))))]
  have hv2 : FV x v := ⟨s, r, hxw, hr, hvr⟩
  obtain ⟨sx, mx, i, h1, h2, h3⟩ := hv2.read
  obtain ⟨t, n, j, k1, k2, k3⟩ := h0.read
  obtain ⟨q, hq, _, hq'⟩ := fv_sum c hc h2 k2 h3 k3
  have hb : floatBits .add .f64 x 0 = some q := by
   show (Ieee.Datum.sum (Ieee.double.read x) (Ieee.double.read 0)).map Ieee.double.write = some q
   rw [h1, k1]; exact hq
  rw [jbY hb, hq' (by omega), Int.add_zero]
  have habs : v.natAbs = rv r := by rw [hvr]; cases s <;> simp
  have hrv : 0 < rv r := Nat.pos_of_ne_zero fun h => hr0 (rv_zero.1 h)
  rw [habs, jkF c r hc hr0, Nat.min_eq_left (by omega), hxw]
  congr 1
  cases s <;> simp at hvr ⊢ <;> omega
 ·
  rcases jfK hx hs with rfl | rfl <;> decide +kernel
 rw [h] at hn; cases hn
theorem jkE (r : Nat) (h : r < 9218868437227405312) : ∃ m p, (∀ s, Ieee.double.read (Ieee.double.word s r) = .number s m p) /\ -1074 <= p /\ m * 2 ^ (p + 1074).toNat = rv r := by
 have h1 : ∀ b : Bool, ((Ieee.double.word b r / 9223372036854775808 % 2 == 1) = b) /\ Ieee.double.word b r % 9223372036854775808 = r := by
  intro b
  unfold Ieee.Format.word
  rw [jb3]
  cases b
  ·
   simp only [Bool.false_eq_true, if_false]
   refine ⟨?_, by omega⟩
   rw [show r / 9223372036854775808 = 0 by omega]; simp
  simp only [if_true]
  refine ⟨?_, by omega⟩
  rw [show (9223372036854775808 + r) / 9223372036854775808 = 1 by omega]; simp
 have f2 : Ieee.double.leastPlace = -1074 := by decide
 unfold Ieee.Format.read
 rw [jb3, jdP, jc8]
 by_cases a : r < 4503599627370496
 ·
  refine ⟨r, -1074, fun s => ?_, by omega, ?_⟩
  ·
   have := (h1 s).1
   simp only [(h1 s).2, a, if_true, f2]
   rw [this]
  simp [rv, a]
 refine ⟨4503599627370496 + r % 4503599627370496, -1074 + (r / 4503599627370496 - 1 : Nat), fun s => ?_, by omega, ?_⟩
 ·
  have := (h1 s).1
  simp only [(h1 s).2, a, h, if_true, if_false, f2]
  rw [this]
 rw [rv, if_neg a]
 congr 2
 omega
def whN (m : Nat) (p : Int) : Nat := (m <<< p.toNat) >>> (-p).toNat
theorem whN_le (c m : Nat) (p : Int) (hc : c = 1074) (hp : -1074 <= p) : whN m p * 2 ^ c <= m * 2 ^ (p + 1074).toNat := by
 unfold whN
 rw [Nat.shiftLeft_eq, Nat.shiftRight_eq_div_pow]
 by_cases h0 : 0 <= p
 ·
  rw [show (-p).toNat = 0 by omega, Nat.pow_zero, Nat.div_one, Nat.mul_assoc, <- Nat.pow_add, show (p + 1074).toNat = p.toNat + c by omega]
  exact Nat.le_refl _
 rw [show p.toNat = 0 by omega, Nat.pow_zero, Nat.mul_one, show c = (-p).toNat + (p + 1074).toNat by omega, Nat.pow_add, <- Nat.mul_assoc]
 exact Nat.mul_le_mul_right _ (Nat.div_mul_le_self _ _)
theorem wh_word (r m : Nat) (p : Int) (c : Nat) (hc : c = 1074) (h : r < 9218868437227405312) (hp : -1074 <= p) (hm : m * 2 ^ (p + 1074).toNat = rv r) :
  ∃ r1, r1 <= r /\ ∀ s, Ieee.double.nearest s (whN m p) 0 = Ieee.double.word s r1 := by
 by_cases h0 : whN m p = 0
 ·
  refine ⟨0, Nat.zero_le _, fun s => ?_⟩
  rw [h0]
  cases s <;> decide +kernel
 have hr : r ≠ 0 := fun hr => by
  subst hr
  have : rv 0 = 0 := rv_zero.2 rfl
  rw [this] at hm
  have hm0 : m = 0 := by
   rcases Nat.mul_eq_zero.1 hm with h | h
   ·
    exact h
   have := Nat.two_pow_pos (p + 1074).toNat; omega
  apply h0
  unfold whN
  rw [hm0]
  simp
 have hle := whN_le c m p hc hp
 rw [hm] at hle
 have hpos : whN m p * 2 ^ c ≠ 0 := by
  have := Nat.mul_pos (Nat.pos_of_ne_zero h0) (Nat.two_pow_pos c)
  omega
 have hR := jh4 (c := c) hpos hle
 rw [jkF c r hc hr] at hR
 refine ⟨rR c (whN m p * 2 ^ c), hR, fun s => ?_⟩
 rw [jfH s _ 0 h0 (by decide)]
 unfold rR at hR ⊢
 rw [Nat.mul_assoc, <- Nat.pow_add, show ((0 : Int) + 2148).toNat = c + c by omega] at *
 rw [Nat.min_eq_left (by omega)]
theorem cut_low {n d : Nat} : n / (1 <<< min d (n.log2 + 2)) = n >>> d := by
 rw [Nat.shiftRight_eq_div_pow, Nat.shiftLeft_eq, Nat.one_mul]
 rcases Nat.le_total d (n.log2 + 2) with h | h
 ·
  rw [Nat.min_eq_left h]
 rw [Nat.min_eq_right h]
 have h1 : n < 2 ^ (n.log2 + 2) := Nat.lt_of_lt_of_le Nat.lt_log2_self (Nat.pow_le_pow_right (by decide) (by omega))
 have h2 : n < 2 ^ d := Nat.lt_of_lt_of_le h1 (Nat.pow_le_pow_right (by decide) h)
 rw [Nat.div_eq_of_lt h1, Nat.div_eq_of_lt h2]
theorem cut_zero (s : Bool) (n d : Nat) : Ieee.Toward.zero.cut s n d = n >>> d := by
 unfold Ieee.Toward.cut
 dsimp only
 rw [cut_low]; rfl
theorem cut_down (n d : Nat) : Ieee.Toward.down.cut false n d = n >>> d := by
 unfold Ieee.Toward.cut
 dsimp only
 rw [cut_low]; simp
theorem cut_down0 (s : Bool) (d : Nat) : Ieee.Toward.down.cut s 0 d = 0 := by
 unfold Ieee.Toward.cut
 simp
def truW (x : Nat) : Nat := FloatKind.f64.encode ((FloatKind.f64.decode x).integral .zero)
def floW (x : Nat) : Nat := FloatKind.f64.encode ((FloatKind.f64.decode x).integral .down)
theorem tru_word (s : Bool) (r : Nat) (h : r < 9218868437227405312) : ∃ r1, r1 <= r /\ truW (Ieee.double.word s r) = Ieee.double.word s r1 /\ floW (Ieee.double.word false r) = Ieee.double.word false r1 /\ (r = 0 -> floW (Ieee.double.word s r) = Ieee.double.word s 0) := by
 obtain ⟨c, hc⟩ : ∃ c, c = 1074 := ⟨_, rfl⟩
 obtain ⟨m, p, h1, h2, h3⟩ := jkE r h
 obtain ⟨r1, h4, h5⟩ := wh_word r m p c hc h h2 h3
 refine ⟨r1, h4, ?_, ?_, fun hr => ?_⟩
 ·
  show Ieee.double.write ((Ieee.double.read (Ieee.double.word s r)).integral .zero) = _
  rw [h1]
  show Ieee.double.nearest s (Ieee.Toward.zero.cut s (m <<< p.toNat) (-p).toNat) 0 = _
  rw [cut_zero]
  exact h5 s
 ·
  show Ieee.double.write ((Ieee.double.read (Ieee.double.word false r)).integral .down) = _
  rw [h1]
  show Ieee.double.nearest false (Ieee.Toward.down.cut false (m <<< p.toNat) (-p).toNat) 0 = _
  rw [cut_down]
  exact h5 false
 show Ieee.double.write ((Ieee.double.read (Ieee.double.word s r)).integral .down) = _
 rw [h1]
 show Ieee.double.nearest s (Ieee.Toward.down.cut s (m <<< p.toNat) (-p).toNat) 0 = _
 have hm : m = 0 := by
  subst hr
  rw [show rv 0 = 0 from rv_zero.2 rfl] at h3
  rcases Nat.mul_eq_zero.1 h3 with h | h
  ·
   exact h
  have := Nat.two_pow_pos (p + 1074).toNat; omega
 rw [hm, Nat.zero_shiftLeft, cut_down0]
 cases s <;> decide +kernel
theorem jn0 (s : Bool) (r : Nat) (h : r < 9223372036854775808) : Op.negFloat .f64 (Ieee.double.word s r) = Ieee.double.word (!s) r := by
 show (Ieee.double.word s r) ^^^ 2 ^ 63 = _
 unfold Ieee.Format.word
 rw [jb3]
 have e : ∀ q : Nat, q < 9223372036854775808 -> q ^^^ 2 ^ 63 = 9223372036854775808 + q := fun q hq => by
  rw [Nat.add_comm]
  have := Nat.two_pow_add_eq_or_of_lt (i := 63) (b := q) hq 1
  rw [Nat.mul_one] at this
  rw [show q + 9223372036854775808 = 2 ^ 63 + q by omega, this]
  apply Nat.eq_of_testBit_eq
  intro i
  rw [Nat.testBit_xor, Nat.testBit_or, Bool.xor_comm]
  cases h1 : Nat.testBit (2 ^ 63) i
  ·
   simp
  rw [Nat.testBit_two_pow] at h1
  have hi : 63 = i := by simpa using h1
  subst hi
  rw [Nat.testBit_lt_two_pow hq]; rfl
 cases s
 ·
  simp only [Bool.false_eq_true, if_false, Bool.not_false, if_true]
  exact e r h
 simp only [if_true, Bool.not_true, Bool.false_eq_true, if_false]
 rw [<- e r h, Nat.xor_assoc, Nat.xor_self, Nat.xor_zero]
theorem quo_datum {a b : Ieee.Datum} (dg : Nat) (ha : (∃ m p, a = .number false m p) ∨ a = .infinity false) (hb : (∃ m p, b = .number false m p) ∨ b = .infinity false) : a.quotient dg b = none ∨ ∃ d, a.quotient dg b = some d /\ d.isNaN = false /\ d.neg = false := by
 rcases ha with ⟨m, p, rfl⟩ | rfl <;> rcases hb with ⟨n, q, rfl⟩ | rfl
 ·
  unfold Ieee.Datum.quotient
  dsimp only
  split
  ·
   split
   ·
    exact .inl rfl
   exact .inr ⟨_, rfl, rfl, rfl⟩
  exact .inr ⟨_, rfl, rfl, rfl⟩
 ·
  exact .inr ⟨_, rfl, rfl, rfl⟩
 ·
  exact .inr ⟨_, rfl, rfl, rfl⟩
 exact .inl rfl
theorem quo_pos {x y : Nat} (hx : x <= 9218868437227405312) (hy : y <= 9218868437227405312) : jb1 (fop .quo x y) = true ∨ fop .quo x y <= 9218868437227405312 := by
 obtain ⟨dg, e⟩ : ∃ dg, floatBits .quo .f64 x y = ((Ieee.double.read x).quotient dg (Ieee.double.read y)).map Ieee.double.write := ⟨_, rfl⟩
 unfold fop
 rw [e]
 rcases quo_datum dg (jmX hx) (jmX hy) with h | ⟨d, h1, h2, h3⟩
 ·
  left; rw [h]; exact jfB
 right; exact opt_write h1 h2 h3
theorem rv_fine40 (c : Nat) (hc : c = 1074) : rv 4787326403894837248 = 1099511627776 * 2 ^ c := by
 obtain ⟨e, he⟩ : ∃ e, e = 1062 := ⟨_, rfl⟩
 rw [jgP (r := 4787326403894837248) (e := e) (m := 0) (by omega) (by decide), Nat.add_zero, show c = 12 + e by omega, Nat.pow_add, <- Nat.mul_assoc]
theorem jq5 (c : Nat) (hc : c = 1074) {x : Nat} {z : Int} (hx : FV x z) (h0 : 0 <= z) (h1 : z <= ((1048576 * 2 ^ c : Nat) : Int)) : ∃ r y, floatBits .mul .f64 x 4697254411347427328 = some r /\ FV r y /\ 0 <= y /\ y <= ((1099511627776 * 2 ^ c : Nat) : Int) := by
 have hf : FV 4697254411347427328 ((1048576 * 2 ^ c : Nat) : Int) := by have := FV.nat (r := 4697254411347427328) (by decide); rwa [rv_fine c hc] at this
 obtain ⟨r, hr, hz, hn⟩ := fv_mul hx hf
 have pc := Nat.two_pow_pos c
 by_cases hz0 : z * ((1048576 * 2 ^ c : Nat) : Int) = 0
 ·
  exact ⟨r, 0, hr, hz hz0, by omega, Int.natCast_nonneg _⟩
 have hz1 : z ≠ 0 := fun h => hz0 (by rw [h, Int.zero_mul])
 have hpos : 0 < z * ((1048576 * 2 ^ c : Nat) : Int) := Int.mul_pos (by omega) (by omega)
 have e := hn hz0
 rw [decide_eq_false (by omega), je9] at e
 have hb : z.natAbs * ((1048576 * 2 ^ c : Nat) : Int).natAbs <= 1099511627776 * 2 ^ c * 2 ^ c := by
  rw [Int.natAbs_natCast]
  have h2 : z.natAbs <= 1048576 * 2 ^ c := by omega
  refine Nat.le_trans (Nat.mul_le_mul_right _ h2) (Nat.le_of_eq ?_)
  rw [show (1099511627776 : Nat) = 1048576 * 1048576 from rfl]
  generalize 2 ^ c = y
  rw [Nat.mul_mul_mul_comm, <- Nat.mul_assoc]
 have hr2 : jfQ (z.natAbs * ((1048576 * 2 ^ c : Nat) : Int).natAbs) <= 4787326403894837248 := by
  refine Nat.le_trans (jg9 (Nat.mul_ne_zero (by omega) (by rw [Int.natAbs_natCast]; omega)) hb) (Nat.le_of_eq ?_)
  have := jkF c 4787326403894837248 hc (by decide)
  rw [rv_fine40 c hc] at this
  exact this
 rw [Nat.min_eq_left (by omega)] at e
 rw [e] at hr
 refine ⟨_, _, hr, FV.nat (by omega), Int.natCast_nonneg _, ?_⟩
 have := rv_le.2 hr2
 rw [rv_fine40 c hc] at this
 exact Int.ofNat_le.2 this
theorem jkN (c : Nat) (hc : c = 1074) {x : Nat} {y : Int} (hx : FV x y) (h0 : 0 <= y) (h1 : y <= ((1099511627776 * 2 ^ c : Nat) : Int)) : ∃ m : Nat, m <= 1099511627776 /\ floatToIntVal .f64 (FloatKind.f64.encode ((FloatKind.f64.decode x).integral .down)) .i64 = some (m : Int) := by
 obtain ⟨s, n, p, a1, a2, a3⟩ := hx.read
 rw [jbC] at a3
 have hy : n * 2 ^ (p + 1074).toNat <= 1099511627776 * 2 ^ c := by
  generalize 1099511627776 * 2 ^ c = z at h1
  generalize n * 2 ^ (p + 1074).toNat = z2 at a3 ⊢
  cases s <;> simp at a3 <;> omega
 have pp := Nat.two_pow_pos (p + 1074).toNat
 have pc := Nat.two_pow_pos c
 have hs : n ≠ 0 -> s = false := fun hn => by
  have := Nat.mul_pos (Nat.pos_of_ne_zero hn) pp
  generalize n * 2 ^ (p + 1074).toNat = z2 at a3 this
  cases s
  ·
   rfl
  simp at a3; omega
 obtain ⟨k, hk⟩ : ∃ k, k = Ieee.Toward.cut .down s (n <<< p.toNat) (-p).toNat := ⟨_, rfl⟩
 have hk2 : k * 2 ^ (-p).toNat <= n <<< p.toNat := by
  rw [hk]
  unfold Ieee.Toward.cut
  by_cases hn : n = 0
  ·
   subst hn
   simp
  rw [hs hn]
  simp only [Bool.false_and, Bool.toNat_false, Nat.add_zero]
  rcases Nat.le_total (-p).toNat ((n <<< p.toNat).log2 + 2) with h | h
  ·
   rw [Nat.min_eq_left h, Nat.one_shiftLeft]
   exact Nat.div_mul_le_self _ _
  rw [Nat.min_eq_right h, Nat.one_shiftLeft]
  have l := Nat.lt_log2_self (n := n <<< p.toNat)
  have : 2 ^ ((n <<< p.toNat).log2 + 1) <= 2 ^ ((n <<< p.toNat).log2 + 2) := Nat.pow_le_pow_right (by decide) (by omega)
  rw [Nat.div_eq_of_lt (by omega), Nat.zero_mul]
  exact Nat.zero_le _
 have hkm : k <= 1099511627776 := by
  rw [Nat.shiftLeft_eq] at hk2
  refine Nat.le_of_mul_le_mul_right (Nat.le_trans ?_ hy) pc
  by_cases hp : 0 <= p
  ·
   rw [show (-p).toNat = 0 by omega, Nat.pow_zero, Nat.mul_one] at hk2
   rw [show (p + 1074).toNat = p.toNat + c by omega, Nat.pow_add, <- Nat.mul_assoc]
   exact Nat.mul_le_mul_right _ hk2
  rw [show p.toNat = 0 by omega, Nat.pow_zero, Nat.mul_one] at hk2
  rw [show c = (-p).toNat + (p + 1074).toNat by omega, Nat.pow_add, <- Nat.mul_assoc]
  exact Nat.mul_le_mul_right _ hk2
 refine ⟨k, hkm, Rep.toInt (v := (k : Int)) ?_⟩
 show Rep (Ieee.double.write ((Ieee.double.read x).integral .down)) _
 rw [a1]
 show Rep (Ieee.double.nearest s (Ieee.Toward.cut .down s (n <<< p.toNat) (-p).toNat) 0) _
 rw [<- hk]
 refine rep_write c hc (by omega) (by omega) ?_
 rw [jbC, show ((0 : Int) + 1074).toNat = c by omega, Int.natCast_mul]
 by_cases hn : n = 0
 ·
  have : k = 0 := by
   rw [hn, Nat.zero_shiftLeft] at hk2
   have := Nat.two_pow_pos (-p).toNat
   exact (Nat.mul_eq_zero.1 (Nat.le_zero.1 hk2)).resolve_right (by omega)
  rw [this]; simp
 rw [hs hn]; simp
def Flt (M : Nat) : Prop := ∃ r, r < 9218868437227405312 /\ r ≠ 0 /\ ∀ c, c = 1074 -> rv r = M * 2 ^ c
theorem jbQ {e : Nat} (h : e <= 1000) : Flt (2 ^ e) := by
 refine ⟨(1023 + e) * 4503599627370496, by omega, by omega, fun c hc => ?_⟩
 obtain ⟨f, hf⟩ : ∃ f, f = 1022 + e := ⟨_, rfl⟩
 rw [jgP (e := f) (m := 0) (by omega) (by decide), Nat.add_zero, <- two52, <- Nat.pow_add, <- Nat.pow_add]
 congr 1; omega
theorem flt_three {e : Nat} (h : e <= 1000) : Flt (3 * 2 ^ e) := by
 refine ⟨(1024 + e) * 4503599627370496 + 2251799813685248, by omega, by omega, fun c hc => ?_⟩
 obtain ⟨f, hf⟩ : ∃ f, f = 1023 + e := ⟨_, rfl⟩
 rw [jgP (e := f) (m := 2251799813685248) (by omega) (by decide), show 4503599627370496 + 2251799813685248 = 3 * 2 ^ 51 by decide, Nat.mul_assoc, <- Nat.pow_add, Nat.mul_assoc, <- Nat.pow_add]
 congr 2; omega
def AM (c x M : Nat) : Prop := ∃ v : Int, FV x v /\ v.natAbs <= M * 2 ^ c
def NM (c x M : Nat) : Prop := ∃ v : Int, FV x v /\ 0 <= v /\ v <= ((M * 2 ^ c : Nat) : Int)
theorem NM.mono {c x M N : Nat} (h : NM c x M) (hl : M <= N) : NM c x N := by
 obtain ⟨v, h1, h2, h3⟩ := h
 have := Nat.mul_le_mul_right (2 ^ c) hl
 exact ⟨v, h1, h2, by omega⟩
theorem AM.mono {c x M N : Nat} (h : AM c x M) (hl : M <= N) : AM c x N := by
 obtain ⟨v, h1, h2⟩ := h
 have := Nat.mul_le_mul_right (2 ^ c) hl
 exact ⟨v, h1, by omega⟩
theorem jeM {x y : Nat} {v : Int} (h : FV x v) (e : cn y = cn x) : FV y v := by
 have h1 : jb1 x = false := h.num
 rw [jdH h1] at e
 exact FV.cn h e
theorem NM.congr {c x y M : Nat} (h : NM c x M) (e : cn y = cn x) : NM c y M := by
 obtain ⟨v, h1, h2⟩ := h
 exact ⟨v, jeM h1 e, h2⟩
theorem AM.congr {c x y M : Nat} (h : AM c x M) (e : cn y = cn x) : AM c y M := by
 obtain ⟨v, h1, h2⟩ := h
 exact ⟨v, jeM h1 e, h2⟩
theorem Flt.bound {c M : Nat} (h : Flt M) (hc : c = 1074) : M * 2 ^ c <= rv 9218868437227405311 := by
 obtain ⟨r, h1, _, h3⟩ := h
 rw [<- h3 c hc]
 exact rv_le.2 (by omega)
theorem jmY {c M : Nat} {T : Int} (hc : c = 1074) (h : Flt M) (hT : T.natAbs <= M * 2 ^ c) : (rd c T).natAbs <= M * 2 ^ c := by
 obtain ⟨r, h1, h2, h3⟩ := h
 have h4 := h3 c hc
 by_cases h0 : T = 0
 ·
  rw [h0, jk0]; exact Nat.zero_le _
 have h5 : rv (rR c T.natAbs) <= rv r := rv_le.2 (by
  have := jh4 (c := c) (T := T.natAbs) (S := rv r) (by omega) (by omega)
  rwa [jkF c r hc h2] at this)
 rcases Int.lt_or_gt_of_ne h0 with h6 | h6
 ·
  rw [jnN h6]; omega
 rw [jnM h6]; omega
theorem rd_nonneg {c : Nat} {T : Int} (h : 0 <= T) : 0 <= rd c T := by
 have := jnP (c := c) h
 rwa [jk0] at this
theorem AM.add {c x y A B M : Nat} (hc : c = 1074) (hx : AM c x A) (hy : AM c y B) (h : A + B <= M) (hM : Flt M) : AM c (fop .add x y) M := by
 obtain ⟨v, v1, v2⟩ := hx
 obtain ⟨u, u1, u2⟩ := hy
 have hb := hM.bound hc
 have hT : (v + u).natAbs <= M * 2 ^ c := by
  have := Nat.mul_le_mul_right (2 ^ c) h
  rw [Nat.add_mul] at this
  omega
 obtain ⟨r, e, h3⟩ := fv_add c hc v1 u1 (by omega)
 exact ⟨_, by rw [jbY e]; exact h3, jmY hc hM hT⟩
theorem AM.sub {c x y A B M : Nat} (hc : c = 1074) (hx : AM c x A) (hy : AM c y B) (h : A + B <= M) (hM : Flt M) : AM c (fop .sub x y) M := by
 obtain ⟨v, v1, v2⟩ := hx
 obtain ⟨u, u1, u2⟩ := hy
 have hb := hM.bound hc
 have hT : (v - u).natAbs <= M * 2 ^ c := by
  have := Nat.mul_le_mul_right (2 ^ c) h
  rw [Nat.add_mul] at this
  omega
 obtain ⟨r, e, h3⟩ := fv_sub c hc v1 u1 (by omega)
 exact ⟨_, by rw [jbY e]; exact h3, jmY hc hM hT⟩
theorem fv_addN {c x y : Nat} {v u : Int} {M : Nat} (hc : c = 1074) (hx : FV x v) (hy : FV y u) (hv : 0 <= v) (hu : 0 <= u) (hM : Flt M) (h : v + u <= ((M * 2 ^ c : Nat) : Int)) :
  ∃ z, FV (fop .add x y) z /\ v <= z /\ u <= z /\ z <= ((M * 2 ^ c : Nat) : Int) /\ z = rd c (v + u) := by
 have hb := hM.bound hc
 obtain ⟨r, e, h3⟩ := fv_add c hc hx hy (by omega)
 have h4 := jnP (c := c) (T := v) (S := v + u) (by omega)
 have h5 := jnP (c := c) (T := u) (S := v + u) (by omega)
 rw [rd_fv hc hx] at h4
 rw [rd_fv hc hy] at h5
 have h6 := jmY (T := v + u) hc hM (by omega)
 exact ⟨_, by rw [jbY e]; exact h3, h4, h5, by omega, rfl⟩
theorem NM.add {c x y A B M : Nat} (hc : c = 1074) (hx : NM c x A) (hy : NM c y B) (h : A + B <= M) (hM : Flt M) : NM c (fop .add x y) M := by
 obtain ⟨v, v1, v2, v3⟩ := hx
 obtain ⟨u, u1, u2, u3⟩ := hy
 have := Nat.mul_le_mul_right (2 ^ c) h
 rw [Nat.add_mul] at this
 obtain ⟨z, z1, z2, z3, z4, _⟩ := fv_addN hc v1 u1 v2 u2 hM (by omega)
 exact ⟨z, z1, by omega, z4⟩
theorem fv_mulB {c x y : Nat} {v u : Int} {M : Nat} (hc : c = 1074) (hx : FV x v) (hy : FV y u) (hM : Flt M) (h : v.natAbs * u.natAbs <= M * 2 ^ c * 2 ^ c) :
  ∃ z, FV (fop .mul x y) z /\ z.natAbs <= M * 2 ^ c /\ (0 <= v -> 0 <= u -> 0 <= z) /\ (v * u = 0 -> z = 0) := by
 obtain ⟨r, e, h0, h1⟩ := fv_mul hx hy
 by_cases hz : v * u = 0
 ·
  exact ⟨0, by rw [jbY e]; exact h0 hz, by simp, fun _ _ => Int.le_refl _, fun _ => rfl⟩
 have hvu : v.natAbs * u.natAbs ≠ 0 := by
  intro h2
  apply hz
  rcases Nat.mul_eq_zero.1 h2 with h3 | h3
  ·
   rw [Int.natAbs_eq_zero.1 h3, Int.zero_mul]
  rw [Int.natAbs_eq_zero.1 h3, Int.mul_zero]
 obtain ⟨m, m1, m2, m3⟩ := hM
 have m4 := m3 c hc
 have h5 : jfQ (v.natAbs * u.natAbs) <= m := by
  have h6 := jg9 hvu h
  have h7 := jkF c m hc m2
  unfold rR at h7
  rw [m4] at h7
  omega
 have e1 := h1 hz
 have h8 : jfQ (v.natAbs * u.natAbs) < 9218868437227405312 := Nat.lt_of_le_of_lt h5 m1
 have h9 := rv_le.2 h5
 rw [m4] at h9
 rw [Nat.min_eq_left (Nat.le_of_lt h8)] at e1
 generalize jfQ (v.natAbs * u.natAbs) = ru at e1 h8 h9
 by_cases hs : v * u < 0
 ·
  rw [decide_eq_true hs] at e1
  refine ⟨-(rv ru : Int), by rw [jbY e]; exact ⟨true, ru, e1, h8, by simp⟩, by omega, fun hv hu => ?_, fun h => absurd h hz⟩
  have := Int.mul_nonneg hv hu
  omega
 rw [decide_eq_false hs] at e1
 exact ⟨(rv ru : Int), by rw [jbY e]; exact ⟨false, ru, e1, h8, by simp⟩, by omega, fun _ _ => Int.natCast_nonneg _, fun h => absurd h hz⟩
theorem AM.mul {c x y A B M : Nat} (hc : c = 1074) (hx : AM c x A) (hy : AM c y B) (h : A * B <= M) (hM : Flt M) : AM c (fop .mul x y) M := by
 obtain ⟨v, v1, v2⟩ := hx
 obtain ⟨u, u1, u2⟩ := hy
 have h1 := Nat.mul_le_mul v2 u2
 have h2 : A * 2 ^ c * (B * 2 ^ c) = A * B * 2 ^ c * 2 ^ c := by rw [Nat.mul_mul_mul_comm, Nat.mul_assoc (A * B)]
 have h3 := Nat.mul_le_mul_right (2 ^ c) (Nat.mul_le_mul_right (2 ^ c) h)
 obtain ⟨z, z1, z2, _⟩ := fv_mulB hc v1 u1 hM (by omega)
 exact ⟨z, z1, z2⟩
theorem NM.mul {c x y A B M : Nat} (hc : c = 1074) (hx : NM c x A) (hy : NM c y B) (h : A * B <= M) (hM : Flt M) : NM c (fop .mul x y) M := by
 obtain ⟨v, v1, v2, v3⟩ := hx
 obtain ⟨u, u1, u2, u3⟩ := hy
 have h1 := Nat.mul_le_mul (show v.natAbs <= A * 2 ^ c by omega) (show u.natAbs <= B * 2 ^ c by omega)
 have h2 : A * 2 ^ c * (B * 2 ^ c) = A * B * 2 ^ c * 2 ^ c := by rw [Nat.mul_mul_mul_comm, Nat.mul_assoc (A * B)]
 have h3 := Nat.mul_le_mul_right (2 ^ c) (Nat.mul_le_mul_right (2 ^ c) h)
 obtain ⟨z, z1, z2, z3, _⟩ := fv_mulB hc v1 u1 hM (by omega)
 exact ⟨z, z1, z3 v2 u2, by have := z3 v2 u2; omega⟩
theorem jm2 (c : Nat) (hc : c = 1074) {x y : Nat} {v u : Int} {k : Nat} (hk : k <= 1000) (hx : FV x v) (hy : FV y u) (h0 : 0 <= v) (h1 : v <= u * ((2 ^ k : Nat) : Int)) (hu : 0 < u) (e : Nat) (he : e = 2000) (hu2 : u.natAbs <= 2 ^ e) :
  ∃ z, FV (fop .quo x y) z /\ 0 <= z /\ z <= ((2 ^ k * 2 ^ c : Nat) : Int) /\ (v = 0 -> z = 0) := by
 obtain ⟨s, m, i, a1, a2, a3⟩ := hx.read
 obtain ⟨t, n, j, b1, b2, b3⟩ := hy.read
 rw [jbC] at a3 b3
 obtain ⟨A, hA⟩ : ∃ A, A = (i + 1074).toNat := ⟨_, rfl⟩
 obtain ⟨B, hB⟩ : ∃ B, B = (j + 1074).toNat := ⟨_, rfl⟩
 rw [<- hA] at a3
 rw [<- hB] at b3
 have pA := Nat.two_pow_pos A
 have pB := Nat.two_pow_pos B
 have hn : n ≠ 0 := fun h => by rw [h, Nat.zero_mul] at b3; simp at b3; omega
 have hn0 : 0 < n := Nat.pos_of_ne_zero hn
 have un : u = ((n * 2 ^ B : Nat) : Int) := by
  have := Nat.mul_pos hn0 pB
  generalize n * 2 ^ B = z at b3 this ⊢
  cases t <;> simp at b3 <;> omega
 have vn : v = ((m * 2 ^ A : Nat) : Int) := by
  generalize m * 2 ^ A = z at a3 ⊢
  cases s <;> simp at a3 <;> omega
 have hle : m * 2 ^ A <= n * 2 ^ B * 2 ^ k := by
  rw [vn, un, <- Int.natCast_mul] at h1; exact Int.ofNat_le.1 h1
 obtain ⟨more, hm⟩ : ∃ more, more = 54 + n.log2 - m.log2 := ⟨_, rfl⟩
 by_cases hm0 : m = 0
 ·
  refine ⟨0, ?_, Int.le_refl _, Int.natCast_nonneg _, fun _ => rfl⟩
  have : floatBits .quo .f64 x y = some (Ieee.double.nearest (s ^^ t) 0 (i - j - more - 1)) := by
   show (Ieee.Datum.quotient 54 (Ieee.double.read x) (Ieee.double.read y)).map Ieee.double.write = _
   rw [a1, b1]
   simp only [Ieee.Datum.quotient, hn, if_false]
   subst hm0
   rw [<- hm]
   simp [Ieee.Format.write]
  rw [jbY this]
  unfold Ieee.Format.nearest
  rw [if_pos rfl]
  exact jm9 _
 obtain ⟨D, hD⟩ : ∃ D, D = m <<< more := ⟨_, rfl⟩
 have hD' : D = m * 2 ^ more := by rw [hD, Nat.shiftLeft_eq]
 obtain ⟨tt, htt⟩ : ∃ tt, tt = (D % n != 0).toNat := ⟨_, rfl⟩
 have ht1 : tt <= 1 := by rw [htt]; cases (D % n != 0) <;> decide
 have hq := Nat.div_add_mod D n
 have hqn : D / n * n <= D := Nat.div_mul_le_self D n
 have ht2 : tt = 1 -> D / n * n < D := fun h => by
  have : D % n ≠ 0 := fun h0 => by rw [htt, h0] at h; simp at h
  rw [Nat.mul_comm]; omega
 have hmul : D * 2 ^ A <= n * 2 ^ (B + k + more) := by
  rw [hD', Nat.mul_right_comm, Nat.pow_add, <- Nat.mul_assoc, Nat.pow_add 2 B k, <- Nat.mul_assoc]
  exact Nat.mul_le_mul_right _ hle
 have hDn : n <= D := by
  have l1 := Nat.log2_self_le hm0
  have l2 := Nat.lt_log2_self (n := n)
  have : 2 ^ (n.log2 + 1) <= 2 ^ (m.log2 + more) := Nat.pow_le_pow_right (by decide) (by omega)
  rw [Nat.pow_add 2 m.log2 more] at this
  have := Nat.mul_le_mul_right (2 ^ more) l1
  rw [<- hD'] at this
  omega
 have hq1 : 1 <= D / n := (Nat.one_le_div_iff hn0).2 hDn
 have hAS : A <= B + k + more := by
  have h5 : n * 2 ^ A <= n * 2 ^ (B + k + more) := Nat.le_trans (Nat.mul_le_mul_right _ hDn) hmul
  exact (Nat.pow_le_pow_iff_right (by decide)).1 (Nat.le_of_mul_le_mul_left h5 hn0)
 have hM := sticky hAS hqn ht1 ht2 hmul hn0
 obtain ⟨M, hMe⟩ : ∃ M, M = 2 * (D / n) + tt := ⟨_, rfl⟩
 rw [<- hMe] at hM
 have hM0 : M ≠ 0 := by omega
 have hnB : n.log2 + B <= e := by
  have h2 : 2 ^ (n.log2 + B) <= 2 ^ e := by
   rw [Nat.pow_add]
   rw [un, Int.natAbs_natCast] at hu2
   exact Nat.le_trans (Nat.mul_le_mul_right _ (Nat.log2_self_le hn)) hu2
  exact (Nat.pow_le_pow_iff_right (by decide)).1 h2
 have hst : (s ^^ t) = false := by
  have ht : t = false := by
   have := Nat.mul_pos hn0 pB
   generalize n * 2 ^ B = z at b3 this
   cases t
   ·
    rfl
   simp at b3; omega
  have hs : s = false := by
   have := Nat.mul_pos (Nat.pos_of_ne_zero hm0) pA
   generalize m * 2 ^ A = z at a3 this
   cases s
   ·
    rfl
   simp at a3; omega
  rw [hs, ht]; rfl
 have hword : floatBits .quo .f64 x y = some (Ieee.double.nearest (s ^^ t) M (i - j - more - 1)) := by
  show (Ieee.Datum.quotient 54 (Ieee.double.read x) (Ieee.double.read y)).map Ieee.double.write = _
  rw [a1, b1]
  simp only [Ieee.Datum.quotient, hn, if_false]
  rw [<- hm, <- hD, <- htt, <- hMe]
  rfl
 rw [hst] at hword
 obtain ⟨g, hg1, hg2, hg3⟩ := jbQ hk
 have hg4 := hg3 c hc
 have hpl : -2148 <= i - j - more - 1 := by omega
 have hbig : M * 2 ^ (i - j - more - 1 + 2148).toNat <= 2 ^ k * 2 ^ c * 2 ^ c := by
  have e1 : (i - j - (more : Int) - 1 + 2148).toNat + (B + k + more + 1) = A + (2148 + k) := by omega
  have pS := Nat.two_pow_pos (B + k + more + 1)
  refine Nat.le_of_mul_le_mul_right ?_ pS
  rw [Nat.mul_assoc, <- Nat.pow_add, e1, show A + (2148 + k) = A + (k + c + c) by omega, Nat.pow_add 2 A, <- Nat.mul_assoc, Nat.pow_add 2 (k + c) c, Nat.pow_add 2 k c, Nat.mul_comm (2 ^ k * 2 ^ c * 2 ^ c)]
  exact Nat.mul_le_mul_right _ hM
 rw [jfH false M _ hM0 hpl, je9] at hword
 have hV0 : M * 2 ^ (i - j - (more : Int) - 1 + 2148).toNat ≠ 0 := Nat.mul_ne_zero hM0 (Nat.pos_iff_ne_zero.1 (Nat.two_pow_pos _))
 have hr : jfQ (M * 2 ^ (i - j - (more : Int) - 1 + 2148).toNat) <= g := by
  refine Nat.le_trans (jg9 hV0 hbig) (Nat.le_of_eq ?_)
  have := jkF c g hc hg2
  rw [hg4] at this
  exact this
 rw [Nat.min_eq_left (by omega)] at hword
 refine ⟨_, by rw [jbY hword]; exact FV.nat (by omega), Int.natCast_nonneg _, ?_, fun hv => ?_⟩
 ·
  have := rv_le.2 hr
  rw [hg4] at this
  exact Int.ofNat_le.2 this
 exfalso
 rw [vn] at hv
 have := Nat.mul_pos (Nat.pos_of_ne_zero hm0) pA
 omega
theorem FV.gtZ' {x : Nat} {v : Int} (h : FV x v) : (FloatKind.f64.format.order x 0 == some .gt) = decide (0 < v) := by
 rw [h.order fv_0]
 rcases Int.lt_trichotomy v 0 with a | a | a
 ·
  rw [Int.compare_eq_lt.2 a]; symm; simp; omega
 ·
  rw [Int.compare_eq_eq.2 a]; symm; simp; omega
 rw [Int.compare_eq_gt.2 a]; symm; simp; omega
theorem FV.ltt {x y : Nat} {v u : Int} (h : FV x v) (k : FV y u) : (FloatKind.f64.format.order x y == some .lt) = decide (v < u) := by
 rw [h.order k]
 rcases Int.lt_trichotomy v u with a | a | a
 ·
  rw [Int.compare_eq_lt.2 a]; symm; simp; omega
 ·
  rw [Int.compare_eq_eq.2 a]; symm; simp; omega
 rw [Int.compare_eq_gt.2 a]; symm; simp; omega
theorem FV.gtt {x y : Nat} {v u : Int} (h : FV x v) (k : FV y u) : (FloatKind.f64.format.order x y == some .gt) = decide (u < v) := by
 rw [h.order k]
 rcases Int.lt_trichotomy v u with a | a | a
 ·
  rw [Int.compare_eq_lt.2 a]; symm; simp; omega
 ·
  rw [Int.compare_eq_eq.2 a]; symm; simp; omega
 rw [Int.compare_eq_gt.2 a]; symm; simp; omega
end Go.Lk
