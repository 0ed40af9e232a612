/-
  A part of the proof: what functions that the statement reaches do, or a plain law on what they do. Each theorem holds under its own premises alone.
-/
import Derived.Test.YtdllakfojligjaaTKT2
import Derived.Test.YtdllakfojligjaaKitQ
namespace Go.Proofs.Ytdllakfojligjaa
open Go Go.Lk
/-! ### The point of the circle at a turn is finite -/
theorem or_63 {q : Nat} (hq : q < 9223372036854775808) : q ||| 9223372036854775808 = 9223372036854775808 + q := by
 have := Nat.two_pow_add_eq_or_of_lt (i := 63) (b := q) hq 1
 rw [Nat.mul_one] at this
 rw [Nat.or_comm]
 exact this.symm
theorem copF_word (a s : Bool) (q r : Nat) (hq : q < 9223372036854775808) (hr : r < 9223372036854775808) : copF (Ieee.double.word a q) (Ieee.double.word s r) = Ieee.double.word s q := by
 unfold copF
 have h1 : Ieee.double.word a q &&& (18446744073709551615 - 9223372036854775808) = q := by
  rw [show 18446744073709551615 - 9223372036854775808 = 2 ^ 63 - 1 by decide, Nat.and_two_pow_sub_one_eq_mod]
  unfold Ieee.Format.word
  rw [double_sw]
  cases a <;> simp <;> omega
 have h0 : r &&& 9223372036854775808 = 0 := by
  apply Nat.eq_of_testBit_eq
  intro i
  rw [Nat.testBit_and, show (9223372036854775808 : Nat) = 2 ^ 63 by decide, Nat.testBit_two_pow, Nat.zero_testBit]
  by_cases hi : 63 = i
  ·
   subst hi
   rw [Nat.testBit_lt_two_pow (by omega)]; rfl
  ·
   simp [hi]
 have h2 : Ieee.double.word s r &&& 9223372036854775808 = if s then 9223372036854775808 else 0 := by
  unfold Ieee.Format.word
  rw [double_sw]
  cases s
  ·
   simp only [Bool.false_eq_true, if_false]
   exact h0
  ·
   simp only [if_true]
   rw [← or_63 hr, Nat.and_or_distrib_right, h0, Nat.and_self, Nat.zero_or]
 rw [h1, h2]
 unfold Ieee.Format.word
 rw [double_sw]
 cases s
 ·
  simp
 ·
  simp only [if_true]; exact or_63 hq
theorem whN_lt (c m : Nat) (p : Int) (hc : c = 1074) (hp : -1074 ≤ p) : m * 2 ^ (p + 1074).toNat < (whN m p + 1) * 2 ^ c := by
 unfold whN
 rw [Nat.shiftLeft_eq, Nat.shiftRight_eq_div_pow]
 have pc := Nat.two_pow_pos c
 by_cases h0 : 0 ≤ p
 ·
  rw [show (-p).toNat = 0 by omega, Nat.pow_zero, Nat.div_one, Nat.add_mul, Nat.mul_assoc m, ← Nat.pow_add, show (p + 1074).toNat = p.toNat + c by omega]
  omega
 ·
  rw [show p.toNat = 0 by omega, Nat.pow_zero, Nat.mul_one, show c = (-p).toNat + (p + 1074).toNat by omega, Nat.pow_add, ← Nat.mul_assoc]
  refine Nat.mul_lt_mul_of_pos_right ?_ (Nat.two_pow_pos _)
  have h1 := Nat.div_add_mod m (2 ^ (-p).toNat)
  have h2 := Nat.mod_lt m (Nat.two_pow_pos (-p).toNat)
  rw [Nat.add_mul, Nat.one_mul, Nat.mul_comm]
  omega
/-- the whole part lies within two of the number -/
theorem tru_near {c x : Nat} {v : Int} (hc : c = 1074) (h : FV x v) : ∃ t, FV (truF x) t ∧ (v - t).natAbs ≤ 2 * 2 ^ c := by
 obtain ⟨s, r, rfl, hr, rfl⟩ := h
 obtain ⟨m, p, h1, h2, h3, h4⟩ := read_word2 s r hr
 have e : truF (Ieee.double.word s r) = Ieee.double.nearest s (whN m p) 0 := by
  show Ieee.double.write ((Ieee.double.read (Ieee.double.word s r)).integral .zero) = _
  rw [h1]
  show Ieee.double.nearest s (Ieee.Toward.zero.cut s (m <<< p.toNat) (-p).toNat) 0 = _
  rw [cut_zero]; rfl
 have w1 := whN_le c m p hc h2
 have w2 := whN_lt c m p hc h2
 rw [h3] at w1 w2
 rw [e]
 by_cases h0 : whN m p = 0
 ·
  refine ⟨0, ?_, ?_⟩
  ·
   rw [h0]
   unfold Ieee.Format.nearest
   rw [if_pos rfl]
   exact fv_zero _
  ·
   rw [h0] at w2
   cases s <;> simp <;> omega
 ·
  have pc := Nat.two_pow_pos c
  obtain ⟨W, hW⟩ : ∃ W, W = whN m p * 2 ^ c := ⟨_, rfl⟩
  have hW0 : W ≠ 0 := by rw [hW]; have := Nat.mul_pos (Nat.pos_of_ne_zero h0) pc; omega
  have hn : Ieee.double.nearest s (whN m p) 0 = Ieee.double.word s (min (rR c W) 9218868437227405312) := by
   rw [nearest_val s _ 0 h0 (by decide), hW]
   unfold rR
   rw [Nat.mul_assoc, ← Nat.pow_add, show ((0 : Int) + 2148).toNat = c + c by omega]
  have hr0 : r ≠ 0 := fun h => by rw [h, show rv 0 = 0 from rv_zero.2 rfl] at w1; omega
  have hle : rR c W ≤ r := by
   have := rR_mono (c := c) hW0 (show W ≤ rv r by omega)
   rwa [rR_rv c r hc hr0] at this
  have hlt := Nat.lt_of_le_of_lt hle hr
  rw [hn, Nat.min_eq_left (Nat.le_of_lt hlt)]
  have hd : rv r ≤ rv (rR c W) + 2 * 2 ^ c := by
   by_cases hp : 0 ≤ p
   ·
    have : W = rv r := by
     rw [hW, ← h3]
     unfold whN
     rw [Nat.shiftLeft_eq, show (-p).toNat = 0 by omega, Nat.shiftRight_zero, Nat.mul_assoc, ← Nat.pow_add, show (p + 1074).toNat = p.toNat + c by omega]
    rw [this, rR_rv c r hc hr0]; omega
   ·
    have h5 : whN m p ≤ m := by
     unfold whN
     rw [show p.toNat = 0 by omega, Nat.shiftLeft_zero, Nat.shiftRight_eq_div_pow]
     exact Nat.div_le_self _ _
    have h6 := rR_err c W hc hW0
    have h7 : W ≤ 9007199254740992 * 2 ^ c := by rw [hW]; exact Nat.mul_le_mul_right _ (by omega)
    rw [Nat.add_mul] at w2
    omega
  have hd2 : rv (rR c W) ≤ rv r := rv_le.2 hle
  generalize rR c W = ru at hlt hd hd2
  refine ⟨(if s then -1 else 1) * (rv ru : Int), ⟨s, ru, rfl, hlt, rfl⟩, ?_⟩
  generalize rv ru = A at hd hd2
  generalize rv r = B at hd hd2
  generalize 2 ^ c = C at hd
  cases s
  ·
   simp only [Bool.false_eq_true, if_false, Int.one_mul]; omega
  ·
   simp only [if_true]; omega
theorem am_abs {c x M : Nat} (h : AM c x M) : AM c (x % 9223372036854775808) M := by
 obtain ⟨v, h1, h2⟩ := h
 exact ⟨_, h1.abs, by rw [Int.natAbs_natCast]; exact h2⟩
theorem am_neg {c x M : Nat} (h : AM c x M) : AM c (Op.negFloat .f64 x) M := by
 obtain ⟨v, ⟨s, r, rfl, hr, rfl⟩, h2⟩ := h
 rw [neg_word s r (by omega)]
 refine ⟨_, ⟨!s, r, rfl, hr, rfl⟩, ?_⟩
 cases s <;> simp at h2 ⊢ <;> exact h2
theorem am_add0 {c x M : Nat} (hc : c = 1074) (h : AM c x M) : AM c (fop .add x 0) M := by
 obtain ⟨v, h1, h2⟩ := h
 exact ⟨v, fv_add0 hc h1 fv_0, h2⟩
theorem am_if {c x y M : Nat} {b : Bool} (h1 : AM c x M) (h2 : AM c y M) : AM c (if b = true then x else y) M := by
 cases b
 ·
  exact h2
 ·
  exact h1
theorem am_small {c x : Nat} (hc : c = 1074) (hx : x < 18446744073709551616) (h : x % 9223372036854775808 ≤ 4607182418800017408) : AM c x 1 := by
 have h1 : x = Ieee.double.word (decide (9223372036854775808 ≤ x)) (x % 9223372036854775808) := by
  unfold Ieee.Format.word
  rw [double_sw]
  by_cases h2 : 9223372036854775808 ≤ x
  ·
   rw [decide_eq_true h2]; simp; omega
  ·
   rw [decide_eq_false h2]; simp; omega
 refine ⟨_, ⟨_, _, h1, by omega, rfl⟩, ?_⟩
 have := rv_le.2 h
 rw [rv_one c hc] at this
 by_cases h2 : 9223372036854775808 ≤ x
 ·
  rw [decide_eq_true h2]; simp; omega
 ·
  rw [decide_eq_false h2]; simp; omega
theorem am_one {c : Nat} (hc : c = 1074) : AM c 4607182418800017408 1 := am_small hc (by decide) (by decide)
theorem wrap_am {c x : Nat} {v : Int} (hc : c = 1074) (h : FV x v) : AM c (wrapF x) 4 := by
 obtain ⟨t, t1, t2⟩ := tru_near hc h
 have hf : AM c (fop .sub x (truF x)) 2 := by
  have hb := (flt_pow (e := 1) (by omega)).bound hc
  obtain ⟨r, e, h3⟩ := fv_sub c hc h t1 (by omega)
  exact ⟨_, by rw [fop_some' e]; exact h3, rd_bound hc (flt_pow (e := 1) (by omega)) (by omega)⟩
 have hg : AM c (copF (fop .sub x (truF x)) x) 2 := by
  obtain ⟨s, r, e, hr, _⟩ := h
  obtain ⟨u, ⟨a, q, e2, hq, hu⟩, hm⟩ := hf
  rw [e2, e, copF_word a s q r (by omega) (by omega)]
  refine ⟨_, ⟨s, q, rfl, hq, rfl⟩, ?_⟩
  rw [hu] at hm
  cases a <;> cases s <;> simp at hm ⊢ <;> exact hm
 have h0 : FloatKind.f64.format.order (fop .sub x x) 0 = some .eq := by
  rw [(fv_self hc h h).order fv_0]; rfl
 unfold wrapF
 rw [h0, if_neg (by decide)]
 refine am_add0 hc ?_
 unfold wrapG
 split
 ·
  exact hg.sub hc (am_one hc) (by omega) (flt_pow (e := 2) (by omega))
 ·
  split
  ·
   exact hg.add hc (am_one hc) (by omega) (flt_pow (e := 2) (by omega))
  ·
   exact hg.mono (by omega)
theorem hor_am {c z : Nat} {S : List Nat} (hc : c = 1074) (hS : ∀ j, j < 9 → AM c (S.getD j 0) 1) (hz : AM c z (2 ^ 16)) : ∀ m, m < 9 → AM c (horF S z m) (2 ^ (17 * m))
 | 0, _ => hS 8 (by decide)
 | m + 1, h => by
  have h1 := (hor_am hc hS hz m (by omega)).mul hc hz (M := 2 ^ (17 * m + 16)) (by rw [← Nat.pow_add]; exact Nat.le_refl _) (flt_pow (by omega))
  refine h1.add hc (hS (7 - m) (by omega)) ?_ (flt_pow (by omega))
  have := Nat.two_pow_pos (17 * m + 16)
  have := pow_two (a := 17 * m + 16) (b := 17 * (m + 1)) (by omega)
  omega
theorem coef : ∀ o, o < 2 → ∀ j, j < 9 → (powT o).getD j 0 < 18446744073709551616 ∧ (powT o).getD j 0 % 9223372036854775808 ≤ 4607182418800017408 := by decide +kernel
theorem circ_am {c : Nat} (hc : c = 1074) : AM c 4618760256179416344 8 := by
 have h := rv_le.2 (show 4618760256179416344 ≤ 4620693217682128896 by decide)
 obtain ⟨e, he⟩ : ∃ e, e = 1025 := ⟨_, rfl⟩
 rw [rv_norm (r := 4620693217682128896) (e := e) (m := 0) (by omega) (by decide), show 4503599627370496 + 0 = 8 * 2 ^ 49 by decide, Nat.mul_assoc, ← Nat.pow_add, show 49 + e = c by omega] at h
 exact ⟨_, FV.nat (by decide), by rw [Int.natAbs_natCast]; exact h⟩
theorem eig_am {c a : Nat} (hc : c = 1074) (h : AM c a 16) : AM c (eigF a).1 (2 ^ 143) ∧ AM c (eigF a).2 (2 ^ 143) := by
 have hy : AM c (fop .mul a 4618760256179416344) (2 ^ 7) := h.mul hc (circ_am hc) (by decide) (flt_pow (by omega))
 have hz : AM c (fop .mul (fop .mul a 4618760256179416344) (fop .mul a 4618760256179416344)) (2 ^ 16) := hy.mul hc hy (by decide) (flt_pow (by omega))
 have hco : ∀ o, o < 2 → ∀ j, j < 9 → AM c ((powT o).getD j 0) 1 := fun o ho j hj => am_small hc (coef o ho j hj).1 (coef o ho j hj).2
 have e1 := hor_am hc (hco 0 (by decide)) hz 8 (by decide)
 have e2 := (hor_am hc (hco 1 (by decide)) hz 8 (by decide)).mul hc hy (M := 2 ^ 143) (by rw [← Nat.pow_add]; exact Nat.le_refl _) (flt_pow (by omega))
 have h1 : AM c 4604544271217802189 (2 ^ 143) := (am_small hc (by decide) (by decide)).mono (Nat.one_le_two_pow)
 unfold eigF
 split
 ·
  exact ⟨h1, h1⟩
 ·
  dsimp only
  exact ⟨AM.mono e1 (pow_le (a := 17 * 8) (b := 143) (by omega)), e2⟩
theorem half_am {c : Nat} (hc : c = 1074) : AM c 4602678819172646912 1 := am_small hc (by decide) (by decide)
theorem quart_am {c : Nat} (hc : c = 1074) : AM c 4598175219545276416 1 := am_small hc (by decide) (by decide)
theorem turn_am {c x : Nat} {v : Int} (hc : c = 1074) (h : FV x v) : AM c (turnF x).1 (2 ^ 143) ∧ AM c (turnF x).2 (2 ^ 143) := by
 have hw := wrap_am hc h
 obtain ⟨r, hr⟩ : ∃ r, r = wrapF x := ⟨_, rfl⟩
 unfold turnF
 rw [← hr] at hw ⊢
 have hn : FloatKind.f64.format.order r r = some .eq := by
  obtain ⟨u, u1, _⟩ := hw
  rw [u1.order u1, Int.compare_eq_eq.2 rfl]
 unfold tqF
 rw [hn, if_neg (by decide)]
 generalize tqL r = l
 have ha : AM c (tqA r l) 8 := by
  unfold tqA
  exact am_if ((half_am hc).sub hc (am_abs hw) (by omega) (flt_pow (e := 3) (by omega))) ((am_abs hw).mono (by omega))
 generalize tqA r l = a at ha
 generalize tqS a = s
 have hb : AM c (tqB a s) 16 := by
  unfold tqB
  exact am_if ((quart_am hc).sub hc ha (by omega) (flt_pow (e := 4) (by omega))) (ha.mono (by omega))
 generalize tqB a s = b at hb
 obtain ⟨e1, e2⟩ := eig_am hc hb
 generalize eigF b = p at e1 e2
 generalize tqN r = n
 unfold tqC
 have q1 : AM c (if s = true then p.2 else p.1) (2 ^ 143) := am_if e2 e1
 have q2 : AM c (if s = true then p.1 else p.2) (2 ^ 143) := am_if e1 e2
 exact ⟨am_add0 hc (am_if (am_neg q1) q1), am_add0 hc (am_if (am_neg q2) q2)⟩
end Go.Proofs.Ytdllakfojligjaa
