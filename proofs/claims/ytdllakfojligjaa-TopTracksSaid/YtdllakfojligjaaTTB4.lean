/-
  A part of the proof: what functions that the statement reaches do, or a plain law on what they do. Each theorem holds under its own premises alone.
-/
import Derived.Test.YtdllakfojligjaaTTB3
namespace Go.Proofs.Ytdllakfojligjaa
open Go Go.Lk
/-! ### TopTracks: what is made of whole numbers -/
theorem fin_fv {x : Nat} {v : Int} (h : FV x v) : finB x = true := by
 unfold finB nanB infB
 have h1 : FloatKind.f64.format.order x x = some .eq := by rw [h.order h, Int.compare_eq_eq.2 rfl]
 have h2 := h.fin
 rw [h1, h.abs.gtt (FV.nat (r := 9218868437227405311) (by decide)), decide_eq_false (by unfold Gr at h2; omega)]
 rfl
theorem frung_lt {n : Nat} (h0 : n ≠ 0) (h : n < 9007199254740992) : fRung n < 9223372036854775808 := by
 unfold fRung
 have h1 : n.log2 ≤ 52 := by
  have h2 : 2 ^ n.log2 < 2 ^ 53 := Nat.lt_of_le_of_lt (Nat.log2_self_le h0) (by omega)
  have := (Nat.pow_lt_pow_iff_right (by decide)).1 h2
  omega
 have h3 : n * 2 ^ (52 - n.log2) < 9007199254740992 := by
  have h4 := Nat.mul_lt_mul_of_pos_right (Nat.lt_log2_self (n := n)) (Nat.two_pow_pos (52 - n.log2))
  rw [← Nat.pow_add, show n.log2 + 1 + (52 - n.log2) = 53 by omega] at h4
  omega
 omega
theorem rep_lt {x : Nat} {v : Int} (h : Rep x v) : x < 18446744073709551616 := by
 have key : ∀ (s : Bool) (r : Nat), r < 9223372036854775808 → Ieee.double.word s r < 18446744073709551616 := fun s r hr => by
  cases s <;> simp only [Ieee.Format.word, Ieee.double, Ieee.Format.signWeight] <;> simp <;> omega
 rcases h with ⟨_, h | h⟩ | ⟨h0, h1, rfl⟩
 ·
  omega
 ·
  omega
 ·
  exact key _ _ (frung_lt (by omega) h1)
theorem fv_int {c n : Nat} (hc : c = 1074) (hn : n < 9007199254740992) : FV (FloatKind.f64.nearest (n : Int)) ((n * 2 ^ c : Nat) : Int) := by
 have h1 := rep_nearest (n : Int) (by omega)
 rw [Int.natCast_mul]
 exact Rep.fv h1 c hc (rep_lt h1)
theorem fv_eight (c : Nat) (hc : c = 1074) : FV 4620693217682128896 ((8 * 2 ^ c : Nat) : Int) := by
 obtain ⟨e, he⟩ : ∃ e, e = 1025 := ⟨_, rfl⟩
 have := FV.nat (r := 4620693217682128896) (by decide)
 rwa [rv_norm (e := e) (m := 0) (by omega) (by decide), show 4503599627370496 + 0 = 8 * 2 ^ 49 by decide, Nat.mul_assoc, ← Nat.pow_add, show 49 + e = c by omega] at this
theorem fv_4096 (c : Nat) (hc : c = 1074) : FV 4661225614328463360 ((4096 * 2 ^ c : Nat) : Int) := by
 obtain ⟨e, he⟩ : ∃ e, e = 1034 := ⟨_, rfl⟩
 have := FV.nat (r := 4661225614328463360) (by decide)
 rwa [rv_norm (e := e) (m := 0) (by omega) (by decide), show 4503599627370496 + 0 = 4096 * 2 ^ 40 by decide, Nat.mul_assoc, ← Nat.pow_add, show 40 + e = c by omega] at this
theorem fv_1000 (c : Nat) (hc : c = 1074) : FV 4652007308841189376 ((1000 * 2 ^ c : Nat) : Int) := by
 obtain ⟨e, he⟩ : ∃ e, e = 1031 := ⟨_, rfl⟩
 have := FV.nat (r := 4652007308841189376) (by decide)
 rwa [rv_norm (e := e) (m := 4292493394837504) (by omega) (by decide), show 4503599627370496 + 4292493394837504 = 1000 * 2 ^ 43 by decide, Nat.mul_assoc, ← Nat.pow_add, show 43 + e = c by omega] at this
theorem quo_int {c k n m y : Nat} (hc : c = 1074) (hk : k ≤ 20) (hn : n < 9007199254740992) (hm : 0 < m) (hm2 : m ≤ 8192) (hy : FV y ((m * 2 ^ c : Nat) : Int)) (h : n ≤ m * 2 ^ k) : NM c (fop .quo (FloatKind.f64.nearest (n : Int)) y) (2 ^ k) := by
 have pc := Nat.two_pow_pos c
 obtain ⟨e, he⟩ : ∃ e, e = 2000 := ⟨_, rfl⟩
 have h1 : n * 2 ^ c ≤ m * 2 ^ c * 2 ^ k := by rw [Nat.mul_right_comm]; exact Nat.mul_le_mul_right _ h
 have h2 : 0 < m * 2 ^ c := Nat.mul_pos hm pc
 obtain ⟨z, z1, z2, z3, _⟩ := quo_pow c hc (k := k) (by omega) (fv_int hc hn) hy (Int.natCast_nonneg _) (by rw [← Int.natCast_mul]; exact Int.ofNat_le.2 h1) (Int.ofNat_lt.2 h2) e he (by
  rw [Int.natAbs_natCast]
  have h3 := small_e (g := 13) hc he (by omega)
  have h4 := Nat.mul_le_mul_right (2 ^ c) (show m ≤ 2 ^ 13 by omega)
  omega)
 exact ⟨z, z1, z2, z3⟩
/-- a point of a plot that TopTracks makes -/
theorem top_pt {c a b : Nat} (hc : c = 1074) (ha : a ≤ 1048576) (hb : b ≤ 4096) {p : Plt} (hr : p.r = FloatKind.f64.nearest (a : Int)) (hbb : cn p.b = cn (fop .quo (FloatKind.f64.nearest (b : Int)) 4661225614328463360)) :
  AM c (ptX p) (2 ^ 165) ∧ AM c (ptY p) (2 ^ 165) ∧ finP p = true := by
 have h1 : AM c p.r (2 ^ 20) := by
  rw [hr]
  have := Nat.mul_le_mul_right (2 ^ c) ha
  exact ⟨_, fv_int hc (by omega), by rw [Int.natAbs_natCast]; rw [show (2 : Nat) ^ 20 = 1048576 by decide]; exact this⟩
 have h2 : NM c p.b (2 ^ 0) := by
  exact (quo_int hc (by omega) (by omega) (by decide) (by decide) (fv_4096 c hc) (by omega)).congr hbb
 obtain ⟨v, v1, _⟩ := h2
 obtain ⟨u, u1, _⟩ := h1
 obtain ⟨t1, t2⟩ := turn_am hc v1
 have e20 : (2 : Nat) ^ 20 * 2 ^ 143 ≤ 2 ^ 165 := by rw [← Nat.pow_add]; exact pow_le (by omega)
 refine ⟨AM.mul hc ⟨u, u1, by assumption⟩ t2 e20 (flt_pow (by omega)), AM.mul hc ⟨u, u1, by assumption⟩ t1 e20 (flt_pow (by omega)), ?_⟩
 unfold finP
 simp [fin_fv u1, fin_fv v1]
theorem fv_lt64 {x : Nat} {v : Int} (h : FV x v) : x < 18446744073709551616 := by
 obtain ⟨s, r, rfl, hr, _⟩ := h
 cases s <;> simp only [Ieee.Format.word, Ieee.double, Ieee.Format.signWeight] <;> simp <;> omega
def sizeF (n m : Int) : Int := (n.tmod m + m).tmod m + 1
theorem size_rng {n m : Int} (hm : 0 < m) : -m < n.tmod m ∧ n.tmod m < m ∧ 0 ≤ (n.tmod m + m).tmod m ∧ (n.tmod m + m).tmod m < m ∧ 1 ≤ sizeF n m ∧ sizeF n m ≤ m := by
 have h1 := Int.tmod_lt_of_pos n hm
 have h2 := Int.lt_tmod_of_pos n hm
 have h3 := Int.tmod_lt_of_pos (n.tmod m + m) hm
 have h4 := Int.tmod_nonneg (a := n.tmod m + m) m (by omega)
 unfold sizeF
 omega
end Go.Proofs.Ytdllakfojligjaa
