/-
  A part of the proof: what functions that the statement reaches do, or a plain law on what they do. Each theorem holds under its own premises alone.
-/
import Derived.Test.YtdllakfojligjaaTTB4
namespace Go.Proofs.Ytdllakfojligjaa
open Go Go.Lk
/-! ### TopTracks: times, refusals, the rule -/
theorem wait_fv {c n : Nat} (hc : c = 1074) (h1 : 1 ≤ n) (h2 : n ≤ 10000) : ∃ z : Int, FV (fop .quo (FloatKind.f64.nearest (n : Int)) 4652007308841189376) z ∧ 9007199254740990 * ((2 ^ c : Nat) : Int) ≤ 9007199254740992 * (z * 1000) ∧ z * 1000 ≤ 10001 * ((2 ^ c : Nat) : Int) := by
 have pc := Nat.two_pow_pos c
 obtain ⟨g, hg⟩ : ∃ g, g = 800 := ⟨_, rfl⟩
 have h14 : 10000 ≤ 2 ^ g := Nat.le_trans (show 10000 ≤ 2 ^ 14 by decide) (pow_le (by omega))
 obtain ⟨r, z, e, hz, a1, a2⟩ := quo_err (c := c) (g := g) (v := n * 2 ^ c) (u := 1000 * 2 ^ c) hc hg (fv_int hc (by omega)) (fv_1000 c hc) (Nat.mul_pos (by omega) pc) (Nat.mul_pos (by omega) pc)
  (by
   have h3 := Nat.mul_le_mul_left (n * 2 ^ c) h14
   have h4 := Nat.mul_le_mul_right (2 ^ c) h1
   omega)
  (by
   have h3 := Nat.mul_le_mul_left (1000 * 2 ^ c) h14
   have h4 := Nat.mul_le_mul_right (2 ^ c) h2
   omega)
 have e1 : z * (1000 * 2 ^ c) = z * 1000 * 2 ^ c := by rw [Nat.mul_assoc]
 rw [e1] at a1 a2
 have e2 : 9007199254740990 * (n * 2 ^ c * 2 ^ c) = 9007199254740990 * (n * 2 ^ c) * 2 ^ c := by simp only [Nat.mul_assoc]
 have e3 : 9007199254740992 * (z * 1000 * 2 ^ c) = 9007199254740992 * (z * 1000) * 2 ^ c := by simp only [Nat.mul_assoc]
 have e4 : 9007199254740994 * (n * 2 ^ c * 2 ^ c) = 9007199254740994 * (n * 2 ^ c) * 2 ^ c := by simp only [Nat.mul_assoc]
 rw [e2, e3] at a2
 rw [e3, e4] at a1
 have b1 := Nat.le_of_mul_le_mul_right a1 pc
 have b2 := Nat.le_of_mul_le_mul_right a2 pc
 have h4 := Nat.mul_le_mul_right (2 ^ c) h1
 have h5 := Nat.mul_le_mul_right (2 ^ c) h2
 refine ⟨(z : Int), by rw [fop_some' e]; exact hz, ?_, ?_⟩
 ·
  generalize n * 2 ^ c = V at b1 b2 h4 h5
  omega
 ·
  generalize n * 2 ^ c = V at b1 b2 h4 h5
  omega
theorem time_step {c t d : Nat} {T z : Int} (hc : c = 1074) (ht : FV t T) (hd : FV d z) (T0 : 0 ≤ T) (T1 : T ≤ 440 * ((2 ^ c : Nat) : Int)) (z1 : 9007199254740990 * ((2 ^ c : Nat) : Int) ≤ 9007199254740992 * (z * 1000)) (z2 : z * 1000 ≤ 10001 * ((2 ^ c : Nat) : Int)) :
  ∃ T', FV (fop .add t d) T' ∧ T ≤ T' ∧ T' ≤ T + 11 * ((2 ^ c : Nat) : Int) ∧ Dt c (fop .sub (fop .add t d) t) := by
 have pc := Nat.two_pow_pos c
 have hb := (flt_pow (e := 10) (by omega)).bound hc
 rw [show (2 : Nat) ^ 10 = 1024 by decide] at hb
 obtain ⟨C, hC⟩ : ∃ C : Nat, C = 2 ^ c := ⟨_, rfl⟩
 obtain ⟨B, hB⟩ : ∃ B, B = rv 9218868437227405311 := ⟨_, rfl⟩
 rw [← hC] at T1 z1 z2 hb pc
 rw [← hB] at hb
 obtain ⟨r, e, h1⟩ := fv_add c hc ht hd (by rw [← hB]; omega)
 have h2 := rd_err c hc (T + z)
 have h3 := rd_mono (c := c) (T := T) (S := T + z) (by omega)
 rw [rd_fv hc ht] at h3
 obtain ⟨T', hT'⟩ : ∃ T', T' = rd c (T + z) := ⟨_, rfl⟩
 rw [← hT'] at h1 h2 h3
 have h1' : FV (fop .add t d) T' := by rw [fop_some' e]; exact h1
 have h4 : T' ≤ T + 11 * (C : Int) := by omega
 obtain ⟨r2, e2, h5⟩ := fv_sub c hc h1' ht (by rw [← hB]; omega)
 have h6 := rd_err c hc (T' - T)
 obtain ⟨D, hD⟩ : ∃ D, D = rd c (T' - T) := ⟨_, rfl⟩
 rw [← hD] at h5 h6
 refine ⟨T', h1', h3, by rw [← hC]; exact h4, D, by rw [fop_some' e2]; exact h5, ?_, ?_⟩
 ·
  rw [← hC]; omega
 ·
  rw [← hC, Int.natCast_mul, show ((2 ^ 4 : Nat) : Int) = 16 from rfl]; omega
/-- New takes the rules that TopTracks makes -/
theorem top_rule {c no sw ga : Nat} {r : Rul} (hc : c = 1074) (n1 : 1 ≤ no) (n2 : no ≤ 1000) (s2 : sw ≤ 1000) (g1 : 1 ≤ ga) (g2 : ga ≤ 100) (hn : r.noise = FloatKind.f64.nearest (no : Int)) (hs : cn r.sway = cn (fop .quo (FloatKind.f64.nearest (sw : Int)) 4620693217682128896)) (hg : r.gate = FloatKind.f64.nearest (ga : Int))
  (o1 : 1 ≤ r.of) (o2 : r.of ≤ 16) (e1 : 1 ≤ r.need) (e2 : r.need ≤ r.of) (m1 : 1 ≤ r.miss) (m2 : r.miss ≤ 16) :
  newE r = 0 ∧ (r.noise < 18446744073709551616 ∧ r.sway < 18446744073709551616 ∧ r.gate < 18446744073709551616) ∧ (∃ N, FV r.noise N ∧ ((2 ^ c : Nat) : Int) ≤ N ∧ N ≤ ((2 ^ 10 * 2 ^ c : Nat) : Int)) ∧ NM c r.sway (2 ^ 7) := by
 have pc := Nat.two_pow_pos c
 have fn : FV r.noise ((no * 2 ^ c : Nat) : Int) := by rw [hn]; exact fv_int hc (by omega)
 have fg : FV r.gate ((ga * 2 ^ c : Nat) : Int) := by rw [hg]; exact fv_int hc (by omega)
 have fs : NM c r.sway (2 ^ 7) := (quo_int hc (by omega) (by omega) (by decide) (by decide) (fv_eight c hc) (by omega)).congr hs
 obtain ⟨S, f1, f2, f3⟩ := fs
 have a1 := Nat.mul_le_mul_right (2 ^ c) n1
 have a2 := Nat.mul_le_mul_right (2 ^ c) n2
 have a3 := Nat.mul_le_mul_right (2 ^ c) g1
 have a4 := Nat.mul_le_mul_right (2 ^ c) g2
 have k20 : FV 4697254411347427328 ((1048576 * 2 ^ c : Nat) : Int) := by
  obtain ⟨e, he⟩ : ∃ e, e = 1042 := ⟨_, rfl⟩
  have := FV.nat (r := 4697254411347427328) (by decide)
  rwa [rv_norm (e := e) (m := 0) (by omega) (by decide), show 4503599627370496 + 0 = 1048576 * 2 ^ 32 by decide, Nat.mul_assoc, ← Nat.pow_add, show 32 + e = c by omega] at this
 refine ⟨?_, ⟨fv_lt64 fn, fv_lt64 f1, fv_lt64 fg⟩, ⟨_, fn, by omega, by rw [show (2 : Nat) ^ 10 = 1024 by decide]; omega⟩, S, f1, f2, f3⟩
 have b1 : [r.noise, r.sway, r.gate].all finB = true := by simp [fin_fv fn, fin_fv f1, fin_fv fg]
 have b2 : leB r.noise 0 = false := by unfold leB; rw [fn.leq fv_0]; exact decide_eq_false (by omega)
 have b3 : ltB r.sway 0 = false := by unfold ltB; rw [f1.ltt fv_0]; exact decide_eq_false (by omega)
 have b4 : leB r.gate 0 = false := by unfold leB; rw [fg.leq fv_0]; exact decide_eq_false (by omega)
 have b5 : gtB r.gate 4697254411347427328 = false := by unfold gtB; rw [fg.gtt k20]; exact decide_eq_false (by omega)
 have b6 : inB r.of 1 16 = true := by unfold inB; rw [decide_eq_true o1, decide_eq_true o2]; rfl
 have b7 : inB r.need 1 r.of = true := by unfold inB; rw [decide_eq_true e1, decide_eq_true e2]; rfl
 have b8 : inB r.miss 1 16 = true := by unfold inB; rw [decide_eq_true m1, decide_eq_true m2]; rfl
 unfold newE
 rw [b1, b2, b3, b4, b5, b6, b7, b8]
 rfl
theorem ref_top {last t : Nat} {T : Int} {l : List Plt} (hl : l.length ≤ 256) (ht : FV t T) (hf : ∀ p ∈ l, finP p = true) (hL : last = ninf ∨ ∃ L, FV last L ∧ L ≤ T) : refE last t l = 0 := by
 unfold refE
 have h1 : ltB t last = false := by
  unfold ltB
  rcases hL with rfl | ⟨L, l1, l2⟩
  ·
   obtain ⟨a, m, q, e1, _⟩ := ht.read
   have : FloatKind.f64.format.order t ninf = some .gt := by
    show (Ieee.double.read t).order (Ieee.double.read ninf) = _
    rw [e1, show Ieee.double.read ninf = .infinity true by decide +kernel]; rfl
   rw [this]; decide
  ·
   rw [ht.ltt l1]; exact decide_eq_false (by omega)
 rw [if_neg (by omega), fin_fv ht, List.all_eq_true.2 hf, h1]
 rfl
end Go.Proofs.Ytdllakfojligjaa
