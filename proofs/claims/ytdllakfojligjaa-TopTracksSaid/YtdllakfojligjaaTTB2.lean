/-
  A part of the proof: what functions that the statement reaches do, or a plain law on what they do. Each theorem holds under its own premises alone.
-/
import Derived.Test.YtdllakfojligjaaTTB1
namespace Go.Proofs.Ytdllakfojligjaa
open Go Go.Lk
theorem Stt.parts {s u : Stt} (h : s.c = u.c) : cn s.x = cn u.x ∧ cn s.v = cn u.v ∧ cn s.p = cn u.p ∧ cn s.q = cn u.q ∧ cn s.r = cn u.r :=
 ⟨congrArg Stt.x h, congrArg Stt.v h, congrArg Stt.p h, congrArg Stt.q h, congrArg Stt.r h⟩
/-! ### States of forty steps: finite, and not below nought -/
/-- a state behind a step -/
structure Tst (c i : Nat) (s : Stt) : Prop where
 x : AM c s.x (2 ^ (165 + 21 * i))
 v : AM c s.v (2 ^ (165 + 21 * i))
 p : NM c s.p (2 ^ (40 + 3 * i))
 q : NM c s.q (2 ^ (24 + 3 * i))
 r : NM c s.r (2 ^ (12 + i))
/-- .. ahead of what is seen -/
structure Aht (c i : Nat) (s : Stt) : Prop where
 x : AM c s.x (3 * 2 ^ (168 + 21 * i))
 v : AM c s.v (2 ^ (165 + 21 * i))
 p : NM c s.p (2 ^ (43 + 3 * i))
 q : NM c s.q (2 ^ (26 + 3 * i))
 r : NM c s.r (2 ^ (13 + i))
 rel : ∃ q1 p1, FV s.q q1 ∧ FV s.p p1 ∧ 0 ≤ q1 ∧ 0 ≤ p1 ∧ (q1 ≤ 24576 * p1 ∨ q1 ≤ ((6 * 2 ^ c : Nat) : Int))
/-- a time between steps -/
structure Dt (c t : Nat) : Prop where
 ex : ∃ T, FV t T ∧ ((2 ^ c : Nat) : Int) ≤ T * 1001 ∧ T ≤ ((2 ^ 4 * 2 ^ c : Nat) : Int)
theorem Dt.nm {c t : Nat} (h : Dt c t) : NM c t (2 ^ 4) := by
 obtain ⟨T, h1, h2, h3⟩ := h.ex
 have := Nat.two_pow_pos c
 exact ⟨T, h1, by omega, h3⟩
theorem Tst.congr {c i : Nat} {s u : Stt} (h : Tst c i s) (e : u.c = s.c) : Tst c i u := by
 obtain ⟨g1, g2, g3, g4, g5⟩ := Stt.parts e
 exact ⟨h.x.congr g1, h.v.congr g2, h.p.congr g3, h.q.congr g4, h.r.congr g5⟩
theorem Aht.congr {c i : Nat} {s u : Stt} (h : Aht c i s) (e : u.c = s.c) : Aht c i u := by
 obtain ⟨g1, g2, g3, g4, g5⟩ := Stt.parts e
 obtain ⟨q1, p1, a1, a2, a3⟩ := h.rel
 exact ⟨h.x.congr g1, h.v.congr g2, h.p.congr g3, h.q.congr g4, h.r.congr g5, q1, p1, fv_congr a1 g4, fv_congr a2 g3, a3⟩
theorem start_T {c x n w : Nat} (hx : AM c x (2 ^ 165)) (hn : NM c n (2 ^ 10)) (hw : NM c w (2 ^ 7)) : Tst c 0 (startF x n w) :=
 ⟨hx, ⟨0, fv_0, by simp⟩, hn.mono (pow_le (by omega)), ⟨0, fv_0, Int.le_refl _, Int.natCast_nonneg _⟩, hw.mono (pow_le (by omega))⟩
theorem Tst.ahead {c i : Nat} {s : Stt} {t w : Nat} (hc : c = 1074) (hi : i ≤ 38) (h : Tst c i s) (ht : Dt c t) (hw : NM c w (2 ^ 7)) : Aht c i (aheadF s t w) := by
 obtain ⟨T, t1, t2, t3⟩ := ht.ex
 have hT := ht.nm
 have pc := Nat.two_pow_pos c
 obtain ⟨a1, a2, a3⟩ := ahead_pqr (E := 40 + 3 * i) (W := 7) (T := 4) (Q' := 24 + 3 * i) (R' := 13 + i) hc (by omega) (by omega) (by omega) (by omega) (by omega) h.p h.q h.r hT hw
  (by have := pow_le (show 12 + i + 4 ≤ 24 + 3 * i by omega); omega) (by omega) (by omega)
  (by have := pow_le (show 7 + 4 ≤ 12 + i by omega); have := pow_two (a := 12 + i) (b := 13 + i) (by omega); omega) (by omega)
 have hrel := ahead_rel (X := 200) hc (by omega) (h.p.mono (pow_le (by omega))) (h.q.mono (pow_le (by omega))) (h.r.mono (pow_le (by omega))) t1 t2 t3 (hw.mono (pow_le (by omega)))
 have hg := gt_of t1 (show 0 < T by omega)
 have hvt : AM c (fop .mul s.v t) (2 ^ (169 + 21 * i)) := h.v.mul hc hT.am (by rw [← Nat.pow_add]; exact pow_le (by omega)) (flt_pow (by omega))
 have hx : AM c (fop .add s.x (fop .mul s.v t)) (3 * 2 ^ (168 + 21 * i)) := h.x.add hc hvt (by
  have h1 : 2 ^ (169 + 21 * i) = 2 ^ (168 + 21 * i) * 2 := by rw [show 169 + 21 * i = 168 + 21 * i + 1 by omega, Nat.pow_succ]
  have h2 := pow_le (show 165 + 21 * i ≤ 168 + 21 * i by omega)
  omega) (flt_three (by omega))
 have e1 : (aheadF s t w).x = fop .add s.x (fop .mul s.v t) := by unfold aheadF; rw [if_pos hg]
 have e2 : (aheadF s t w).v = s.v := by unfold aheadF; rw [if_pos hg]
 exact ⟨by rw [e1]; exact hx, by rw [e2]; exact h.v, a1.mono (pow_le (by omega)), a2.mono (pow_le (by omega)), a3, hrel⟩
theorem Aht.miss {c i : Nat} {s : Stt} (h : Aht c i s) : Tst c (i + 1) s := by
 refine ⟨h.x.mono ?_, h.v.mono (pow_le (by omega)), h.p.mono (pow_le (by omega)), h.q.mono (pow_le (by omega)), h.r.mono (pow_le (by omega))⟩
 have h1 := pow_le (show 170 + 21 * i ≤ 165 + 21 * (i + 1) by omega)
 have h2 := pow_two (a := 168 + 21 * i) (b := 169 + 21 * i) (by omega)
 have h3 := pow_two (a := 169 + 21 * i) (b := 170 + 21 * i) (by omega)
 omega
theorem Aht.seen {c i : Nat} {s : Stt} {x n : Nat} {N : Int} (hc : c = 1074) (hi : i ≤ 38) (h : Aht c i s) (hx : AM c x (2 ^ 165)) (hn : FV n N) (N0 : ((2 ^ c : Nat) : Int) ≤ N) (N1 : N ≤ ((2 ^ 10 * 2 ^ c : Nat) : Int)) :
  Tst c (i + 1) (seenF s x n) ∧ ∃ z, FV (seenF s x n).p z ∧ 0 ≤ z ∧ z ≤ N := by
 have pc := Nat.two_pow_pos c
 obtain ⟨pv, p1, p2, p3⟩ := h.p
 obtain ⟨rv', r1, r2, r3⟩ := h.r
 obtain ⟨hgt, ⟨u, u1, u2, u3, u4, u5⟩, ⟨K, k1, k2, k3⟩, _, hp, hq, z, z1, z2, z3⟩ := seen_pqr (x := x) (E := 26 + 3 * i) (G := 43 + 3 * i) (R := 13 + i) hc (by omega) (by omega) (by omega) (by omega) p1 p2 p3 h.q r1 r2 r3 hn (by omega)
  (by
   have h9 : (2 : Nat) ^ 10 = 1024 := by decide
   rw [h9] at N1
   omega)
 -- the share of the speed
 obtain ⟨q1, p1', a1, a2, a3, a4, a5⟩ := h.rel
 have ep : p1' = pv := FV.unique a2 p1
 have hqu : q1 ≤ u * ((2 ^ 15 : Nat) : Int) := by
  have h9 : ((2 ^ 15 : Nat) : Int) = 32768 := by decide
  rw [h9]
  rcases a5 with a5 | a5 <;> omega
 obtain ⟨e, he⟩ : ∃ e, e = 2000 := ⟨_, rfl⟩
 have hue : u.natAbs ≤ 2 ^ e := by
  have := small_e (g := 43 + 3 * i + 21) hc he (by omega)
  omega
 obtain ⟨H, h1, h2, h3, _⟩ := quo_pow c hc (k := 15) (by omega) a1 u1 a3 hqu u2 e he hue
 have hH : AM c (seenH s n) (2 ^ 15) := ⟨H, h1, by omega⟩
 have hK : AM c (seenK s n) 1 := ⟨K, k1, by omega⟩
 have d1 := pow_two (a := 168 + 21 * i) (b := 169 + 21 * i) (by omega)
 have d2 := pow_two (a := 169 + 21 * i) (b := 170 + 21 * i) (by omega)
 have d3 := pow_le (show 165 ≤ 168 + 21 * i by omega)
 have hy : AM c (seenY s x) (2 ^ (170 + 21 * i)) := hx.sub hc h.x (by omega) (flt_pow (by omega))
 have hky : AM c (fop .mul (seenK s n) (seenY s x)) (2 ^ (170 + 21 * i)) := hK.mul hc hy (by omega) (flt_pow (by omega))
 have hhy : AM c (fop .mul (seenH s n) (seenY s x)) (2 ^ (185 + 21 * i)) := hH.mul hc hy (by rw [← Nat.pow_add]; exact pow_le (by omega)) (flt_pow (by omega))
 have d4 := pow_two (a := 170 + 21 * i) (b := 171 + 21 * i) (by omega)
 have d5 := pow_le (show 171 + 21 * i ≤ 165 + 21 * (i + 1) by omega)
 have d6 := pow_le (show 165 + 21 * i ≤ 185 + 21 * i by omega)
 have d7 := pow_two (a := 185 + 21 * i) (b := 165 + 21 * (i + 1)) (by omega)
 have hx2 : AM c (fop .add s.x (fop .mul (seenK s n) (seenY s x))) (2 ^ (165 + 21 * (i + 1))) := h.x.add hc hky (by omega) (flt_pow (by omega))
 have hv2 : AM c (fop .add s.v (fop .mul (seenH s n) (seenY s x))) (2 ^ (165 + 21 * (i + 1))) := h.v.add hc hhy (by omega) (flt_pow (by omega))
 have e1 : (seenF s x n).x = fop .add s.x (fop .mul (seenK s n) (seenY s x)) := by unfold seenF; rw [if_pos hgt]
 have e2 : (seenF s x n).v = fop .add s.v (fop .mul (seenH s n) (seenY s x)) := by unfold seenF; rw [if_pos hgt]
 obtain ⟨y, y1, y2, y3⟩ := hp
 refine ⟨⟨by rw [e1]; exact hx2, by rw [e2]; exact hv2, ⟨y, y1, y2, ?_⟩, hq.mono (pow_le (by omega)), ⟨z, z1, z2, ?_⟩⟩, y, y1, y2, y3⟩
 ·
  have := Nat.mul_le_mul_right (2 ^ c) (pow_le (show 10 ≤ 40 + 3 * (i + 1) by omega))
  omega
 ·
  rw [show 12 + (i + 1) = 13 + i by omega]
  omega
end Go.Proofs.Ytdllakfojligjaa
