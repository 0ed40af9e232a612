/-
  A part of the proof: what functions that the statement reaches do, or a plain law on what they do. Each theorem holds under its own premises alone.
-/
import Derived.Test.YtdllakfojligjaaTKT1
namespace Go.Proofs.Ytdllakfojligjaa
open Go Go.Lk
/-! ### A state that stands still -/
structure StS (c Q R : Nat) (vx : Int) (s : Stt) : Prop where
 x : FV s.x vx
 v : FV s.v 0
 p : NM c s.p (2 ^ 20)
 q : NM c s.q (2 ^ Q)
 r : NM c s.r (2 ^ R)
theorem fv_add0 {c x y : Nat} {v : Int} (hc : c = 1074) (hx : FV x v) (hy : FV y 0) : FV (fop .add x y) v := by
 obtain ⟨z, z1, z2⟩ := fv_add c hc hx hy (by rw [Int.add_zero]; exact hx.fin)
 rw [Int.add_zero, rd_fv hc hx] at z2
 rw [fop_some' z1]; exact z2
theorem fv_self {c x y : Nat} {v : Int} (hc : c = 1074) (hx : FV x v) (hy : FV y v) : FV (fop .sub x y) 0 := by
 obtain ⟨z, z1, z2⟩ := fv_sub c hc hx hy (by rw [Int.sub_self]; exact Nat.zero_le _)
 rw [Int.sub_self, rd_zero] at z2
 rw [fop_some' z1]; exact z2
theorem fv_mul0 {x y : Nat} {v u : Int} (hx : FV x v) (hy : FV y u) (h : v * u = 0) : FV (fop .mul x y) 0 := by
 obtain ⟨r, hr, h0, _⟩ := fv_mul hx hy
 rw [fop_some' hr]; exact h0 h
structure AhS (c Q R : Nat) (vx : Int) (s : Stt) : Prop where
 x : FV s.x vx
 v : FV s.v 0
 p : NM c s.p (2 ^ (Q + 25))
 q : NM c s.q (2 ^ (Q + 1))
 r : NM c s.r (2 ^ (R + 1))
theorem StS.ahead {c Q R : Nat} {vx : Int} {s : Stt} {t w : Nat} (hc : c = 1074) (h : StS c Q R vx s) (hQ : 70 ≤ Q) (hQ2 : Q ≤ 480) (hR : 42 ≤ R) (hRQ : R + 21 ≤ Q) (ht : NM c t (2 ^ 20)) (hw : NM c w (2 ^ 20)) : AhS c Q R vx (aheadF s t w) := by
 obtain ⟨Q1, rfl⟩ : ∃ Q1, Q = Q1 + 1 := ⟨Q - 1, by omega⟩
 have e1 := pow_two (a := Q1) (b := Q1 + 1) rfl
 have e2 := pow_two (a := R) (b := R + 1) rfl
 have e3 := pow_le (show R + 20 ≤ Q1 by omega)
 have e4 := pow_le (show 20 + 20 ≤ R by omega)
 obtain ⟨a1, a2, a3⟩ := ahead_pqr hc (s := s) (t := t) (w := w) (E := Q1 + 1 + 22) (P := 20) (Q := Q1 + 1) (R := R) (T := 20) (W := 20) (by omega) (by omega) (by omega) (by omega) (by omega) h.p h.q h.r ht hw (Q' := Q1) (R' := R + 1) (by omega) (by omega) (by omega) (by omega) (by omega)
 refine ⟨?_, ?_, a1, a2, a3⟩
 ·
  obtain ⟨u, u1, _⟩ := ht
  unfold aheadF
  split
  ·
   exact fv_add0 hc h.x (fv_mul0 h.v u1 (Int.zero_mul _))
  ·
   exact h.x
 ·
  unfold aheadF
  split
  ·
   exact h.v
  ·
   exact h.v
theorem AhS.seen {c Q R : Nat} {vx N : Int} {s : Stt} {x n : Nat} (hc : c = 1074) (h : AhS c Q R vx s) (hQ : 70 ≤ Q) (hQ2 : Q ≤ 479) (hR2 : R ≤ 800) (hx : FV x vx) (hn : FV n N) (N0 : ((2 ^ c : Nat) : Int) ≤ N * 1048576) (N1 : N ≤ ((1048576 * 2 ^ c : Nat) : Int)) :
  StS c (Q + 2) (R + 1) vx (seenF s x n) ∧ FV (farF s x n) 0 := by
 obtain ⟨p, p1, p2, p3⟩ := h.p
 obtain ⟨r, r1, r2, r3⟩ := h.r
 obtain ⟨hgt, ⟨u, u1, u2, _, _, u3⟩, ⟨K, K1, K2, K3⟩, hH, ⟨z, z1, z2, z3⟩, hq, ⟨y, y1, y2, y3⟩⟩ := seen_pqr (x := x) (G := Q + 25) (R := R + 1) hc (by omega) (by omega) (by omega) (by omega) p1 p2 p3 h.q r1 r2 r3 hn N0 N1
 have hy0 : FV (seenY s x) 0 := fv_self hc hx h.x
 obtain ⟨H, H1, _⟩ := hH
 refine ⟨⟨?_, ?_, ⟨z, z1, z2, by rw [show 2 ^ 20 = 1048576 from rfl]; omega⟩, hq, ⟨y, y1, y2, by omega⟩⟩, ?_⟩
 ·
  unfold seenF
  rw [if_pos hgt]
  exact fv_add0 hc h.x (fv_mul0 K1 hy0 (Int.mul_zero _))
 ·
  unfold seenF
  rw [if_pos hgt]
  exact fv_add0 hc h.v (fv_mul0 H1 hy0 (Int.mul_zero _))
 ·
  unfold farF
  rw [if_pos hgt]
  obtain ⟨e, he⟩ : ∃ e, e = 2000 := ⟨_, rfl⟩
  have hue : u.natAbs ≤ 2 ^ e := by
   have := small_e (g := Q + 25 + 21) hc he (by omega)
   omega
  obtain ⟨f, f1, _, _, f2⟩ := quo_pow c hc (k := 0) (by omega) (fv_mul0 hy0 hy0 (Int.zero_mul _)) u1 (Int.le_refl _) (by rw [show ((2 ^ 0 : Nat) : Int) = 1 from rfl]; omega) u2 e he hue
  rw [f2 rfl] at f1
  exact f1
end Go.Proofs.Ytdllakfojligjaa
