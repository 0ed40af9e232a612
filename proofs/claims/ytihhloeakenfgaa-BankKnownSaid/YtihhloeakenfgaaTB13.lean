/-
  A part of the proof: what functions that the statement reaches do, or a plain law on what they do. Each theorem holds under its own premises alone.
-/
import Derived.Test.YtihhloeakenfgaaTB12
namespace Go.Proofs.Ytihhloeakenfgaa
open Go Go.Lk
theorem sumN_congr {ts us : List (Nat × Nat)} : ∀ (m : Nat), (∀ q, q ≤ m → cn (ts.getD q (0, 0)).1 = cn (us.getD q (0, 0)).1 ∧ cn (ts.getD q (0, 0)).2 = cn (us.getD q (0, 0)).2) → cn (sumN ts m).1 = cn (sumN us m).1 ∧ cn (sumN ts m).2 = cn (sumN us m).2
  | 0, h => h 0 (Nat.le_refl _)
  | m + 1, h => by
    obtain ⟨h1, h2⟩ := sumN_congr m (fun q hq => h q (by omega))
    obtain ⟨h3, h4⟩ := h (m + 1) (Nat.le_refl _)
    exact ⟨(cn_fop ..).trans ((fop_congr h1 h3).trans (cn_fop ..).symm), (cn_fop ..).trans ((fop_congr h2 h4).trans (cn_fop ..).symm)⟩
theorem lstep_cn {taps zs : List (Nat × Nat)} {i : Nat} {o : Nat × Nat} (h : LStep taps zs i o) (ht : 0 < taps.length) :
    cn o.1 = cn (sumN ((List.range (min taps.length (i + 1))).map (prodT taps zs i)) (min taps.length (i + 1) - 1)).1 ∧ cn o.2 = cn (sumN ((List.range (min taps.length (i + 1))).map (prodT taps zs i)) (min taps.length (i + 1) - 1)).2 := by
  obtain ⟨ts, hl, hT, h1, h2⟩ := h
  have hg : ∀ q, q < min taps.length (i + 1) → ((List.range (min taps.length (i + 1))).map (prodT taps zs i)).getD q (0, 0) = prodT taps zs i q := fun q hq => by
    simp only [List.getD, List.getElem?_map]
    rw [List.getElem?_eq_getElem (by simpa using hq)]
    simp
  obtain ⟨h3, h4⟩ := sumN_congr (ts := ts) (us := (List.range (min taps.length (i + 1))).map (prodT taps zs i)) (ts.length - 1) (fun q hq => by
    rw [hg q (by omega)]
    obtain ⟨e1, e2⟩ := hT q (by omega)
    exact ⟨e1.trans (cn_fop ..).symm, e2.trans (cn_fop ..).symm⟩)
  rw [hl] at h3 h4 h1 h2
  exact ⟨h1.trans h3, h2.trans h4⟩
theorem pair_eq {o : Nat × Nat} {a b : Nat} (h1 : cn o.1 = cn a) (h2 : cn o.2 = cn b) (ha : isnan a = false) (hb : isnan b = false) : o = (a, b) := by
  obtain ⟨x, y⟩ := o
  have e1 : x = a := cn_same h1 ha
  have e2 : y = b := cn_same h2 hb
  rw [e1, e2]
theorem two {xs : List (Nat × Nat)} (h : xs.length = 2) : xs = [xs.getD 0 (0, 0), xs.getD 1 (0, 0)] := by
  match xs, h with
  | [a, b], _ => rfl
theorem fin0 : Fin1 0 := ⟨by decide, by decide +kernel, by decide +kernel⟩
theorem fin1 : Fin1 4607182418800017408 := ⟨by decide, by decide +kernel, by decide +kernel⟩
theorem finh : Fin1 13826050856027422720 := ⟨by decide, by decide +kernel, by decide +kernel⟩
theorem fin3 {a b c : Nat} (ha : Fin1 a) (hb : Fin1 b) (hc : Fin1 c) : ∀ i, i < 3 → Fin1 ([a, b, c].getD i 0) := fun i hi => by
  match i, hi with
  | 0, _ => exact ha
  | 1, _ => exact hb
  | 2, _ => exact hc
theorem three' {xs : List Nat} (h : xs.length = 3) : xs = [xs.getD 0 0, xs.getD 1 0, xs.getD 2 0] := by
  match xs, h with
  | [a, b, c], _ => rfl
/-- the line of the wakes -/
theorem line_wake {os : List (Nat × Nat)} (hl : os.length = 2) (h : ∀ i, i < 2 → LStep [(4607182418800017408, 0), (0, 4611686018427387904)] [(4607182418800017408, 0), (4607182418800017408, 0)] i (os.getD i (0, 0))) : os = [(4607182418800017408, 0), (4607182418800017408, 4611686018427387904)] := by
  obtain ⟨a1, a2⟩ := lstep_cn (h 0 (by decide)) (by decide)
  obtain ⟨b1, b2⟩ := lstep_cn (h 1 (by decide)) (by decide)
  rw [two hl, pair_eq (a := 4607182418800017408) (b := 0) (a1.trans (by decide +kernel)) (a2.trans (by decide +kernel)) (by decide +kernel) (by decide +kernel),
    pair_eq (a := 4607182418800017408) (b := 4611686018427387904) (b1.trans (by decide +kernel)) (b2.trans (by decide +kernel)) (by decide +kernel) (by decide +kernel)]
theorem ring_wake {os : List (Nat × Nat)} {S : Nat → (Nat × Nat) × (Nat × Nat)} (hl : os.length = 2) (h0 : S 0 = ((0, 0), (0, 0)))
    (h : ∀ i, i < 2 → RStep [4607182418800017408, 0, 0] [4607182418800017408, 13826050856027422720, 0] ([(4607182418800017408, 0), (0, 0)].getD i (0, 0)) (S i).1 (S i).2 (os.getD i (0, 0)) (S (i + 1)).1 (S (i + 1)).2) : os = [(4607182418800017408, 0), (4602678819172646912, 0)] ∧ (S 2).1 = (4598175219545276416, 0) := by
  have k0 := h 0 (by decide)
  have k1 := h 1 (by decide)
  rw [h0] at k0
  have y0 : os.getD 0 (0, 0) = (4607182418800017408, 0) := pair_eq (k0.yr.trans (by decide +kernel)) (k0.yi.trans (by decide +kernel)) (by decide +kernel) (by decide +kernel)
  rw [y0] at k0
  have s1 : (S 1).1 = (4602678819172646912, 0) := pair_eq (k0.ur.trans (by decide +kernel)) (k0.ui.trans (by decide +kernel)) (by decide +kernel) (by decide +kernel)
  have s2 : (S 1).2 = (0, 0) := pair_eq (k0.vr.trans (by decide +kernel)) (k0.vi.trans (by decide +kernel)) (by decide +kernel) (by decide +kernel)
  rw [s1, s2] at k1
  have y1 : os.getD 1 (0, 0) = (4602678819172646912, 0) := pair_eq (k1.yr.trans (by decide +kernel)) (k1.yi.trans (by decide +kernel)) (by decide +kernel) (by decide +kernel)
  rw [y1] at k1
  exact ⟨by rw [two hl, y0, y1], pair_eq (k1.ur.trans (by decide +kernel)) (k1.ui.trans (by decide +kernel)) (by decide +kernel) (by decide +kernel)⟩
end Go.Proofs.Ytihhloeakenfgaa
