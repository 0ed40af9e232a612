/-
  A part of the proof: what functions that the statement reaches do, or a plain law on what they do. Each theorem holds under its own premises alone.
-/
import Derived.Test.YtihhloeakenfgaaTB14
namespace Go.Proofs.Ytihhloeakenfgaa
open Go Go.Lk
/-! ### Whole numbers through a ring and a line -/
theorem fmul_rep {x y : Nat} {v u : Int} (hx : Rep x v) (hy : Rep y u) (hb : (v * u).natAbs < 9007199254740992) : Rep (fop .mul x y) (v * u) := by
  obtain ⟨r, h1, h2⟩ := rep_mul hx hy hb
  rw [fop_some h1]; exact h2
theorem fadd_rep {x y : Nat} {v u : Int} (hx : Rep x v) (hy : Rep y u) (hb : (v + u).natAbs < 9007199254740992) : Rep (fop .add x y) (v + u) := by
  obtain ⟨r, h1, h2⟩ := rep_add hx hy hb
  rw [fop_some h1]; exact h2
theorem fsub_rep {x y : Nat} {v u : Int} (hx : Rep x v) (hy : Rep y u) (hb : (v - u).natAbs < 9007199254740992) : Rep (fop .sub x y) (v - u) := by
  obtain ⟨r, h1, h2⟩ := rep_sub hx hy hb
  rw [fop_some h1]; exact h2
theorem prod_le {a b : Int} (ha : a.natAbs ≤ 1048576) (hb : b.natAbs ≤ 1048576) : (a * b).natAbs ≤ 1099511627776 := by
  rw [Int.natAbs_mul]
  exact Nat.mul_le_mul ha hb
/-- what a ring's state holds, by whole numbers -/
def gI (c X : Nat → Int) (i : Nat) : Int := if i = 0 then 0 else X (i - 1) * c 2
def hI (c X : Nat → Int) (i : Nat) : Int := if i = 0 then 0 else X (i - 1) * c 1 + gI c X (i - 1)
structure Small (c X : Nat → Int) (k : Nat) : Prop where
  c : ∀ q, q < 3 → (c q).natAbs ≤ 1048576
  x : ∀ q, q < k → (X q).natAbs ≤ 1048576
section
variable {c X : Nat → Int} {k : Nat}
theorem gI_le (h : Small c X k) {i : Nat} (hi : i ≤ k) : (gI c X i).natAbs ≤ 1099511627776 := by
  unfold gI
  split
  · decide
  · exact prod_le (h.x _ (by omega)) (h.c 2 (by decide))
theorem hI_le (h : Small c X k) {i : Nat} (hi : i ≤ k) : (hI c X i).natAbs ≤ 2199023255552 := by
  unfold hI
  split
  · decide
  · have h1 := prod_le (h.x (i - 1) (by omega)) (h.c 1 (by decide))
    have h2 := gI_le h (i := i - 1) (by omega)
    omega
/-- one part of a step -/
theorem part_step (h : Small c X k) {i : Nat} (hi : i < k) {x s0 s1 y t0 t1 b0 b1 b2 a1 a2 : Nat} (hx : Rep x (X i)) (h0 : Rep b0 (c 0)) (h1 : Rep b1 (c 1)) (h2 : Rep b2 (c 2)) (ha1 : Rep a1 0) (ha2 : Rep a2 0) (hs0 : Rep s0 (hI c X i)) (hs1 : Rep s1 (gI c X i))
    (hy : cn y = fop .add (fop .mul x b0) s0) (ht0 : cn t0 = fop .add (fop .sub (fop .mul x b1) (fop .mul y a1)) s1) (ht1 : cn t1 = fop .sub (fop .mul x b2) (fop .mul y a2)) :
    Rep y (X i * c 0 + hI c X i) ∧ Rep t0 (hI c X (i + 1)) ∧ Rep t1 (gI c X (i + 1)) := by
  have e0 := prod_le (h.x i hi) (h.c 0 (by decide))
  have e1 := prod_le (h.x i hi) (h.c 1 (by decide))
  have e2 := prod_le (h.x i hi) (h.c 2 (by decide))
  have eh := hI_le h (i := i) (by omega)
  have eg := gI_le h (i := i) (by omega)
  have ry : Rep y (X i * c 0 + hI c X i) := cn_rep hy (fadd_rep (fmul_rep hx h0 (by omega)) hs0 (by omega))
  have m1 : Rep (fop .mul y a1) 0 := by
    have := fmul_rep ry ha1 (by rw [Int.mul_zero]; decide)
    rwa [Int.mul_zero] at this
  have m2 : Rep (fop .mul y a2) 0 := by
    have := fmul_rep ry ha2 (by rw [Int.mul_zero]; decide)
    rwa [Int.mul_zero] at this
  refine ⟨ry, ?_, ?_⟩
  · have d1 := fsub_rep (fmul_rep hx h1 (by omega)) m1 (by omega)
    rw [Int.sub_zero] at d1
    have := cn_rep ht0 (fadd_rep d1 hs1 (by omega))
    unfold hI
    rw [if_neg (by omega), Nat.add_sub_cancel]
    exact this
  · have d1 := fsub_rep (fmul_rep hx h2 (by omega)) m2 (by omega)
    rw [Int.sub_zero] at d1
    have := cn_rep ht1 d1
    unfold gI
    rw [if_neg (by omega), Nat.add_sub_cancel]
    exact this
theorem ring_rep {Y : Nat → Int} (h : Small c X k) (h' : Small c Y k) {bs aa : List Nat} {zs os : List (Nat × Nat)} {S : Nat → (Nat × Nat) × (Nat × Nat)} (hb : ∀ q, q < 3 → Rep (bs.getD q 0) (c q)) (ha1 : Rep (aa.getD 1 0) 0) (ha2 : Rep (aa.getD 2 0) 0)
    (hz : ∀ i, i < k → Rep (zs.getD i (0, 0)).1 (X i) ∧ Rep (zs.getD i (0, 0)).2 (Y i)) (hS : S 0 = ((0, 0), (0, 0))) (hR : ∀ i, i < k → RStep bs aa (zs.getD i (0, 0)) (S i).1 (S i).2 (os.getD i (0, 0)) (S (i + 1)).1 (S (i + 1)).2) :
    ∀ i, i ≤ k → (Rep (S i).1.1 (hI c X i) ∧ Rep (S i).1.2 (hI c Y i) ∧ Rep (S i).2.1 (gI c X i) ∧ Rep (S i).2.2 (gI c Y i)) ∧ ∀ q, q < i → Rep (os.getD q (0, 0)).1 (X q * c 0 + hI c X q) ∧ Rep (os.getD q (0, 0)).2 (Y q * c 0 + hI c Y q)
  | 0, _ => by
    rw [hS]
    exact ⟨⟨rep_nought, rep_nought, rep_nought, rep_nought⟩, fun _ h => absurd h (Nat.not_lt_zero _)⟩
  | i + 1, hi => by
    obtain ⟨⟨s1, s2, s3, s4⟩, hq⟩ := ring_rep h h' hb ha1 ha2 hz hS hR i (by omega)
    have hr := hR i (by omega)
    obtain ⟨z1, z2⟩ := hz i (by omega)
    obtain ⟨y1, t1, u1⟩ := part_step h (by omega) z1 (hb 0 (by decide)) (hb 1 (by decide)) (hb 2 (by decide)) ha1 ha2 s1 s3 hr.yr hr.ur hr.vr
    obtain ⟨y2, t2, u2⟩ := part_step h' (by omega) z2 (hb 0 (by decide)) (hb 1 (by decide)) (hb 2 (by decide)) ha1 ha2 s2 s4 hr.yi hr.ui hr.vi
    refine ⟨⟨t1, t2, u1, u2⟩, fun q hq' => ?_⟩
    by_cases hqi : q = i
    · rw [hqi]; exact ⟨y1, y2⟩
    · exact hq q (by omega)
/-- .. and through a line -/
theorem line_part (h : Small c X k) {i : Nat} (hi : i < k) {p : Nat → Nat} {s : Nat → Nat} (hp : ∀ q, q ≤ i → q < 3 → Rep (p q) (X (i - q) * c q)) (h0 : s 0 = p 0) (h1 : ∀ q, q + 1 ≤ i → q + 1 < 3 → s (q + 1) = fop .add (s q) (p (q + 1))) : Rep (s (min 3 (i + 1) - 1)) (X i * c 0 + hI c X i) := by
  have e0 := prod_le (h.x i hi) (h.c 0 (by decide))
  have r0 : Rep (s 0) (X i * c 0) := by rw [h0]; exact hp 0 (by omega) (by decide)
  by_cases i0 : i = 0
  · subst i0
    show Rep (s 0) _
    unfold hI
    rw [if_pos rfl, Int.add_zero]
    exact r0
  · have e1 := prod_le (h.x (i - 1) (by omega)) (h.c 1 (by decide))
    have r1 : Rep (s 1) (X i * c 0 + X (i - 1) * c 1) := by
      rw [h1 0 (by omega) (by decide)]
      exact fadd_rep r0 (hp 1 (by omega) (by decide)) (by omega)
    unfold hI
    rw [if_neg i0]
    by_cases i1 : i = 1
    · subst i1
      show Rep (s 1) _
      unfold gI
      rw [if_pos rfl, Int.add_zero]
      exact r1
    · have e2 := prod_le (h.x (i - 2) (by omega)) (h.c 2 (by decide))
      rw [show min 3 (i + 1) - 1 = 2 by omega, h1 1 (by omega) (by decide)]
      unfold gI
      rw [if_neg (by omega), show i - 1 - 1 = i - 2 by omega, ← Int.add_assoc]
      exact fadd_rep r1 (hp 2 (by omega) (by decide)) (by omega)
theorem line_rep {Y : Nat → Int} (h : Small c X k) (h' : Small c Y k) {taps zs : List (Nat × Nat)} {o : Nat × Nat} {i : Nat} (hi : i < k) (ht : taps.length = 3) (htap : ∀ q, q < 3 → Rep (taps.getD q (0, 0)).1 (c q) ∧ Rep (taps.getD q (0, 0)).2 0)
    (hz : ∀ i, i < k → Rep (zs.getD i (0, 0)).1 (X i) ∧ Rep (zs.getD i (0, 0)).2 (Y i)) (hL : LStep taps zs i o) : Rep o.1 (X i * c 0 + hI c X i) ∧ Rep o.2 (Y i * c 0 + hI c Y i) := by
  obtain ⟨l1, l2⟩ := lstep_cn hL (by omega)
  rw [ht] at l1 l2
  have hg : ∀ q, q < min 3 (i + 1) → ((List.range (min 3 (i + 1))).map (prodT taps zs i)).getD q (0, 0) = prodT taps zs i q := fun q hq => by
    simp only [List.getD, List.getElem?_map]
    rw [List.getElem?_eq_getElem (by simpa using hq)]
    simp
  have hr : ∀ q, q ≤ i → q < 3 → Rep (prodT taps zs i q).1 (X (i - q) * c q) ∧ Rep (prodT taps zs i q).2 (Y (i - q) * c q) := fun q hq h3 => by
    obtain ⟨t1, t2⟩ := htap q h3
    obtain ⟨z1, z2⟩ := hz (i - q) (by omega)
    have e1 := prod_le (h.c q h3) (h.x (i - q) (by omega))
    have e2 := prod_le (h'.c q h3) (h'.x (i - q) (by omega))
    constructor
    · have m := fmul_rep t2 z2 (by rw [Int.zero_mul]; decide)
      rw [Int.zero_mul] at m
      have := fsub_rep (fmul_rep t1 z1 (by omega)) m (by omega)
      rw [Int.sub_zero, Int.mul_comm] at this
      exact this
    · have m := fmul_rep t2 z1 (by rw [Int.zero_mul]; decide)
      rw [Int.zero_mul] at m
      have := fadd_rep (fmul_rep t1 z2 (by omega)) m (by omega)
      rw [Int.add_zero, Int.mul_comm] at this
      exact this
  obtain ⟨ls, hls⟩ : ∃ ls, ls = (List.range (min 3 (i + 1))).map (prodT taps zs i) := ⟨_, rfl⟩
  rw [← hls] at l1 l2 hg
  have a1 := line_part h hi (p := fun q => (prodT taps zs i q).1) (s := fun m => (sumN ls m).1) (fun q hq h3 => (hr q hq h3).1) (by show (ls.getD 0 (0, 0)).1 = _; rw [hg 0 (by omega)]) (fun q hq h3 => by show fop .add _ (ls.getD (q + 1) (0, 0)).1 = _; rw [hg (q + 1) (by omega)])
  have a2 := line_part h' hi (p := fun q => (prodT taps zs i q).2) (s := fun m => (sumN ls m).2) (fun q hq h3 => (hr q hq h3).2) (by show (ls.getD 0 (0, 0)).2 = _; rw [hg 0 (by omega)]) (fun q hq h3 => by show fop .add _ (ls.getD (q + 1) (0, 0)).2 = _; rw [hg (q + 1) (by omega)])
  exact ⟨cn_rep2 l1 a1, cn_rep2 l2 a2⟩
end
end Go.Proofs.Ytihhloeakenfgaa
