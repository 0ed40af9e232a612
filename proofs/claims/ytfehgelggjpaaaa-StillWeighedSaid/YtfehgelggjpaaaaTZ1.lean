/-
  A part of the proof: what functions that the statement reaches do, or a plain law on what they do. Each theorem holds under its own premises alone.
-/
import Derived.Test.YtfehgelggjpaaaaTF11
import Derived.Test.YtfehgelggjpaaaaTX3
import Derived.Test.YtfehgelggjpaaaaTW
namespace Go.Proofs.Ytfehgelggjpaaaa
open Go Go.Lk
/-! ### Differences of whole numbers in floats are exact -/
def RepB (x : Nat) (v : Int) (B : Nat) : Prop := Rep x v ∧ v.natAbs ≤ B
theorem rep_lt {x : Nat} {v : Int} (h : Rep x v) : x ≠ qnan ∧ isnan x = false := by
  obtain ⟨s, m, p, h1, _⟩ := h.read 1074 rfl
  have h2 : isnan x = false := by
    show (Ieee.double.read x).isNaN = false
    rw [h1]; rfl
  exact ⟨fun h3 => (by rw [h3, isnan_qnan] at h2; cases h2), h2⟩
theorem rep_cn {x : Nat} {v : Int} (h : Rep x v) : cn x = x := cn_num (rep_lt h).2
theorem rep_of_cn {x : Nat} {v : Int} (h : Rep (cn x) v) : Rep x v := by
  have h2 := (rep_lt h).2
  rw [isnan_cn] at h2
  rwa [cn_num h2] at h
theorem repB_sub {x y : Nat} {v u : Int} {B : Nat} (hx : RepB x v B) (hy : RepB y u B) (hB : 2 * B < 9007199254740992) : RepB (fop .sub x y) (v - u) (2 * B) := by
  have h2 : (v - u).natAbs ≤ 2 * B := by have := hx.2; have := hy.2; omega
  obtain ⟨r, hr, hR⟩ := rep_sub hx.1 hy.1 (by omega)
  unfold fop
  rw [hr]
  exact ⟨hR, h2⟩
def RepC (x : Nat × Nat) (v : Int × Int) (B : Nat) : Prop := RepB x.1 v.1 B ∧ RepB x.2 v.2 B
structure RepRows (R : List (List (Nat × Nat))) (f : Nat → Nat → Int × Int) (k n B : Nat) : Prop where
  len : R.length = k
  row : ∀ i, i < k → (R.getD i []).length = n
  rep : ∀ i j, i < k → j < n → RepC ((R.getD i []).getD j (0, 0)) (f i j) B
theorem getD_zip {α β γ : Type} (g : α → β → γ) (a : List α) (b : List β) (i : Nat) (d1 : α) (d2 : β) (d : γ) (ha : i < a.length) (hb : i < b.length) : (List.zipWith g a b).getD i d = g (a.getD i d1) (b.getD i d2) := by
  simp [List.getD, List.getElem?_zipWith, ha, hb]
def dz (f : Nat → Nat → Int × Int) : Nat → Nat → Nat → Int × Int
  | 0, i, j => f i j
  | o + 1, i, j => ((dz f o (i + 1) j).1 - (dz f o i j).1, (dz f o (i + 1) j).2 - (dz f o i j).2)
theorem RepRows.crow {R : List (List (Nat × Nat))} {f : Nat → Nat → Int × Int} {k n B : Nat} (h : RepRows R f k n B) : RepRows (R.map crow) f k n B := by
  have e1 : ∀ i, i < k → (R.map Ytfehgelggjpaaaa.crow).getD i [] = Ytfehgelggjpaaaa.crow (R.getD i []) := fun i hi => by simp [List.getD, h.len, hi]
  refine ⟨by simp [h.len], fun i hi => ?_, fun i j hi hj => ?_⟩
  · rw [e1 i hi]; simpa [Ytfehgelggjpaaaa.crow] using h.row i hi
  · have h1 := h.rep i j hi hj
    have hl := h.row i hi
    rw [e1 i hi]
    have e2 : (Ytfehgelggjpaaaa.crow (R.getD i [])).getD j (0, 0) = cn2 ((R.getD i []).getD j (0, 0)) := by
      simp only [Ytfehgelggjpaaaa.crow, List.getD, List.getElem?_map]
      rw [List.getElem?_eq_getElem (show j < (R[i]?.getD []).length by simpa [List.getD] using (show j < (R.getD i []).length by omega))]
      rfl
    rw [e2]
    have e3 : cn2 ((R.getD i []).getD j (0, 0)) = (R.getD i []).getD j (0, 0) := by
      unfold cn2
      rw [rep_cn h1.1.1, rep_cn h1.2.1]
    rw [e3]; exact h1
theorem RepRows.dRows {R : List (List (Nat × Nat))} {f : Nat → Nat → Int × Int} {k n B : Nat} (h : RepRows R f k n B) (hB : 2 * B < 9007199254740992) : RepRows (dRows R) (fun i j => ((f (i + 1) j).1 - (f i j).1, (f (i + 1) j).2 - (f i j).2)) (k - 1) n (2 * B) := by
  have e1 : ∀ i, i < k - 1 → (Ytfehgelggjpaaaa.dRows R).getD i [] = dRow (R.getD (i + 1) []) (R.getD i []) := fun i hi => by
    unfold Ytfehgelggjpaaaa.dRows
    rw [getD_zip _ _ _ i [] [] [] (by simp [h.len]; omega) (by rw [h.len]; omega)]
    congr 1
    simp [List.getD]
  refine ⟨by simp [Ytfehgelggjpaaaa.dRows, h.len], fun i hi => ?_, fun i j hi hj => ?_⟩
  · rw [e1 i hi]
    have a1 := h.row i (by omega)
    have a2 := h.row (i + 1) (by omega)
    simp only [dRow, List.length_zipWith, a1, a2, Nat.min_self]
  · rw [e1 i hi]
    unfold dRow
    rw [getD_zip _ _ _ j (0, 0) (0, 0) (0, 0) (by rw [h.row (i + 1) (by omega)]; exact hj) (by rw [h.row i (by omega)]; exact hj)]
    have h1 := h.rep (i + 1) j (by omega) hj
    have h2 := h.rep i j (by omega) hj
    exact ⟨repB_sub h1.1 h2.1 hB, repB_sub h1.2 h2.2 hB⟩
theorem RepRows.dIter {R : List (List (Nat × Nat))} {f : Nat → Nat → Int × Int} {k n B : Nat} (h : RepRows R f k n B) : ∀ o, B * 2 ^ o < 9007199254740992 → RepRows (dIter R o) (dz f o) (k - o) n (B * 2 ^ o)
  | 0, _ => by simpa [Ytfehgelggjpaaaa.dIter, dz] using h
  | o + 1, hB => by
    have e : B * 2 ^ (o + 1) = 2 * (B * 2 ^ o) := by rw [Nat.pow_succ, ← Nat.mul_assoc, Nat.mul_comm]
    have h1 := RepRows.dIter h o (by omega)
    have h2 := h1.dRows (by omega)
    rw [← e] at h2
    exact h2
/-- What a row of the answer holds. -/
theorem rep_back {R : List (List (Nat × Nat))} {f : Nat → Nat → Int × Int} {k n B : Nat} (h : RepRows (R.map crow) f k n B) : RepRows R f k n B := by
  have hl : R.length = k := by simpa using h.len
  have e1 : ∀ i, i < k → (R.map Ytfehgelggjpaaaa.crow).getD i [] = Ytfehgelggjpaaaa.crow (R.getD i []) := fun i hi => by simp [List.getD, hl, hi]
  have hrow : ∀ i, i < k → (R.getD i []).length = n := fun i hi => by
    have := h.row i hi
    rw [e1 i hi] at this
    simpa [Ytfehgelggjpaaaa.crow] using this
  refine ⟨hl, hrow, fun i j hi hj => ?_⟩
  have h1 := h.rep i j hi hj
  rw [e1 i hi] at h1
  have e2 : (Ytfehgelggjpaaaa.crow (R.getD i [])).getD j (0, 0) = cn2 ((R.getD i []).getD j (0, 0)) := by
    simp only [Ytfehgelggjpaaaa.crow, List.getD, List.getElem?_map]
    rw [List.getElem?_eq_getElem (show j < (R[i]?.getD []).length by simpa [List.getD] using (show j < (R.getD i []).length by rw [hrow i hi]; exact hj))]
    rfl
  rw [e2] at h1
  exact ⟨⟨rep_of_cn h1.1.1, h1.1.2⟩, ⟨rep_of_cn h1.2.1, h1.2.2⟩⟩
end Go.Proofs.Ytfehgelggjpaaaa
