/-
  A part of the proof: what functions that the statement reaches do, or a plain law on what they do. Each theorem holds under its own premises alone.
-/
import Derived.Test.YtdllakfojligjaaTCG3
import Derived.Test.YtdllakfojligjaaKitY
namespace Go.Proofs.Ytdllakfojligjaa
open Go Go.Lk Go.Pr
abbrev toN (l : List Int) (j : Nat) : Nat := (gi l j).toNat
/-- What a search among columns has found. -/
structure Bf (n : Nat) (C : Nat → Nat → Int) (U V : Nat → Int) (i j : Nat) (of : Nat → Nat) (frm : Nat → Int) (pos : Nat → Nat) (t : Nat) : Prop where
 j0 : frm j = (j : Int)
 rng : ∀ k, k < n → frm k = -1 ∨ (0 ≤ frm k ∧ frm k < n)
 par : ∀ m, m < n → 0 ≤ frm m → m ≠ j → 0 ≤ frm (frm m).toNat ∧ pos (frm m).toNat < pos m ∧ i < of (frm m).toNat ∧ C (of (frm m).toNat) m = U (of (frm m).toNat) + V m
 post : ∀ k, k < n → 0 ≤ frm k → pos k < t
theorem Bf.add {n : Nat} {C : Nat → Nat → Int} {U V : Nat → Int} {i j : Nat} {of : Nat → Nat} {frm frm' : Nat → Int} {pos : Nat → Nat} {t m k : Nat} (h : Bf n C U V i j of frm pos t) (hm : frm m = -1) (hmn : m < n) (hk : k < n) (hkf : 0 ≤ frm k) (hi : i < of k) (ht : C (of k) m = U (of k) + V m)
  (h1 : frm' m = (k : Int)) (h2 : ∀ c, c ≠ m → frm' c = frm c) : Bf n C U V i j of frm' (fun c => if c = m then t else pos c) (t + 1) := by
 have hkm : k ≠ m := fun he => by rw [he] at hkf; omega
 have hjm : j ≠ m := fun he => by have := h.j0; rw [he, hm] at this; omega
 refine ⟨by rw [h2 j hjm]; exact h.j0, fun c hc => ?_, fun c hc hc0 hcj => ?_, fun c hc hc0 => ?_⟩
 ·
  by_cases hcm : c = m
  ·
   rw [hcm, h1]; omega
  ·
   rw [h2 c hcm]; exact h.rng c hc
 ·
  by_cases hcm : c = m
  ·
   subst hcm
   rw [h1, Int.toNat_natCast, h2 k hkm]
   have := h.post k hk hkf
   simp only [hkm, if_false, if_true]
   exact ⟨hkf, this, hi, ht⟩
  ·
   rw [h2 c hcm] at hc0 ⊢
   obtain ⟨a1, a2, a3, a4⟩ := h.par c hc hc0 hcj
   have hne : (frm c).toNat ≠ m := fun he => by rw [he, hm] at a1; omega
   rw [h2 _ hne]
   simp only [hne, hcm, if_false]
   exact ⟨a1, a2, a3, a4⟩
 ·
  by_cases hcm : c = m
  ·
   simp [hcm]
  ·
   simp only [hcm, if_false]
   rw [h2 c hcm] at hc0
   have := h.post c hc hc0
   omega
theorem Qu.pop {w0 : World} {E : TypeId} {g o cap : Nat} {pre sp : List Value} {x : Int} {xs : List Int} (hp : pre.length = o) (hg : w0.heap.size ≤ g) (hl : (x :: xs).length ≤ cap) (hc : cap ≤ (x :: xs).length + sp.length) :
  Qu w0 E (.slice (slA (some ⟨g, o, none⟩) 1 cap 1) ((x :: xs).length - 1) (cap - 1)) xs [(g, Row E (pre ++ il (x :: xs) ++ sp))] := by
 by_cases h1 : cap = 1
 ·
  have h2 : xs = [] := List.eq_nil_of_length_eq_zero (by simp at hl; omega)
  subst h2
  refine ⟨g, o, 0, pre, .int .i64 x :: sp, ?_, ?_, hp, hg, by simp, by simp⟩
  ·
   unfold slA; rw [if_pos h1, h1]; rfl
  ·
   simp [il]
 ·
  refine ⟨g, o + 1, cap - 1, pre ++ [.int .i64 x], sp, ?_, ?_, by simp [hp], hg, by simp at hl; omega, by simp at hc; omega⟩
  ·
   unfold slA; rw [if_neg h1, Nat.mul_one]
   show Value.slice (some ((Addr.mk g o none).add 1)) _ _ = _
   rw [Addr.add_lit]; rfl
  ·
   simp [il]
theorem Qu.len {w0 : World} {E : TypeId} {v : Value} {xs : List Int} {M : List (Nat × Obj)} (h : Qu w0 E v xs M) : ∃ a c, v = .slice a xs.length c := by
 obtain ⟨g, o, cap, _, _, h, _⟩ := h
 exact ⟨_, _, h⟩
end Go.Proofs.Ytdllakfojligjaa
