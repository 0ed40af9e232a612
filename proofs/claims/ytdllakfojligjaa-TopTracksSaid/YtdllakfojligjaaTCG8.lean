/-
  A part of the proof: what functions that the statement reaches do, or a plain law on what they do. Each theorem holds under its own premises alone.
-/
import Derived.Test.YtdllakfojligjaaTCG7
namespace Go.Proofs.Ytdllakfojligjaa
open Go Go.Lk Go.Pr
theorem idx_inj {n r q i j : Nat} (hq : q < n) (hj : j < n) (h : r * n + q = i * n + j) : r = i ∧ q = j := by
 have h1 : (r * n + q) / n = r := by
  rw [Nat.mul_comm, Nat.mul_add_div (by omega), Nat.div_eq_of_lt hq, Nat.add_zero]
 have h2 : (i * n + j) / n = i := by
  rw [Nat.mul_comm, Nat.mul_add_div (by omega), Nat.div_eq_of_lt hj, Nat.add_zero]
 have h3 : r = i := by rw [← h1, h, h2]
 subst h3
 exact ⟨rfl, by omega⟩
theorem cf_set {n : Nat} {C : List Int} (hC : C.length = n * n) {i j : Nat} (hi : i < n) (hj : j < n) (x : Int) {r q : Nat} (hq : q < n) : cf n (C.set (i * n + j) x) r q = if r = i ∧ q = j then x else cf n C r q := by
 have h1 := idx_lt hi hj
 unfold cf
 rw [gset (by omega)]
 by_cases h : r = i ∧ q = j
 ·
  rw [if_pos h, if_pos (by rw [h.1, h.2])]
 ·
  rw [if_neg h, if_neg fun he => h (idx_inj hq hj he)]
theorem Best.congr {n rows : Nat} {C C' : Nat → Nat → Int} {f : Nat → Nat} (h : Best n rows C f) (he : ∀ r j, r < n → j < n → C r j = C' r j) : Best n rows C' f := by
 have e : ∀ g, Bij n g → cst n C g = cst n C' g := fun g hg => tot_congr fun r hr => he r _ hr (hg.lt r hr)
 exact ⟨h.bij, fun g hg => by rw [← e f h.bij, ← e g hg]; exact h.least g hg, fun g hg hc => h.first g hg (by rw [e f h.bij, e g hg]; exact hc)⟩
end Go.Proofs.Ytdllakfojligjaa
