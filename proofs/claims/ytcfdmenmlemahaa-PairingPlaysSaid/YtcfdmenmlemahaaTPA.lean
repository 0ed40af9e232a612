/-
  A part of the proof: what functions that the statement reaches do, or a plain law on what they do. Each theorem holds under its own premises alone.
-/
import Derived.Test.YtcfdmenmlemahaaKit
namespace Go.Pr
/-! ### Plain laws on finite maps: pigeons, sums, permutations -/
theorem php : ∀ (m n : Nat) (f : Nat → Nat), (∀ j, j < n → f j < m) → (∀ a b, a < n → b < n → f a = f b → a = b) → n ≤ m
  | _, 0, _, _, _ => Nat.zero_le _
  | 0, n + 1, f, h, _ => absurd (h 0 (by omega)) (Nat.not_lt_zero _)
  | l + 1, k + 1, f, h, inj => by
    have := php l k (fun a => if f a = l then f k else f a) (fun a ha => by
      have h1 := h a (by omega)
      have h2 := h k (by omega)
      by_cases h3 : f a = l
      · simp only [h3, if_true]
        by_cases h4 : f k = l
        · exact absurd (inj a k (by omega) (by omega) (by omega)) (by omega)
        · omega
      · simp only [h3, if_false]; omega) (fun a b ha hb hab => by
      by_cases h3 : f a = l <;> by_cases h4 : f b = l
      · exact inj a b (by omega) (by omega) (by omega)
      · simp only [h3, h4, if_true, if_false] at hab
        exact absurd (inj k b (by omega) (by omega) hab) (by omega)
      · simp only [h3, h4, if_true, if_false] at hab
        exact absurd (inj a k (by omega) (by omega) hab) (by omega)
      · simp only [h3, h4, if_false] at hab
        exact inj a b (by omega) (by omega) hab)
    omega
/-- A map of the first n numbers into themselves that meets none twice meets all. -/
theorem surj {n : Nat} {f : Nat → Nat} (h : ∀ j, j < n → f j < n) (inj : ∀ a b, a < n → b < n → f a = f b → a = b) {j : Nat} (hj : j < n) : ∃ a, a < n ∧ f a = j := by
  apply Classical.byContradiction
  intro hne
  have hn : ∀ a, a < n → f a ≠ j := fun a ha he => hne ⟨a, ha, he⟩
  have := php (n - 1) n (fun a => if f a = n - 1 then j else f a) (fun a ha => by
    have h1 := h a ha
    have h2 := hn a ha
    by_cases h3 : f a = n - 1
    · simp only [h3, if_true]; omega
    · simp only [h3, if_false]; omega) (fun a b ha hb hab => by
    have h1 := hn a ha
    have h2 := hn b hb
    by_cases h3 : f a = n - 1 <;> by_cases h4 : f b = n - 1
    · exact inj a b ha hb (by omega)
    · simp only [h3, h4, if_true, if_false] at hab; omega
    · simp only [h3, h4, if_true, if_false] at hab; omega
    · simp only [h3, h4, if_false] at hab; exact inj a b ha hb hab)
  omega
def tot : Nat → (Nat → Int) → Int
  | 0, _ => 0
  | n + 1, f => tot n f + f n
theorem tot_add (n : Nat) (f g : Nat → Int) : tot n (fun j => f j + g j) = tot n f + tot n g := by
  induction n with
  | zero => rfl
  | succ n ih => simp only [tot, ih]; omega
theorem tot_congr {n : Nat} {f g : Nat → Int} (h : ∀ j, j < n → f j = g j) : tot n f = tot n g := by
  induction n with
  | zero => rfl
  | succ n ih => simp only [tot]; rw [ih (fun j hj => h j (by omega)), h n (by omega)]
theorem tot_le {n : Nat} {f g : Nat → Int} (h : ∀ j, j < n → f j ≤ g j) : tot n f ≤ tot n g := by
  induction n with
  | zero => exact Int.le_refl _
  | succ n ih => have := ih (fun j hj => h j (by omega)); have := h n (by omega); simp only [tot]; omega
theorem tot_lt {n : Nat} {f g : Nat → Int} (h : ∀ j, j < n → f j ≤ g j) (e : tot n g ≤ tot n f) : ∀ j, j < n → f j = g j := by
  induction n with
  | zero => intro j hj; omega
  | succ n ih =>
    have h1 := tot_le (n := n) (f := f) (g := g) (fun j hj => h j (by omega))
    have h2 := h n (by omega)
    simp only [tot] at e
    intro j hj
    by_cases hjn : j = n
    · subst hjn; omega
    · exact ih (fun j hj => h j (by omega)) (by omega) j (by omega)
theorem tot_list (n : Nat) (f : Nat → Int) : tot n f = ((List.range n).map f).sum := by
  induction n with
  | zero => rfl
  | succ n ih => rw [List.range_succ, List.map_append, List.sum_append, tot, ih]; simp
theorem perm_sum {l m : List Int} (h : l.Perm m) : l.sum = m.sum := by
  induction h with
  | nil => rfl
  | cons x _ ih => simp [ih]
  | swap x y l => simp; omega
  | trans _ _ h1 h2 => rw [h1, h2]
/-- Bijections of the first n numbers. -/
structure Bij (n : Nat) (f : Nat → Nat) : Prop where
  lt : ∀ j, j < n → f j < n
  inj : ∀ a b, a < n → b < n → f a = f b → a = b
theorem Bij.perm {n : Nat} {f : Nat → Nat} (h : Bij n f) : ((List.range n).map f).Perm (List.range n) := by
  rw [List.perm_iff_count]
  intro a
  have h1 : ((List.range n).map f).Nodup := by
    unfold List.Nodup
    rw [List.pairwise_map]
    have : (List.range n).Pairwise (fun a b => a < n ∧ b < n ∧ a ≠ b) := by
      have h2 : (List.range n).Nodup := List.nodup_range
      unfold List.Nodup at h2
      exact h2.imp_of_mem (fun ha hb hne => ⟨List.mem_range.1 ha, List.mem_range.1 hb, hne⟩)
    exact this.imp (fun ⟨ha, hb, hne⟩ he => hne (h.inj _ _ ha hb he))
  rw [h1.count, (List.nodup_range (n := n)).count]
  have : a ∈ (List.range n).map f ↔ a ∈ List.range n := by
    rw [List.mem_map, List.mem_range]
    constructor
    · rintro ⟨b, hb, rfl⟩; exact h.lt b (List.mem_range.1 hb)
    · intro ha
      obtain ⟨b, hb, hf⟩ := surj h.lt h.inj ha
      exact ⟨b, List.mem_range.2 hb, hf⟩
  simp only [this]
theorem Bij.tot {n : Nat} {f : Nat → Nat} (h : Bij n f) (g : Nat → Int) : tot n (fun j => g (f j)) = tot n g := by
  rw [tot_list, tot_list]
  have h1 : (List.range n).map (fun j => g (f j)) = ((List.range n).map f).map g := by rw [List.map_map]; rfl
  rw [h1]
  exact perm_sum (h.perm.map g)
/-! ### Pairings of a square, and what is best of them -/
/-- what a pairing costs -/
def cst (n : Nat) (C : Nat → Nat → Int) (f : Nat → Nat) : Int := tot n fun r => C r (f r)
/-- ahead in the first rows -/
def Ahead (rows : Nat) (f g : Nat → Nat) : Prop := (∀ r, r < rows → g r = f r) ∨ ∃ i, i < rows ∧ (∀ r, r < i → g r = f r) ∧ f i < g i
structure Best (n rows : Nat) (C : Nat → Nat → Int) (f : Nat → Nat) : Prop where
  bij : Bij n f
  least : ∀ g, Bij n g → cst n C f ≤ cst n C g
  first : ∀ g, Bij n g → cst n C g = cst n C f → Ahead rows f g
/-- Prices that are fair, and tight at a pairing: it is least, and the least are the tight ones. -/
theorem least_of {n : Nat} {C : Nat → Nat → Int} {U V : Nat → Int} (hf : ∀ r, r < n → ∀ j, j < n → U r + V j ≤ C r j) {f : Nat → Nat} (hb : Bij n f) (ht : ∀ r, r < n → U r + V (f r) = C r (f r)) :
    (∀ g, Bij n g → cst n C f ≤ cst n C g) ∧ ∀ g, Bij n g → cst n C g = cst n C f → ∀ r, r < n → U r + V (g r) = C r (g r) := by
  have e : ∀ g, Bij n g → tot n (fun r => U r + V (g r)) = tot n U + tot n V := fun g hg => by
    rw [tot_add n U (fun r => V (g r)), hg.tot V]
  have e1 : cst n C f = tot n U + tot n V := by
    rw [← e f hb]
    exact tot_congr fun r hr => (ht r hr).symm
  refine ⟨fun g hg => ?_, fun g hg hc r hr => ?_⟩
  · rw [e1, ← e g hg]
    exact tot_le fun r hr => hf r hr (g r) (hg.lt r hr)
  · refine tot_lt (n := n) (f := fun r => U r + V (g r)) (g := fun r => C r (g r)) (fun r hr => hf r hr (g r) (hg.lt r hr)) ?_ r hr
    rw [e g hg, ← e1]
    exact Int.le_of_eq hc
end Go.Pr
