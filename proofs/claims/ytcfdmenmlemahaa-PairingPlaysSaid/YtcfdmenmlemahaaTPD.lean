/-
  A part of the proof: what functions that the statement reaches do, or a plain law on what they do. Each theorem holds under its own premises alone.
-/
import Derived.Test.YtcfdmenmlemahaaTPC
namespace Go.Pr
/-! ### Changing two about -/
theorem tot_upd {n a : Nat} {h : Nat → Int} {x : Int} (ha : a < n) : tot n (fun r => if r = a then x else h r) = tot n h - h a + x := by
  induction n with
  | zero => omega
  | succ n ih =>
    simp only [tot]
    by_cases han : n = a
    · subst han
      rw [if_pos rfl, tot_congr (f := fun r => if r = n then x else h r) (g := h) (fun j hj => if_neg (by omega))]
      omega
    · rw [if_neg han, ih (by omega)]; omega
def swp (f : Nat → Nat) (a b : Nat) (r : Nat) : Nat := if r = a then f b else if r = b then f a else f r
theorem swp_a (f : Nat → Nat) (a b : Nat) : swp f a b a = f b := by simp [swp]
theorem swp_b (f : Nat → Nat) (a b : Nat) : swp f a b b = f a := by unfold swp; split <;> simp_all
theorem swp_o {f : Nat → Nat} {a b r : Nat} (h1 : r ≠ a) (h2 : r ≠ b) : swp f a b r = f r := by simp [swp, h1, h2]
theorem Bij.swp {n : Nat} {f : Nat → Nat} (h : Bij n f) {a b : Nat} (ha : a < n) (hb : b < n) : Bij n (swp f a b) := by
  refine ⟨fun j hj => ?_, fun x y hx hy hxy => ?_⟩
  · unfold Pr.swp; split
    · exact h.lt b hb
    · split
      · exact h.lt a ha
      · exact h.lt j hj
  · unfold Pr.swp at hxy
    have i1 := fun p q hp hq he => h.inj p q hp hq he
    by_cases x1 : x = a <;> by_cases y1 : y = a
    · omega
    · rw [if_pos x1, if_neg y1] at hxy
      by_cases y2 : y = b
      · rw [if_pos y2] at hxy; have := h.inj b a hb ha hxy; omega
      · rw [if_neg y2] at hxy; have := h.inj b y hb hy hxy; omega
    · rw [if_neg x1, if_pos y1] at hxy
      by_cases x2 : x = b
      · rw [if_pos x2] at hxy; have := h.inj a b ha hb hxy; omega
      · rw [if_neg x2] at hxy; have := h.inj x b hx hb hxy; omega
    · rw [if_neg x1, if_neg y1] at hxy
      by_cases x2 : x = b <;> by_cases y2 : y = b
      · omega
      · rw [if_pos x2, if_neg y2] at hxy; have := h.inj a y ha hy hxy; omega
      · rw [if_neg x2, if_pos y2] at hxy; have := h.inj x a hx ha hxy; omega
      · rw [if_neg x2, if_neg y2] at hxy; exact h.inj x y hx hy hxy
theorem cst_swp {n : Nat} {C : Nat → Nat → Int} {f : Nat → Nat} {a b : Nat} (ha : a < n) (hb : b < n) (hab : a ≠ b) : cst n C (swp f a b) = cst n C f - C a (f a) - C b (f b) + C a (f b) + C b (f a) := by
  have e : cst n C (swp f a b) = tot n (fun r => if r = a then C a (f b) else (fun r => if r = b then C b (f a) else C r (f r)) r) := tot_congr fun r _ => by
    unfold swp
    by_cases h1 : r = a
    · simp [h1]
    · by_cases h2 : r = b
      · subst h2; simp [h1]
      · simp [h1, h2]
  rw [e, tot_upd ha, tot_upd hb]
  simp only [hab, if_false]
  unfold cst
  omega
/-- What a change of two rows of a best pairing tells. -/
theorem Best.swp {n rows : Nat} {C : Nat → Nat → Int} {f : Nat → Nat} (h : Best n rows C f) {a b : Nat} (ha : a < n) (hb : b < n) (hab : a ≠ b) :
    C a (f a) + C b (f b) ≤ C a (f b) + C b (f a) ∧ (C a (f a) + C b (f b) = C a (f b) + C b (f a) → a < rows → a < b → f a < f b) := by
  have hB := h.bij.swp ha hb
  have h1 := h.least _ hB
  have h2 := cst_swp (C := C) (f := f) ha hb hab
  refine ⟨by omega, fun he har hlt => ?_⟩
  rcases h.first _ hB (by omega) with h3 | ⟨i, hi, h3, h4⟩
  · have := h3 a har
    rw [swp_a] at this
    exact absurd (h.bij.inj _ _ hb ha this) (by omega)
  · rcases Nat.lt_trichotomy i a with h5 | h5 | h5
    · rw [swp_o (by omega) (by omega)] at h4; omega
    · rw [h5, swp_a] at h4; exact h4
    · have := h3 a h5
      rw [swp_a] at this
      exact absurd (h.bij.inj _ _ hb ha this) (by omega)
end Go.Pr
