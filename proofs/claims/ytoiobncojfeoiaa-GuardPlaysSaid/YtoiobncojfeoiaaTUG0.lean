/-
  A part of the proof: what functions that the statement reaches do, or a plain law on what they do. Each theorem holds under its own premises alone.
-/
import Derived.Test.YtoiobncojfeoiaaTUS
namespace Go.Proofs.Ytoiobncojfeoiaa
open Go Go.Lk
/-! ### A map, gone through -/
theorem filter_lt {α : Type} {p q : α → Bool} : ∀ {l : List α}, (∀ x ∈ l, p x = true → q x = true) → (∃ x ∈ l, q x = true ∧ p x = false) → (l.filter p).length < (l.filter q).length
  | [], _, ⟨x, hx, _⟩ => by cases hx
  | y :: l, h, ⟨x, hx, hq, hp⟩ => by
    have hle : (l.filter p).length ≤ (l.filter q).length := by
      have h' : ∀ {l : List α}, (∀ x ∈ l, p x = true → q x = true) → (l.filter p).length ≤ (l.filter q).length := by
        intro l hl
        induction l with
        | nil => exact Nat.le_refl _
        | cons z l ih =>
          have ih' := ih (fun x hx => hl x (List.mem_cons_of_mem _ hx))
          have hz := hl z (List.mem_cons_self ..)
          cases h1 : p z <;> cases h2 : q z <;> simp [h1, h2] at hz ⊢ <;> omega
      exact h' (fun x hx => h x (List.mem_cons_of_mem _ hx))
    rcases List.mem_cons.1 hx with rfl | hx
    · simp [hq, hp]; omega
    · have ih := filter_lt (p := p) (q := q) (l := l) (fun x hx => h x (List.mem_cons_of_mem _ hx)) ⟨x, hx, hq, hp⟩
      have hy := h y (List.mem_cons_self ..)
      cases h1 : p y <;> cases h2 : q y <;> simp [h1, h2] at hy ⊢ <;> omega
def unseen {κ ν : Type} (seen : List Nat) (es : List (κ × ν × Nat)) : List (κ × ν × Nat) := es.filter fun x => !seen.contains x.2.2
theorem unseen_lt {κ ν : Type} {seen : List Nat} {es : List (κ × ν × Nat)} {x : κ × ν × Nat} (hx : x ∈ es) (hs : x.2.2 ∉ seen) : (unseen (seen ++ [x.2.2]) es).length < (unseen seen es).length :=
  filter_lt (fun y _ hy => by simp at hy ⊢; exact hy.1) ⟨x, hx, by simp [hs], by simp⟩
theorem nodup_of_map {α β : Type} {f : α → β} : ∀ {l : List α}, (l.map f).Nodup → l.Nodup
  | [], _ => List.nodup_nil
  | x :: l, h => by
    rw [List.map_cons, List.nodup_cons] at h
    exact List.nodup_cons.2 ⟨fun hx => h.1 (List.mem_map.2 ⟨x, hx, rfl⟩), nodup_of_map h.2⟩
theorem perm_nodup {α : Type} : ∀ {l m : List α}, l.Nodup → m.Nodup → (∀ x, x ∈ l ↔ x ∈ m) → l.Perm m
  | [], m, _, _, h => by
    cases m with
    | nil => exact .nil
    | cons y m => exact absurd ((h y).2 (List.mem_cons_self ..)) (by simp)
  | x :: l, m, hl, hm, h => by
    obtain ⟨a, b, rfl⟩ := List.append_of_mem ((h x).1 (List.mem_cons_self ..))
    have hp : (a ++ x :: b).Perm (x :: (a ++ b)) := List.perm_middle
    have hm' := hp.nodup_iff.1 hm
    rw [List.nodup_cons] at hl hm'
    refine (List.Perm.cons x (perm_nodup hl.2 hm'.2 fun y => ?_)).trans hp.symm
    have h1 := h y
    rw [hp.mem_iff, List.mem_cons, List.mem_cons] at h1
    constructor
    · intro hy
      rcases h1.1 (.inr hy) with rfl | h2
      · exact absurd hy hl.1
      · exact h2
    · intro hy
      rcases h1.2 (.inr hy) with rfl | h2
      · exact absurd hy hm'.1
      · exact h2
/-- what was visited, when nothing is left -/
theorem all_seen {κ ν : Type} {es vis : List (κ × ν × Nat)} (hb : (es.map (·.2.2)).Nodup) (hv : vis.Nodup) (hsub : ∀ x ∈ vis, x ∈ es) (hall : ∀ x ∈ es, x.2.2 ∈ vis.map (·.2.2)) : vis.Perm es := by
  refine perm_nodup hv (nodup_of_map hb) fun x => ⟨hsub x, fun hx => ?_⟩
  obtain ⟨y, hy, hyx⟩ := List.mem_map.1 (hall x hx)
  have : y = x := by
    obtain ⟨i, hi, rfl⟩ := List.getElem_of_mem hx
    obtain ⟨j, hj, rfl⟩ := List.getElem_of_mem (hsub y hy)
    have : j = i := nodup_idx hb (i := j) (j := i) (x := es[i].2.2) (by simp [hyx, hj]) (by simp [hi])
    subst this; rfl
  rw [← this]; exact hy
theorem isort_of_perm {xs ys : List Int} (h : xs.Perm ys) : isort xs = isort ys := by
  have s1 : (isort xs).Pairwise (· ≤ ·) := by
    have := List.pairwise_mergeSort (le := fun x y : Int => decide (x ≤ y)) (fun a b c h1 h2 => by simp at *; omega) (fun a b => by simp; omega) xs
    exact this.imp (by simp)
  have s2 : (isort ys).Pairwise (· ≤ ·) := by
    have := List.pairwise_mergeSort (le := fun x y : Int => decide (x ≤ y)) (fun a b c h1 h2 => by simp at *; omega) (fun a b => by simp; omega) ys
    exact this.imp (by simp)
  exact List.Perm.eq_of_pairwise (fun a b _ _ h1 h2 => Int.le_antisymm h1 h2) s1 s2 ((isort_perm xs).trans (h.trans (isort_perm ys).symm))
end Go.Proofs.Ytoiobncojfeoiaa
