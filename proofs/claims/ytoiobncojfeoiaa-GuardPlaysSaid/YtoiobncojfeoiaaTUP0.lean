/-
  A part of the proof: what functions that the statement reaches do, or a plain law on what they do. Each theorem holds under its own premises alone.
-/
import Derived.Test.YtoiobncojfeoiaaTUO
namespace Go.Proofs.Ytoiobncojfeoiaa
open Go Go.Lk
/-! ### Watch, as the kernel can reckon it -/
def insI (x : Int) : List Int → List Int
  | [] => [x]
  | y :: l => if x ≤ y then x :: y :: l else y :: insI x l
def insS : List Int → List Int
  | [] => []
  | x :: l => insI x (insS l)
theorem insI_perm (x : Int) : ∀ l, (insI x l).Perm (x :: l)
  | [] => .refl _
  | y :: l => by
    unfold insI
    split
    · exact .refl _
    · exact (List.Perm.cons y (insI_perm x l)).trans (.swap ..)
theorem insS_perm : ∀ l, (insS l).Perm l
  | [] => .refl _
  | x :: l => (insI_perm x _).trans (.cons x (insS_perm l))
theorem insI_sorted (x : Int) : ∀ {l : List Int}, l.Pairwise (· ≤ ·) → (insI x l).Pairwise (· ≤ ·)
  | [], _ => by simp [insI]
  | y :: l, h => by
    rw [List.pairwise_cons] at h
    unfold insI
    split
    · next hxy =>
      refine List.pairwise_cons.2 ⟨fun z hz => ?_, List.pairwise_cons.2 h⟩
      rcases List.mem_cons.1 hz with rfl | hz
      · exact hxy
      · exact Int.le_trans hxy (h.1 z hz)
    · next hxy =>
      refine List.pairwise_cons.2 ⟨fun z hz => ?_, insI_sorted x h.2⟩
      rcases List.mem_cons.1 ((insI_perm x l).mem_iff.1 hz) with rfl | hz
      · omega
      · exact h.1 z hz
theorem insS_sorted : ∀ l : List Int, (insS l).Pairwise (· ≤ ·)
  | [] => List.Pairwise.nil
  | x :: l => insI_sorted x (insS_sorted l)
theorem isort_sorted (xs : List Int) : (isort xs).Pairwise (· ≤ ·) := by
  have := List.pairwise_mergeSort (le := fun x y : Int => decide (x ≤ y)) (fun a b c h1 h2 => by simp at *; omega) (fun a b => by simp; omega) xs
  exact this.imp (by simp)
theorem isort_ins (xs : List Int) : isort xs = insS xs :=
  List.Perm.eq_of_pairwise (fun a b _ _ h1 h2 => Int.le_antisymm h1 h2) (isort_sorted xs) (insS_sorted xs) ((isort_perm xs).trans (insS_perm xs).symm)
def idsC (fe : List FE) (es : List KE) (z : Int) : List Int := insS (fe.map (·.1) ++ (es.filter (goneB fe z)).map (·.1.2))
def zoneStepC (far time : Nat) (fe : List FE) (s : WS) (z : Zn) : WS := (idsC fe s.es z.num).foldl (idStep far time fe z) s
def watchC (far time : Nat) (zs : List Zn) (es : List KE) (ck : Nat) (ts : List Tk) : WS := zs.foldl (zoneStepC far time (firmE ts).1) ⟨[], nearE (firmE ts).1 es, ck⟩
theorem watch_C (far time : Nat) (zs : List Zn) (es : List KE) (ck : Nat) (ts : List Tk) : watchF far time zs es ck ts = watchC far time zs es ck ts := by
  have h : zoneStep far time (firmE ts).1 = zoneStepC far time (firmE ts).1 := by
    funext s z
    unfold zoneStep zoneStepC idsOf idsC
    rw [isort_ins]
  unfold watchF watchC
  rw [h]
end Go.Proofs.Ytoiobncojfeoiaa
