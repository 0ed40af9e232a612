/-
  A part of the proof: what functions that the statement reaches do, or a plain law on what they do. Each theorem holds under its own premises alone.
-/
import Derived.Test.YtoiobncojfeoiaaTUB0
namespace Go.Proofs.Ytoiobncojfeoiaa
open Go Go.Lk
/-! ### The document's Within -/
def nextP (ps : List Pt) (j : Nat) : Pt := ps.getD ((j + 1) % ps.length) (0, 0)
def refOdd (ps : List Pt) (px py : Nat) : Nat → Bool
  | 0 => false
  | j + 1 => refOdd ps px py j != edgeB px py (ps.getD j (0, 0)) (nextP ps j)
theorem odd_ref (ps : List Pt) (px py : Nat) : ∀ j, j < ps.length → oddP ps px py (j + 1) = (refOdd ps px py j != edgeB px py (ps.getD (ps.length - 1) (0, 0)) (ps.getD 0 (0, 0)))
  | 0, _ => rfl
  | j + 1, h => by
    have ih := odd_ref ps px py j (by omega)
    have e1 : oddP ps px py (j + 2) = (oddP ps px py (j + 1) != edgeB px py (ps.getD j (0, 0)) (ps.getD (j + 1) (0, 0))) := rfl
    have e2 : refOdd ps px py (j + 1) = (refOdd ps px py j != edgeB px py (ps.getD j (0, 0)) (ps.getD (j + 1) (0, 0))) := by
      show (_ != edgeB px py _ (nextP ps j)) = _
      unfold nextP; rw [Nat.mod_eq_of_lt h]
    rw [e1, ih, e2]
    cases refOdd ps px py j <;> cases edgeB px py (ps.getD j (0, 0)) (ps.getD (j + 1) (0, 0)) <;> cases edgeB px py (ps.getD (ps.length - 1) (0, 0)) (ps.getD 0 (0, 0)) <;> rfl
theorem odd_all {ps : List Pt} (px py : Nat) (h : 0 < ps.length) : refOdd ps px py ps.length = oddP ps px py ps.length := by
  obtain ⟨m, hm⟩ : ∃ m, ps.length = m + 1 := ⟨ps.length - 1, by omega⟩
  have e := odd_ref ps px py m (by omega)
  rw [hm, e]
  show (_ != edgeB px py _ (nextP ps m)) = _
  unfold nextP; rw [← hm, Nat.mod_self, hm, Nat.add_sub_cancel]
theorem modI {i k : Nat} : ((i : Int) + 1).tmod (k : Int) = (((i + 1) % k : Nat) : Int) := rfl
end Go.Proofs.Ytoiobncojfeoiaa
