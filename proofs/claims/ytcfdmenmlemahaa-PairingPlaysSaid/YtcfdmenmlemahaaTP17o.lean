/-
  A part of the proof: what functions that the statement reaches do, or a plain law on what they do. Each theorem holds under its own premises alone.
-/
import Derived.Test.YtcfdmenmlemahaaKit
import Derived.Test.YtcfdmenmlemahaaTG7
import Derived.HandedShaped
namespace Go.Proofs.Ytcfdmenmlemahaa
open Go.ChangeShapes Go.WideShapes Go.ChangeAt Go.RowKit Go.Lk
section
variable {H : Type} {P : Program} {w : World} {base : Nat} {spare : Nat → Bool} {held : Bool} {enc : TypeId × Value → H}
theorem rowsI_of {vs : List Value} (h : ∀ v ∈ vs, ∃ a c xs, v = .slice a (List.length xs) c ∧ xs.length ≤ c ∧ xs.length ≤ 17592186043904 ∧ SlC w a (il xs)) :
    ∃ rows : List (List Int), vs.length = rows.length ∧ ∀ i, i < rows.length → ∃ ai ci, vs[i]? = some (.slice ai (rows.getD i []).length ci) ∧ (rows.getD i []).length ≤ ci ∧ (rows.getD i []).length ≤ 17592186043904 ∧ SlC w ai (il (rows.getD i [])) := by
  induction vs with
  | nil => exact ⟨[], rfl, by simp⟩
  | cons v vs ih =>
    obtain ⟨a, c, xs, rfl, h1, h2, h3⟩ := h v (by simp)
    obtain ⟨rows, h4, h5⟩ := ih (fun u hu => h u (by simp [hu]))
    refine ⟨xs :: rows, by simp [h4], fun i hi => ?_⟩
    cases i with
    | zero => exact ⟨a, c, by simp, by simpa using h1, h2, by simpa using h3⟩
    | succ i => simpa using h5 i (by simpa using hi)
theorem open_rowsI {t e e' : TypeId} {fuel : Nat} {cs : List Value} {x : DataW H × List MemPlace} (ht : P.underlying t = some (.slice e)) (hc : P.cellsOf e = 1) (he : P.underlying e = some (.slice e')) (hc' : P.cellsOf e' = 1) (he' : P.underlying e' = some (.int .i64)) (hb : P.bytesOf e = 24) (hb' : P.bytesOf e' = 8)
    (h : DataW.trod enc P w base spare held fuel t cs = some x) (hw : Light P t x.1) :
    ∃ a c rows rvs, cs = [.slice a (List.length rows) c] ∧ rows.length ≤ c ∧ rows.length ≤ 5864062014634 ∧ RowsI w a rows rvs := by
  obtain ⟨a, k, c, vs, rfl, rfl, h1, h2, h3, h4⟩ := open_row ht hc h hw
  obtain ⟨rows, h5, h6⟩ := rowsI_of (w := w) (vs := vs) (fun v hv => by
    obtain ⟨n, y, h7, hl⟩ := h4 v hv
    obtain ⟨a, c, xs, h8, h9, h10, h11, _⟩ := open_ints' he he' hc' h7 hl
    simp at h8
    exact ⟨a, c, xs, h8, h9, by rw [hb'] at h10; omega, h11⟩)
  rw [hb] at h2
  exact ⟨a, c, rows, vs, by rw [h5], by rw [← h5]; exact h1, by omega, h3, h5, h6⟩
end
theorem Try.ownB : ownKnob Try.prog.godebug = none := by kernel_rfl
theorem Try.laidB : laidOutB Try.prog = true := by kernel_rfl
end Go.Proofs.Ytcfdmenmlemahaa
