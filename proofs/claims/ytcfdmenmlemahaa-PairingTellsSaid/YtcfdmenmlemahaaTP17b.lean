/-
  Proved: PairingTells, what both calls tell of greater tables. Conditions: none beyond the given statement's own.
-/
import Derived.Test.YtcfdmenmlemahaaKit
import Derived.Test.YtcfdmenmlemahaaTG17
import Derived.HandedShaped
namespace Go.Proofs.Ytcfdmenmlemahaa
open Go.ChangeShapes Go.WideShapes Go.ChangeAt Go.RowKit Go.Lk
section
variable {H : Type} {P : Program} {w : World} {base : Nat} {spare : Nat → Bool} {held : Bool} {enc : TypeId × Value → H}
theorem rowsI_of {vs : List Value} (h : ∀ v ∈ vs, ∃ a c xs, v = .slice a (List.length xs) c ∧ xs.length ≤ c ∧ xs.length ≤ 17592186043904 ∧ SlC w a (il xs)) :
    ∃ rows : List (List Int), vs.length = rows.length ∧ ∀ i, i < rows.length → ∃ ai ci, vs[i]? = some (.slice ai (rows.getD i []).length ci) ∧ (rows.getD i []).length ≤ ci ∧ (rows.getD i []).length ≤ 17592186043904 ∧ SlC w ai (il (rows.getD i [])) := by
  induction vs with
  | nil => exact ⟨[], rfl, by simp⟩
  | cons v vs ih =>
    obtain ⟨a, c, xs, rfl, h1, h2, h3⟩ := h v (by simp)
    obtain ⟨rows, h4, h5⟩ := ih (fun u hu => h u (by simp [hu]))
    refine ⟨xs :: rows, by simp [h4], fun i hi => ?_⟩
    cases i with
    | zero => exact ⟨a, c, by simp, by simpa using h1, h2, by simpa using h3⟩
    | succ i => simpa using h5 i (by simpa using hi)
theorem open_rowsI {t e e' : TypeId} {fuel : Nat} {cs : List Value} {x : DataW H × List MemPlace} (ht : P.underlying t = some (.slice e)) (hc : P.cellsOf e = 1) (he : P.underlying e = some (.slice e')) (hc' : P.cellsOf e' = 1) (he' : P.underlying e' = some (.int .i64)) (hb : P.bytesOf e = 24) (hb' : P.bytesOf e' = 8)
    (h : DataW.trod enc P w base spare held fuel t cs = some x) (hw : Light P t x.1) :
    ∃ a c rows rvs, cs = [.slice a (List.length rows) c] ∧ rows.length ≤ c ∧ rows.length ≤ 5864062014634 ∧ RowsI w a rows rvs := by
  obtain ⟨a, k, c, vs, rfl, rfl, h1, h2, h3, h4⟩ := open_row ht hc h hw
  obtain ⟨rows, h5, h6⟩ := rowsI_of (w := w) (vs := vs) (fun v hv => by
    obtain ⟨n, y, h7, hl⟩ := h4 v hv
    obtain ⟨a, c, xs, h8, h9, h10, h11, _⟩ := open_ints' he he' hc' h7 hl
    simp at h8
    exact ⟨a, c, xs, h8, h9, by rw [hb'] at h10; omega, h11⟩)
  rw [hb] at h2
  exact ⟨a, c, rows, vs, by rw [h5], by rw [← h5]; exact h1, by omega, h3, h5, h6⟩
end
theorem Try.ownB : ownKnob Try.prog.godebug = none := by kernel_rfl
theorem Try.laidB : laidOutB Try.prog = true := by kernel_rfl
set_option maxRecDepth 100000 in
theorem pairingTells_lifted (os : Os) (started : os.Started) (H : Type) (enc : TypeId × Value → H) :
    ReturnsInHanded {} Try.checked os 6 .any (Rows.pairingTellsSpec.pre6 enc Try.prog Try.f6 Rows.pairingTellsRow.domain false) (Rows.pairingTellsSpec.post enc Try.prog Try.f6 false true false false) := by
  refine returnsInHanded_of_change_shaped (C := Try.checked) Try.ownB started (by kernel_rfl) Try.func6
    (ChangeSpec.witness6 (enc := enc) (C := Try.checked) false ⟨#[], #[.slice none 0 0], []⟩ 8 (by kernel_rfl) (by kernel_rfl) (by kernel_rfl) (by kernel_rfl)) ?_
  intro W base args ds gs before hval0 hW hcnd hwt0 _ _
  have hval : ∀ (j : Nat) t v, Try.f6.params[j]? = some t → args[j]? = some v → Value.okWide Try.prog W .any base t v := hval0
  have hwt : (DataW.weightsEach Try.prog (Try.f6.params.toList ++ []) (ds ++ gs)).all (· ≤ reachBytes) = true := hwt0
  have hW' := hW
  obtain ⟨p, q, hA0, hV, rfl, hfz, hnd⟩ := hW
  have hA : DataW.TrodAll enc Try.prog W 0 (fun _ => true) true Try.f6.params.toList args.toList ds p := hA0
  rw [Try.params6] at hA hval hwt
  obtain ⟨v0, d0, rfl, rfl, h0⟩ := trodAll_one hA
  obtain ⟨rfl, rfl⟩ := trodVars_none hV
  have hlt : Light Try.prog 22 d0 := fun n hn => by
    have := List.all_eq_true.1 hwt n (by simp [DataW.weightsEach, DataW.weights, hn])
    exact of_decide_eq_true this
  obtain ⟨fuel, h0'⟩ := h0
  obtain ⟨a, c, rows, rvs, hcs, hc, hk, hr⟩ := open_rowsI Try.underlying22 (by kernel_rfl) Try.underlying38 (by kernel_rfl) Try.underlying2 (by kernel_rfl) (by kernel_rfl) h0' hlt
  obtain rfl : v0 = .slice a rows.length c := slice_cells (Lk.okWide_slice Try.underlying22 (hval 0 22 v0 rfl rfl)) hcs
  exact law_calls Try.laidB (by kernel_rfl) rfl rfl Try.underlying4 hW' rfl (tells_law a rows.length c rows rvs W hr rfl (by omega))
theorem pairingTells_holds : Rows.PairingTellsSaid :=
  OpenClaim.holds_of_wide 6 Try.f6 rfl rfl rfl rfl rfl rfl rfl ⟨rfl, rfl, rfl, rfl, rfl⟩ rfl rfl rfl rfl rfl (by kernel_rfl) Try.func6 (by kernel_rfl)
    (of_decide_eq_true (by kernel_rfl)) (by unfold Func.isWrapper; first | (rw [if_pos (by decide +kernel)]; kernel_rfl) | (rw [if_neg (by decide +kernel)]; exact ⟨rfl, rfl⟩))
    (fun os started H enc _ => pairingTells_lifted os started H enc)
end Go.Proofs.Ytcfdmenmlemahaa
