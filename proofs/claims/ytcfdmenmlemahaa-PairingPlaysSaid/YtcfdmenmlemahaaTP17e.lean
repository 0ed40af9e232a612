/-
  Proved: PairingPlays: for any table and any list of mates the three answers are the document's, and what came in stays as it was. Its conditions: none beyond the statement's.
-/
import Derived.Test.YtcfdmenmlemahaaTP17o
import Derived.Test.YtcfdmenmlemahaaTRO
namespace Go.Proofs.Ytcfdmenmlemahaa
open Go.ChangeShapes Go.WideShapes Go.ChangeAt Go.RowKit Go.Lk
set_option maxRecDepth 100000 in
theorem pairingPlays_lifted (os : Os) (started : os.Started) (H : Type) (enc : TypeId × Value → H) :
    ReturnsInHanded {} Try.checked os 5 .any (Rows.pairingPlaysSpec.pre6 enc Try.prog Try.f5 Rows.pairingPlaysRow.domain false) (Rows.pairingPlaysSpec.post enc Try.prog Try.f5 false true false false) := by
  refine returnsInHanded_of_change_shaped (C := Try.checked) Try.ownB started (by kernel_rfl) Try.func5
    (ChangeSpec.witness6 (enc := enc) (C := Try.checked) false ⟨#[], #[.slice none 0 0, .slice none 0 0], []⟩ 8 (by kernel_rfl) (by kernel_rfl) (by kernel_rfl) (by kernel_rfl)) ?_
  intro W base args ds gs before hval0 hW hcnd hwt0 _ _
  have hval : ∀ (j : Nat) t v, Try.f5.params[j]? = some t → args[j]? = some v → Value.okWide Try.prog W .any base t v := hval0
  have hwt : (DataW.weightsEach Try.prog (Try.f5.params.toList ++ []) (ds ++ gs)).all (· ≤ reachBytes) = true := hwt0
  have hW' := hW
  obtain ⟨p, q, hA0, hV, rfl, hfz, hnd⟩ := hW
  have hA : DataW.TrodAll enc Try.prog W 0 (fun _ => true) true Try.f5.params.toList args.toList ds p := hA0
  rw [Try.params5] at hA hval hwt
  obtain ⟨v0, vs0, d0, ds0, p0, q0, hargs, rfl, rfl, h0, r0⟩ := trodAll_cons hA
  obtain ⟨v1, vs1, d1, ds1, p1, q1, rfl, rfl, rfl, h1, r1⟩ := trodAll_cons r0
  obtain ⟨rfl, rfl, rfl⟩ := trodAll_nil r1
  obtain rfl : args = #[v0, v1] := by cases args; simp_all
  obtain ⟨rfl, rfl⟩ := trodVars_none hV
  have hlt : Light Try.prog 22 d0 := fun n hn => by
    have := List.all_eq_true.1 hwt n (by simp [DataW.weightsEach, DataW.weights, hn])
    exact of_decide_eq_true this
  have hlt1 : Light Try.prog 25 d1 := fun n hn => by
    have := List.all_eq_true.1 hwt n (by simp [DataW.weightsEach, DataW.weights, hn])
    exact of_decide_eq_true this
  obtain ⟨fuel, h0'⟩ := h0
  obtain ⟨fuel1, h1'⟩ := h1
  obtain ⟨a, c, rows, rvs, hcs, hc, hk, hr⟩ := open_rowsI Try.underlying22 (by kernel_rfl) Try.underlying38 (by kernel_rfl) Try.underlying2 (by kernel_rfl) (by kernel_rfl) h0' hlt
  obtain rfl : v0 = .slice a rows.length c := slice_cells (Lk.okWide_slice Try.underlying22 (hval 0 22 v0 rfl rfl)) hcs
  obtain ⟨a5, c5, xs, hcs5, hc5, hk5, hx5, _⟩ := open_ints' Try.underlying25 Try.underlying3 (by kernel_rfl) h1' hlt1
  obtain rfl : v1 = .slice a5 xs.length c5 := slice_cells (Lk.okWide_slice Try.underlying25 (hval 1 25 v1 rfl rfl)) hcs5
  have h8 : xs.length * 8 ≤ 140737488351232 := hk5
  exact law_calls Try.laidB (by kernel_rfl) rfl rfl Try.underlying4 hW' rfl (plays_law a rows.length c rows rvs a5 xs.length c5 xs W hr rfl (by omega) hx5 rfl (by omega))
theorem pairingPlays_holds : Rows.PairingPlaysSaid :=
  OpenClaim.holds_of_wide 5 Try.f5 rfl rfl rfl rfl rfl rfl rfl ⟨rfl, rfl, rfl, rfl, rfl⟩ rfl rfl rfl rfl rfl (by kernel_rfl) Try.func5 (by kernel_rfl)
    (of_decide_eq_true (by kernel_rfl)) (by unfold Func.isWrapper; first | (rw [if_pos (by decide +kernel)]; kernel_rfl) | (rw [if_neg (by decide +kernel)]; exact ⟨rfl, rfl⟩))
    (fun os started H enc _ => pairingPlays_lifted os started H enc)
end Go.Proofs.Ytcfdmenmlemahaa
