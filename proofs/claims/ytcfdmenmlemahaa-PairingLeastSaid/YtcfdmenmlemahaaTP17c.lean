/-
  Proved: PairingLeast, both calls held against all pairings of up to 5 by 5. Conditions: none beyond the given statement's own.
-/
import Derived.Test.YtcfdmenmlemahaaTP17o
import Derived.Test.YtcfdmenmlemahaaTG24
namespace Go.Proofs.Ytcfdmenmlemahaa
open Go.ChangeShapes Go.WideShapes Go.ChangeAt Go.RowKit Go.Lk
set_option maxRecDepth 100000 in
theorem pairingLeast_lifted (os : Os) (started : os.Started) (H : Type) (enc : TypeId × Value → H) :
    ReturnsInHanded {} Try.checked os 3 .any (Rows.pairingLeastSpec.pre6 enc Try.prog Try.f3 Rows.pairingLeastRow.domain false) (Rows.pairingLeastSpec.post enc Try.prog Try.f3 false true false false) := by
  refine returnsInHanded_of_change_shaped (C := Try.checked) Try.ownB started (by kernel_rfl) Try.func3
    (ChangeSpec.witness6 (enc := enc) (C := Try.checked) false ⟨#[], #[.slice none 0 0], []⟩ 8 (by kernel_rfl) (by kernel_rfl) (by kernel_rfl) (by kernel_rfl)) ?_
  intro W base args ds gs before hval0 hW hcnd hwt0 _ _
  have hval : ∀ (j : Nat) t v, Try.f3.params[j]? = some t → args[j]? = some v → Value.okWide Try.prog W .any base t v := hval0
  have hwt : (DataW.weightsEach Try.prog (Try.f3.params.toList ++ []) (ds ++ gs)).all (· ≤ reachBytes) = true := hwt0
  have hW' := hW
  obtain ⟨p, q, hA0, hV, rfl, hfz, hnd⟩ := hW
  have hA : DataW.TrodAll enc Try.prog W 0 (fun _ => true) true Try.f3.params.toList args.toList ds p := hA0
  rw [Try.params3] at hA hval hwt
  obtain ⟨v0, d0, rfl, rfl, h0⟩ := trodAll_one hA
  obtain ⟨rfl, rfl⟩ := trodVars_none hV
  have hlt : Light Try.prog 22 d0 := fun n hn => by
    have := List.all_eq_true.1 hwt n (by simp [DataW.weightsEach, DataW.weights, hn])
    exact of_decide_eq_true this
  obtain ⟨fuel, h0'⟩ := h0
  obtain ⟨a, c, rows, rvs, hcs, hc, hk, hr⟩ := open_rowsI Try.underlying22 (by kernel_rfl) Try.underlying38 (by kernel_rfl) Try.underlying2 (by kernel_rfl) (by kernel_rfl) h0' hlt
  obtain rfl : v0 = .slice a rows.length c := slice_cells (Lk.okWide_slice Try.underlying22 (hval 0 22 v0 rfl rfl)) hcs
  exact law_calls Try.laidB (by kernel_rfl) rfl rfl Try.underlying4 hW' rfl (least_law a rows.length c rows rvs W hr rfl (by omega))
theorem pairingLeast_holds : Rows.PairingLeastSaid :=
  OpenClaim.holds_of_wide 3 Try.f3 rfl rfl rfl rfl rfl rfl rfl ⟨rfl, rfl, rfl, rfl, rfl⟩ rfl rfl rfl rfl rfl (by kernel_rfl) Try.func3 (by kernel_rfl)
    (of_decide_eq_true (by kernel_rfl)) (by unfold Func.isWrapper; first | (rw [if_pos (by decide +kernel)]; kernel_rfl) | (rw [if_neg (by decide +kernel)]; exact ⟨rfl, rfl⟩))
    (fun os started H enc _ => pairingLeast_lifted os started H enc)
end Go.Proofs.Ytcfdmenmlemahaa
