/-
  Proved: PairingKnown, PairingTells, PairingLeast, PairingMoved.
-/
import Derived.Test.YtcfdmenmlemahaaTP17o
import Derived.Test.YtcfdmenmlemahaaTG27
namespace Go.Proofs.Ytcfdmenmlemahaa
open Go.ChangeShapes Go.WideShapes Go.ChangeAt Go.RowKit Go.Lk
set_option maxRecDepth 100000 in
theorem pairingMoved_lifted (os : Os) (started : os.Started) (H : Type) (enc : TypeId × Value → H) :
    ReturnsInHanded {} Try.checked os 4 .any (Rows.pairingMovedSpec.pre6 enc Try.prog Try.f4 Rows.pairingMovedRow.domain false) (Rows.pairingMovedSpec.post enc Try.prog Try.f4 false true false false) := by
  refine returnsInHanded_of_change_shaped (C := Try.checked) Try.ownB started (by kernel_rfl) Try.func4
    (ChangeSpec.witness6 (enc := enc) (C := Try.checked) false ⟨#[], #[.slice none 0 0, .int .i64 0, .int .i64 0, .int .i64 0, .int .i64 0, .slice none 0 0], []⟩ 8 (by kernel_rfl) (by kernel_rfl) (by kernel_rfl) (by kernel_rfl)) ?_
  intro W base args ds gs before hval0 hW hcnd hwt0 _ _
  have hval : ∀ (j : Nat) t v, Try.f4.params[j]? = some t → args[j]? = some v → Value.okWide Try.prog W .any base t v := hval0
  have hwt : (DataW.weightsEach Try.prog (Try.f4.params.toList ++ []) (ds ++ gs)).all (· ≤ reachBytes) = true := hwt0
  have hW' := hW
  obtain ⟨p, q, hA0, hV, rfl, hfz, hnd⟩ := hW
  have hA : DataW.TrodAll enc Try.prog W 0 (fun _ => true) true Try.f4.params.toList args.toList ds p := hA0
  rw [Try.params4] at hA hval hwt
  obtain ⟨v0, vs0, d0, ds0, p0, q0, hargs, rfl, rfl, h0, r0⟩ := trodAll_cons hA
  obtain ⟨v1, vs1, d1, ds1, p1, q1, rfl, rfl, rfl, h1, r1⟩ := trodAll_cons r0
  obtain ⟨v2, vs2, d2, ds2, p2, q2, rfl, rfl, rfl, h2, r2⟩ := trodAll_cons r1
  obtain ⟨v3, vs3, d3, ds3, p3, q3, rfl, rfl, rfl, h3, r3⟩ := trodAll_cons r2
  obtain ⟨v4, vs4, d4, ds4, p4, q4, rfl, rfl, rfl, h4, r4⟩ := trodAll_cons r3
  obtain ⟨v5, vs5, d5, ds5, p5, q5, rfl, rfl, rfl, h5, r5⟩ := trodAll_cons r4
  obtain ⟨rfl, rfl, rfl⟩ := trodAll_nil r5
  obtain rfl : args = #[v0, v1, v2, v3, v4, v5] := by cases args; simp_all
  obtain ⟨rfl, rfl⟩ := trodVars_none hV
  obtain ⟨m1, rfl, rfl, rfl, _⟩ := open_int Try.underlying3 (hval 1 3 v1 rfl rfl) h1
  obtain ⟨m2, rfl, rfl, rfl, _⟩ := open_int Try.underlying2 (hval 2 2 v2 rfl rfl) h2
  obtain ⟨m3, rfl, rfl, rfl, _⟩ := open_int Try.underlying3 (hval 3 3 v3 rfl rfl) h3
  obtain ⟨m4, rfl, rfl, rfl, _⟩ := open_int Try.underlying3 (hval 4 3 v4 rfl rfl) h4
  have hlt : Light Try.prog 22 d0 := fun n hn => by
    have := List.all_eq_true.1 hwt n (by simp [DataW.weightsEach, DataW.weights, hn])
    exact of_decide_eq_true this
  have hlt5 : Light Try.prog 38 d5 := fun n hn => by
    have := List.all_eq_true.1 hwt n (by simp [DataW.weightsEach, DataW.weights, hn])
    exact of_decide_eq_true this
  obtain ⟨fuel, h0'⟩ := h0
  obtain ⟨fuel5, h5'⟩ := h5
  obtain ⟨a, c, rows, rvs, hcs, hc, hk, hr⟩ := open_rowsI Try.underlying22 (by kernel_rfl) Try.underlying38 (by kernel_rfl) Try.underlying2 (by kernel_rfl) (by kernel_rfl) h0' hlt
  obtain rfl : v0 = .slice a rows.length c := slice_cells (Lk.okWide_slice Try.underlying22 (hval 0 22 v0 rfl rfl)) hcs
  obtain ⟨a5, c5, xs, hcs5, hc5, hk5, hx5, _⟩ := open_ints' Try.underlying38 Try.underlying2 (by kernel_rfl) h5' hlt5
  obtain rfl : v5 = .slice a5 xs.length c5 := slice_cells (Lk.okWide_slice Try.underlying38 (hval 5 38 v5 rfl rfl)) hcs5
  have h8 : xs.length * 8 ≤ 140737488351232 := hk5
  exact law_calls Try.laidB (by kernel_rfl) rfl rfl Try.underlying4 hW' rfl (moved_law a rows.length c rows rvs m1 m2 m3 m4 a5 xs.length c5 xs W hr rfl (by omega) hx5 rfl (by omega))
theorem pairingMoved_holds : Rows.PairingMovedSaid :=
  OpenClaim.holds_of_wide 4 Try.f4 rfl rfl rfl rfl rfl rfl rfl ⟨rfl, rfl, rfl, rfl, rfl⟩ rfl rfl rfl rfl rfl (by kernel_rfl) Try.func4 (by kernel_rfl)
    (of_decide_eq_true (by kernel_rfl)) (by unfold Func.isWrapper; first | (rw [if_pos (by decide +kernel)]; kernel_rfl) | (rw [if_neg (by decide +kernel)]; exact ⟨rfl, rfl⟩))
    (fun os started H enc _ => pairingMoved_lifted os started H enc)
end Go.Proofs.Ytcfdmenmlemahaa
