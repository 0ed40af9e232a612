/-
  Proved: the law StillWeighed returns true for every input, and its arguments read behind the call as before. No condition.
-/
import Derived.HandedShaped
import Derived.Test.YtfehgelggjpaaaaTP13a
import Derived.Test.YtfehgelggjpaaaaTZ3
namespace Go.Proofs.Ytfehgelggjpaaaa
open Go.ChangeShapes Go.WideShapes Go.ChangeAt Go.RowKit Go.Lk
theorem agg_of {v : Value} {a b : Value} (h : v.cells.toList = [a, b]) : v = .agg #[a, b] := by
  cases v <;> simp [Value.cells] at h
  rename_i cs
  have : cs = #[a, b] := by rw [← Array.toArray_toList (xs := cs), h]
  rw [this]
set_option maxRecDepth 100000 in
theorem stillWeighed_lifted (os : Os) (started : os.Started) (H : Type) (enc : TypeId × Value → H) :
    ReturnsInHanded {} Try.checked os 4 .any (Rows.stillWeighedSpec.pre6 enc Try.prog Try.f4 Rows.stillWeighedRow.domain false) (Rows.stillWeighedSpec.post enc Try.prog Try.f4 false true false false) := by
  refine returnsInHanded_of_change_shaped (C := Try.checked) Try.own started (by kernel_rfl) Try.func4
    (ChangeSpec.witness6 (enc := enc) (C := Try.checked) false ⟨#[], #[.slice none 0 0, .int .i64 0, .agg #[.int .i64 0, .int .i64 0]], []⟩ 8 (by kernel_rfl) (by kernel_rfl) (by kernel_rfl) (by kernel_rfl)) ?_
  intro W base args ds gs before hval0 hW hcnd hwt0 _ _
  have hval : ∀ (j : Nat) t v, Try.f4.params[j]? = some t → args[j]? = some v → Value.okWide Try.prog W .any base t v := hval0
  have hwt : (DataW.weightsEach Try.prog (Try.f4.params.toList ++ []) (ds ++ gs)).all (· ≤ reachBytes) = true := hwt0
  have hW' := hW
  obtain ⟨p, q, hA0, hV, rfl, hfz, hnd⟩ := hW
  have hA : DataW.TrodAll enc Try.prog W 0 (fun _ => true) true Try.f4.params.toList args.toList ds p := hA0
  rw [Try.params4] at hA hval hwt
  obtain ⟨v0, v1, v2, d0, d1, d2, p0, p1, p2, rfl, rfl, rfl, h0, h1, h2⟩ := trodAll_three hA
  obtain ⟨rfl, rfl⟩ := trodVars_none hV
  obtain ⟨m, rfl, rfl, rfl, wa⟩ := open_int Try.underlying3 (hval 1 3 v1 rfl rfl) h1
  have hlt : Light Try.prog 26 d0 := fun n hn => by
    have := List.all_eq_true.1 hwt n (by simp [DataW.weightsEach, DataW.weights, hn])
    exact of_decide_eq_true this
  obtain ⟨fuel, h0'⟩ := h0
  obtain ⟨fuel2, h2'⟩ := h2
  obtain ⟨a, c, rows, rvs, hcs, hk, hr⟩ := open_rowsP Try.underlying26 (by kernel_rfl) Try.underlying28 Try.underlying27 Try.underlying2 (by kernel_rfl) (by kernel_rfl) (by kernel_rfl) (by kernel_rfl) h0' hlt
  obtain rfl : v0 = .slice a rows.length c := slice_cells (Lk.okWide_slice Try.underlying26 (hval 0 26 v0 rfl rfl)) hcs
  obtain ⟨x, y, hxy, _, _⟩ := open_pair Try.underlying27 Try.underlying2 (by kernel_rfl) (by kernel_rfl) h2'
  obtain rfl := agg_of hxy
  exact law_calls Try.laidOut (by kernel_rfl) rfl rfl Try.underlying4 hW' rfl (weighed_law a c rows rvs m x y W hr hk)
theorem stillWeighed_holds : Rows.StillWeighedSaid :=
  OpenClaim.holds_of_wide 4 Try.f4 rfl rfl rfl rfl rfl rfl rfl ⟨rfl, rfl, rfl, rfl, rfl⟩ rfl rfl rfl rfl rfl (by kernel_rfl) Try.func4 (by kernel_rfl)
    (of_decide_eq_true (by kernel_rfl)) (by unfold Func.isWrapper; first | (rw [if_pos (by decide +kernel)]; kernel_rfl) | (rw [if_neg (by decide +kernel)]; exact ⟨rfl, rfl⟩))
    (fun os started H enc _ => stillWeighed_lifted os started H enc)
end Go.Proofs.Ytfehgelggjpaaaa
