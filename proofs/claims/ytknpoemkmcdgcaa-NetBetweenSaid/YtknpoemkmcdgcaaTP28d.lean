/-
  NetBetween: for every input the statement returns true and leaves its input as it was.
-/
import Derived.Test.YtknpoemkmcdgcaaKit
import Derived.Test.YtknpoemkmcdgcaaTNP
import Derived.Test.YtknpoemkmcdgcaaTNU
import Derived.HandedShaped
namespace Go.Proofs.Ytknpoemkmcdgcaa
open Go.ChangeShapes Go.WideShapes Go.ChangeAt Go.RowKit Go.Lk
set_option maxRecDepth 100000 in
theorem netBetween_lifted (os : Os) (started : os.Started) (H : Type) (enc : TypeId × Value → H) :
    ReturnsInHanded {} Try.checked os 8 .any (Rows.netBetweenSpec.pre6 enc Try.prog Try.f8 Rows.netBetweenRow.domain false) (Rows.netBetweenSpec.post enc Try.prog Try.f8 false true false false) := by
  refine returnsInHanded_of_change (C := Try.checked) Try.ownB started (by kernel_rfl) Try.func8
    (ChangeSpec.witness6 (enc := enc) (C := Try.checked) false ⟨#[], #[.agg #[.float .f64 0, .float .f64 0, .float .f64 0, .float .f64 0, .float .f64 0], .agg #[.float .f64 0, .float .f64 0, .float .f64 0, .float .f64 0, .float .f64 0]], []⟩ 8 (by kernel_rfl) (by kernel_rfl) (by kernel_rfl) (by kernel_rfl)) ?_
  intro W base args ds gs before hval0 hW hcnd _
  have hval : ∀ (j : Nat) t v, Try.f8.params[j]? = some t → args[j]? = some v → Value.okWide Try.prog W .any base t v := hval0
  have hW' := hW
  obtain ⟨p, q, hA0, hV, rfl, hfz, hnd⟩ := hW
  have hA : DataW.TrodAll enc Try.prog W 0 (fun _ => true) true Try.f8.params.toList args.toList ds p := hA0
  rw [Try.params8] at hA hval
  obtain ⟨v0, vs0, d0, ds0, p0, q0, hargs, rfl, rfl, h0, r0⟩ := trodAll_cons hA
  obtain ⟨v1, vs1, d1, ds1, p1, q1, rfl, rfl, rfl, h1, r1⟩ := trodAll_cons r0
  obtain ⟨rfl, rfl, rfl⟩ := trodAll_nil r1
  obtain rfl : args = #[v0, v1] := by cases args; simp_all
  obtain ⟨rfl, rfl⟩ := trodVars_none hV
  obtain ⟨fuel, h0'⟩ := h0
  obtain ⟨fuel1, h1'⟩ := h1
  obtain ⟨a, hca, a1, a2, a3, _, a5⟩ := open_state h0'
  obtain ⟨b, hcb, b1, b2, b3, _, b5⟩ := open_state h1'
  obtain rfl : v0 = .agg a.cells.toArray := agg_cells (okWide_struct Try.underlying45 (hval 0 45 v0 rfl rfl)) hca
  obtain rfl : v1 = .agg b.cells.toArray := agg_cells (okWide_struct Try.underlying45 (hval 1 45 v1 rfl rfl)) hcb
  exact law_calls Try.laidB (by kernel_rfl) rfl rfl Try.underlying4 hW' rfl (between_law a b ⟨a1, a2, a3, a5⟩ ⟨b1, b2, b3, b5⟩ W)
theorem netBetween_holds : Rows.NetBetweenSaid :=
  OpenClaim.holds_of_wide 8 Try.f8 rfl rfl rfl rfl rfl rfl rfl ⟨rfl, rfl, rfl, rfl, rfl⟩ rfl rfl rfl rfl rfl (by kernel_rfl) Try.func8 (by kernel_rfl)
    (of_decide_eq_true (by kernel_rfl)) (by unfold Func.isWrapper; first | (rw [if_pos (by decide +kernel)]; kernel_rfl) | (rw [if_neg (by decide +kernel)]; exact ⟨rfl, rfl⟩))
    (fun os started H enc _ => netBetween_lifted os started H enc)
end Go.Proofs.Ytknpoemkmcdgcaa
