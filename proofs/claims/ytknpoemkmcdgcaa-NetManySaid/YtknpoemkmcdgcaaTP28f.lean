/-
 NetMany: more things than are paired: the net's answers are the document's.
-/
import Derived.Test.YtknpoemkmcdgcaaKit
import Derived.Test.YtknpoemkmcdgcaaTNM
import Derived.Test.YtknpoemkmcdgcaaTNY
import Derived.HandedShaped
namespace Go.Proofs.Ytknpoemkmcdgcaa
open Go.ChangeShapes Go.WideShapes Go.ChangeAt Go.RowKit Go.Lk
set_option maxRecDepth 100000 in
theorem netMany_lifted (os : Os) (started : os.Started) (H : Type) (enc : TypeId × Value → H) :
  ReturnsInHanded {} Try.checked os 4 .any (Rows.netManySpec.pre6 enc Try.prog Try.f4 Rows.netManyRow.domain false) (Rows.netManySpec.post enc Try.prog Try.f4 false true false false) := by
 refine returnsInHanded_of_change (C := Try.checked) Try.ownB started (by kernel_rfl) Try.func4
  (ChangeSpec.witness6 (enc := enc) (C := Try.checked) false ⟨#[], #[], []⟩ 8 (by kernel_rfl) (by kernel_rfl) (by kernel_rfl) (by kernel_rfl)) ?_
 intro W base args ds gs before hval0 hW hcnd _
 have hW' := hW
 obtain ⟨p, q, hA0, hV, rfl, hfz, hnd⟩ := hW
 have hA : DataW.TrodAll enc Try.prog W 0 (fun _ => true) true Try.f4.params.toList args.toList ds p := hA0
 rw [Try.params4] at hA
 obtain ⟨rfl, rfl, rfl⟩ := trodAll_none hA
 exact law_calls Try.laidB (by kernel_rfl) rfl rfl Try.underlying4 hW' rfl (many_law W)
theorem netMany_holds : Rows.NetManySaid :=
 OpenClaim.holds_of_wide 4 Try.f4 rfl rfl rfl rfl rfl rfl rfl ⟨rfl, rfl, rfl, rfl, rfl⟩ rfl rfl rfl rfl rfl (by kernel_rfl) Try.func4 (by kernel_rfl)
  (of_decide_eq_true (by kernel_rfl)) (by unfold Func.isWrapper; rw [if_neg (by decide +kernel)]; exact ⟨rfl, rfl⟩)
  (fun os started H enc _ => netMany_lifted os started H enc)
end Go.Proofs.Ytknpoemkmcdgcaa
