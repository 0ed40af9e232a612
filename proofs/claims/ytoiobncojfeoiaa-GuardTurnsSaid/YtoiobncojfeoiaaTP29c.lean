/-
  GuardTurns: for any width, any zones and any looks: of each zone and track entering and leaving come in turns, who is in is who entered last, the same again tells no more than that who left is coming, a third time nothing; what comes in reads behind the call as it did.
-/
import Derived.Test.YtoiobncojfeoiaaKit
import Derived.Test.YtoiobncojfeoiaaTUY
import Derived.HandedShaped
namespace Go.Proofs.Ytoiobncojfeoiaa
open Go.ChangeShapes Go.WideShapes Go.ChangeAt Go.RowKit Go.Lk
set_option maxRecDepth 100000 in
theorem guardTurns_lifted (os : Os) (started : os.Started) (H : Type) (enc : TypeId × Value → H) :
    ReturnsInHanded {} Try.checked os 4 .any (Rows.guardTurnsSpec.pre6 enc Try.prog Try.f4 Rows.guardTurnsRow.domain false) (Rows.guardTurnsSpec.post enc Try.prog Try.f4 false true false false) := by
  refine returnsInHanded_of_change_shaped (C := Try.checked) Try.ownB started (by kernel_rfl) Try.func4
    (ChangeSpec.witness6 (enc := enc) (C := Try.checked) false ⟨#[], #[.float .f64 0, .slice none 0 0, .slice none 0 0], []⟩ 8 (by kernel_rfl) (by kernel_rfl) (by kernel_rfl) (by kernel_rfl)) ?_
  intro W base args ds gs before hval0 hW hcnd hwt0 _ _
  have hval : ∀ (j : Nat) t v, Try.f4.params[j]? = some t → args[j]? = some v → Value.okWide Try.prog W .any base t v := hval0
  have hwt : (DataW.weightsEach Try.prog (Try.f4.params.toList ++ []) (ds ++ gs)).all (· ≤ reachBytes) = true := hwt0
  have hW' := hW
  obtain ⟨p, q, hA0, hV, rfl, hfz, hnd⟩ := hW
  have hA : DataW.TrodAll enc Try.prog W 0 (fun _ => true) true Try.f4.params.toList args.toList ds p := hA0
  rw [Try.params4] at hA hval hwt
  obtain ⟨v0, v1, v2, d0, d1, d2, p0, p1, p2, rfl, rfl, rfl, h0, h1, h2⟩ := trodAll_three hA
  obtain ⟨rfl, rfl⟩ := trodVars_none hV
  obtain ⟨far, rfl, rfl, rfl, wf⟩ := open_float Try.underlying23 (hval 0 23 v0 rfl rfl) h0
  obtain ⟨fuel1, h1'⟩ := h1
  obtain ⟨fuel2, h2'⟩ := h2
  have hlt1 : Light Try.prog 31 d1 := fun n hn => by
    have := List.all_eq_true.1 hwt n (by simp [DataW.weightsEach, DataW.weights, hn])
    exact of_decide_eq_true this
  have hlt2 : Light Try.prog 32 d2 := fun n hn => by
    have := List.all_eq_true.1 hwt n (by simp [DataW.weightsEach, DataW.weights, hn])
    exact of_decide_eq_true this
  obtain ⟨a1, t1, c1, hc1, hm1, hs1, hl1⟩ := open_zones h1' hlt1
  obtain rfl : v1 = .slice a1 t1.length c1 := slice_cells (Lk.okWide_slice Try.underlying31 (hval 1 31 v1 rfl rfl)) hc1
  obtain ⟨a2, t2, c2, hc2, hm2, hs2, hl2⟩ := open_looks h2' hlt2
  obtain rfl : v2 = .slice a2 t2.length c2 := slice_cells (Lk.okWide_slice Try.underlying32 (hval 2 32 v2 rfl rfl)) hc2
  exact law_calls Try.laidB (by kernel_rfl) rfl rfl Try.underlying4 hW' rfl (turns_law far a1 a2 c1 c2 t1 t2 W (by simpa [Lit.wf] using wf) hs1 hs2 hm1 hm2 hl1 hl2)
theorem guardTurns_holds : Rows.GuardTurnsSaid :=
  OpenClaim.holds_of_wide 4 Try.f4 rfl rfl rfl rfl rfl rfl rfl ⟨rfl, rfl, rfl, rfl, rfl⟩ rfl rfl rfl rfl rfl (by kernel_rfl) Try.func4 (by kernel_rfl)
    (of_decide_eq_true (by kernel_rfl)) (by unfold Func.isWrapper; first | (rw [if_pos (by decide +kernel)]; kernel_rfl) | (rw [if_neg (by decide +kernel)]; exact ⟨rfl, rfl⟩))
    (fun os started H enc _ => guardTurns_lifted os started H enc)
end Go.Proofs.Ytoiobncojfeoiaa
