/-
  NetAlone: for every input the statement returns true and leaves its input as it was.
-/
import Derived.Test.YtknpoemkmcdgcaaKit
import Derived.Test.YtknpoemkmcdgcaaTNP
import Derived.Test.YtknpoemkmcdgcaaTNQ
import Derived.HandedShaped
namespace Go.Proofs.Ytknpoemkmcdgcaa
open Go.ChangeShapes Go.WideShapes Go.ChangeAt Go.RowKit Go.Lk
set_option maxRecDepth 100000 in
theorem netAlone_lifted (os : Os) (started : os.Started) (H : Type) (enc : TypeId × Value → H) :
    ReturnsInHanded {} Try.checked os 9 .any (Rows.netAloneSpec.pre6 enc Try.prog Try.f9 Rows.netAloneRow.domain false) (Rows.netAloneSpec.post enc Try.prog Try.f9 false true false false) := by
  refine returnsInHanded_of_change_shaped (C := Try.checked) Try.ownB started (by kernel_rfl) Try.func9
    (ChangeSpec.witness6 (enc := enc) (C := Try.checked) false ⟨#[], #[.float .f64 0, .agg #[.float .f64 0, .float .f64 0, .float .f64 0], .slice none 0 0, .slice none 0 0], []⟩ 8 (by kernel_rfl) (by kernel_rfl) (by kernel_rfl) (by kernel_rfl)) ?_
  intro W base args ds gs before hval0 hW hcnd hwt0 _ _
  have hval : ∀ (j : Nat) t v, Try.f9.params[j]? = some t → args[j]? = some v → Value.okWide Try.prog W .any base t v := hval0
  have hwt : (DataW.weightsEach Try.prog (Try.f9.params.toList ++ []) (ds ++ gs)).all (· ≤ reachBytes) = true := hwt0
  have hW' := hW
  obtain ⟨p, q, hA0, hV, rfl, hfz, hnd⟩ := hW
  have hA : DataW.TrodAll enc Try.prog W 0 (fun _ => true) true Try.f9.params.toList args.toList ds p := hA0
  rw [Try.params9] at hA hval hwt
  obtain ⟨v0, vs0, d0, ds0, p0, q0, hargs, rfl, rfl, h0, r0⟩ := trodAll_cons hA
  obtain ⟨v1, vs1, d1, ds1, p1, q1, rfl, rfl, rfl, h1, r1⟩ := trodAll_cons r0
  obtain ⟨v2, vs2, d2, ds2, p2, q2, rfl, rfl, rfl, h2, r2⟩ := trodAll_cons r1
  obtain ⟨v3, vs3, d3, ds3, p3, q3, rfl, rfl, rfl, h3, r3⟩ := trodAll_cons r2
  obtain ⟨rfl, rfl, rfl⟩ := trodAll_nil r3
  obtain rfl : args = #[v0, v1, v2, v3] := by cases args; simp_all
  obtain ⟨rfl, rfl⟩ := trodVars_none hV
  obtain ⟨far, rfl, rfl, rfl, wf⟩ := open_float Try.underlying22 (hval 0 22 v0 rfl rfl) h0
  obtain ⟨fuel1, h1'⟩ := h1
  obtain ⟨fuel2, h2'⟩ := h2
  obtain ⟨fuel3, h3'⟩ := h3
  have hlt2 : Light Try.prog 38 d2 := fun n hn => by
    have := List.all_eq_true.1 hwt n (by simp [DataW.weightsEach, DataW.weights, hn])
    exact of_decide_eq_true this
  have hlt3 : Light Try.prog 38 d3 := fun n hn => by
    have := List.all_eq_true.1 hwt n (by simp [DataW.weightsEach, DataW.weights, hn])
    exact of_decide_eq_true this
  obtain ⟨sx, sy, st, hc1, wx, wy, wt⟩ := open_site h1'
  obtain rfl : v1 = .agg #[.float .f64 sx, .float .f64 sy, .float .f64 st] := agg_cells (okWide_struct Try.underlying37 (hval 1 37 v1 rfl rfl)) hc1
  obtain ⟨a2, t2, c2, hc2, _, hm2, hs2, hl2⟩ := open_tracks h2' hlt2
  obtain ⟨a3, t3, c3, hc3, _, hm3, hs3, hl3⟩ := open_tracks h3' hlt3
  obtain rfl : v2 = .slice a2 t2.length c2 := slice_cells (Lk.okWide_slice Try.underlying38 (hval 2 38 v2 rfl rfl)) hc2
  obtain rfl : v3 = .slice a3 t3.length c3 := slice_cells (Lk.okWide_slice Try.underlying38 (hval 3 38 v3 rfl rfl)) hc3
  exact law_calls Try.laidB (by kernel_rfl) rfl rfl Try.underlying4 hW' rfl (alone_law far sx sy st a2 a3 t2.length c2 t3.length c3 t2 t3 W (flt_wf wf) wx wy wt hs2 rfl hm2 hl2 hs3 rfl hm3 hl3)
theorem netAlone_holds : Rows.NetAloneSaid :=
  OpenClaim.holds_of_wide 9 Try.f9 rfl rfl rfl rfl rfl rfl rfl ⟨rfl, rfl, rfl, rfl, rfl⟩ rfl rfl rfl rfl rfl (by kernel_rfl) Try.func9 (by kernel_rfl)
    (of_decide_eq_true (by kernel_rfl)) (by unfold Func.isWrapper; first | (rw [if_pos (by decide +kernel)]; kernel_rfl) | (rw [if_neg (by decide +kernel)]; exact ⟨rfl, rfl⟩))
    (fun os started H enc _ => netAlone_lifted os started H enc)
end Go.Proofs.Ytknpoemkmcdgcaa
