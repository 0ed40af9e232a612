/-
 TracksSteady holds.
-/
import Derived.Test.YtffobakdngbadaaTKO1
import Derived.Test.YtffobakdngbadaaTKT5
namespace Go.Proofs.Ytffobakdngbadaa
open Go.ChangeShapes Go.WideShapes Go.ChangeAt Go.RowKit Go.Lk
theorem cells22 : Try.prog.cellsOf 22 = 1 := by kernel_rfl
set_option maxRecDepth 100000 in
theorem tracksSteady_lifted (os : Os) (started : os.Started) (H : Type) (enc : TypeId × Value → H) :
  ReturnsInHanded {} Try.checked os 6 .any (Rows.tracksSteadySpec.pre6 enc Try.prog Try.f6 Rows.tracksSteadyRow.domain false) (Rows.tracksSteadySpec.post enc Try.prog Try.f6 false true false false) := by
 refine returnsInHanded_of_change_shaped (C := Try.checked) Try.ownB started (by kernel_rfl) Try.func6
  (ChangeSpec.witness6 (enc := enc) (C := Try.checked) false ⟨#[], #[.agg #[.float .f64 0, .float .f64 0, .float .f64 0, .int .i64 0, .int .i64 0, .int .i64 0], .agg #[.float .f64 0, .float .f64 0, .float .f64 0, .float .f64 0, .float .f64 0], .slice none 0 0], []⟩ 8 (by kernel_rfl) (by kernel_rfl) (by kernel_rfl) (by kernel_rfl)) ?_
 intro W base args ds gs before hval0 hW hcnd hwt0 _ _
 have hval : ∀ (j : Nat) t v, Try.f6.params[j]? = some t → args[j]? = some v → Value.okWide Try.prog W .any base t v := hval0
 have hwt : (DataW.weightsEach Try.prog (Try.f6.params.toList ++ []) (ds ++ gs)).all (· ≤ reachBytes) = true := hwt0
 have hW' := hW
 obtain ⟨p, q, hA0, hV, rfl, hfz, hnd⟩ := hW
 have hA : DataW.TrodAll enc Try.prog W 0 (fun _ => true) true Try.f6.params.toList args.toList ds p := hA0
 rw [Try.params6] at hA hval hwt
 obtain ⟨v0, vs0, d0, ds0, p0, q0, hargs, rfl, rfl, h0, r0⟩ := trodAll_cons hA
 obtain ⟨v1, vs1, d1, ds1, p1, q1, rfl, rfl, rfl, h1, r1⟩ := trodAll_cons r0
 obtain ⟨v2, vs2, d2, ds2, p2, q2, rfl, rfl, rfl, h2, r2⟩ := trodAll_cons r1
 obtain ⟨rfl, rfl, rfl⟩ := trodAll_nil r2
 obtain rfl : args = #[v0, v1, v2] := by cases args; simp_all
 obtain ⟨rfl, rfl⟩ := trodVars_none hV
 obtain ⟨fuel0, h0'⟩ := h0
 obtain ⟨fuel1, h1'⟩ := h1
 obtain ⟨fuel2, h2'⟩ := h2
 have hlt2 : Light Try.prog 68 d2 := fun n hn => by
  have := List.all_eq_true.1 hwt n (by simp [DataW.weightsEach, DataW.weights, hn])
  exact of_decide_eq_true this
 obtain ⟨r, hc0, hrl⟩ := open_rule h0'
 obtain rfl : v0 = .agg r.cells.toArray := agg_cells (okWide_struct Try.underlying49 (hval 0 49 v0 rfl rfl)) hc0
 obtain ⟨pl, hc1, hpl⟩ := open_plot h1'
 obtain rfl : v1 = .agg pl.cells.toArray := agg_cells (okWide_struct Try.underlying58 (hval 1 58 v1 rfl rfl)) hc1
 obtain ⟨a2, c2, xs, hc2, hl2, hb2, hs2, hx2⟩ := open_floats Try.underlying68 Try.underlying22 cells22 h2' hlt2
 obtain rfl : v2 = .slice a2 xs.length c2 := slice_cells (Lk.okWide_slice Try.underlying68 (hval 2 68 v2 rfl rfl)) hc2
 have hb : Try.prog.bytesOf 22 = 8 := by kernel_rfl
 rw [hb] at hb2
 exact law_calls Try.laidB (by kernel_rfl) rfl rfl Try.underlying4 hW' rfl (tracksSteady_law r hrl pl hpl a2 xs.length c2 xs W hs2 rfl (by omega) (fun i hi => flt_wf (hx2 _ (getD_mem hi))))
theorem tracksSteady_holds : Rows.TracksSteadySaid :=
 OpenClaim.holds_of_wide 6 Try.f6 rfl rfl rfl rfl rfl rfl rfl ⟨rfl, rfl, rfl, rfl, rfl⟩ rfl rfl rfl rfl rfl (by kernel_rfl) Try.func6 (by kernel_rfl)
  (of_decide_eq_true (by kernel_rfl)) (by unfold Func.isWrapper; first | (rw [if_pos (by decide +kernel)]; kernel_rfl) | (rw [if_neg (by decide +kernel)]; exact ⟨rfl, rfl⟩))
  (fun os started H enc _ => tracksSteady_lifted os started H enc)
end Go.Proofs.Ytffobakdngbadaa
