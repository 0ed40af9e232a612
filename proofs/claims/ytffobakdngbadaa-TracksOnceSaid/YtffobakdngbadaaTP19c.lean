/-
 TracksOnce holds.
-/
import Derived.Test.YtffobakdngbadaaTKO1
import Derived.Test.YtffobakdngbadaaTKO3
namespace Go.Proofs.Ytffobakdngbadaa
open Go.ChangeShapes Go.WideShapes Go.ChangeAt Go.RowKit Go.Lk
set_option maxRecDepth 100000 in
theorem tracksOnce_lifted (os : Os) (started : os.Started) (H : Type) (enc : TypeId × Value → H) :
  ReturnsInHanded {} Try.checked os 5 .any (Rows.tracksOnceSpec.pre6 enc Try.prog Try.f5 Rows.tracksOnceRow.domain false) (Rows.tracksOnceSpec.post enc Try.prog Try.f5 false true false false) := by
 refine returnsInHanded_of_change_shaped (C := Try.checked) Try.ownB started (by kernel_rfl) Try.func5
  (ChangeSpec.witness6 (enc := enc) (C := Try.checked) false ⟨#[], #[.agg #[.float .f64 0, .float .f64 0, .float .f64 0, .int .i64 0, .int .i64 0, .int .i64 0], .slice none 0 0], []⟩ 8 (by kernel_rfl) (by kernel_rfl) (by kernel_rfl) (by kernel_rfl)) ?_
 intro W base args ds gs before hval0 hW hcnd hwt0 _ _
 have hval : ∀ (j : Nat) t v, Try.f5.params[j]? = some t → args[j]? = some v → Value.okWide Try.prog W .any base t v := hval0
 have hwt : (DataW.weightsEach Try.prog (Try.f5.params.toList ++ []) (ds ++ gs)).all (· ≤ reachBytes) = true := hwt0
 have hW' := hW
 obtain ⟨p, q, hA0, hV, rfl, hfz, hnd⟩ := hW
 have hA : DataW.TrodAll enc Try.prog W 0 (fun _ => true) true Try.f5.params.toList args.toList ds p := hA0
 rw [Try.params5] at hA hval hwt
 obtain ⟨v0, vs0, d0, ds0, p0, q0, hargs, rfl, rfl, h0, r0⟩ := trodAll_cons hA
 obtain ⟨v1, vs1, d1, ds1, p1, q1, rfl, rfl, rfl, h1, r1⟩ := trodAll_cons r0
 obtain ⟨rfl, rfl, rfl⟩ := trodAll_nil r1
 obtain rfl : args = #[v0, v1] := by cases args; simp_all
 obtain ⟨rfl, rfl⟩ := trodVars_none hV
 obtain ⟨fuel0, h0'⟩ := h0
 obtain ⟨fuel1, h1'⟩ := h1
 have hlt1 : Light Try.prog 50 d1 := fun n hn => by
  have := List.all_eq_true.1 hwt n (by simp [DataW.weightsEach, DataW.weights, hn])
  exact of_decide_eq_true this
 obtain ⟨r, hc0, hrl⟩ := open_rule h0'
 obtain rfl : v0 = .agg r.cells.toArray := agg_cells (okWide_struct Try.underlying49 (hval 0 49 v0 rfl rfl)) hc0
 obtain ⟨a1, l, c1, hc1, hm1, hs1, hl1⟩ := open_mvs h1' hlt1
 obtain rfl : v1 = .slice a1 l.length c1 := slice_cells (Lk.okWide_slice Try.underlying50 (hval 1 50 v1 rfl rfl)) hc1
 exact law_calls Try.laidB (by kernel_rfl) rfl rfl Try.underlying4 hW' rfl (tracksOnce_law r hrl a1 l.length c1 l W hs1 rfl hm1 hl1)
theorem tracksOnce_holds : Rows.TracksOnceSaid :=
 OpenClaim.holds_of_wide 5 Try.f5 rfl rfl rfl rfl rfl rfl rfl ⟨rfl, rfl, rfl, rfl, rfl⟩ rfl rfl rfl rfl rfl (by kernel_rfl) Try.func5 (by kernel_rfl)
  (of_decide_eq_true (by kernel_rfl)) (by unfold Func.isWrapper; first | (rw [if_pos (by decide +kernel)]; kernel_rfl) | (rw [if_neg (by decide +kernel)]; exact ⟨rfl, rfl⟩))
  (fun os started H enc _ => tracksOnce_lifted os started H enc)
end Go.Proofs.Ytffobakdngbadaa
