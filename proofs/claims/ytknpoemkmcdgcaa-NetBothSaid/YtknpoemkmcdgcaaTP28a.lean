/-
  NetBoth and NetNil: for every input that the guards let in, the statement returns true and leaves its input as it was.
-/
import Derived.Test.YtknpoemkmcdgcaaKit
import Derived.Test.YtknpoemkmcdgcaaTNP
import Derived.HandedShaped
namespace Go.Proofs.Ytknpoemkmcdgcaa
open Go.ChangeShapes Go.WideShapes Go.ChangeAt Go.RowKit Go.Lk
set_option maxRecDepth 100000 in
theorem netBoth_lifted (os : Os) (started : os.Started) (H : Type) (enc : TypeId × Value → H) :
    ReturnsInHanded {} Try.checked os 5 .any (Rows.netBothSpec.pre6 enc Try.prog Try.f5 Rows.netBothRow.domain false) (Rows.netBothSpec.post enc Try.prog Try.f5 false true false false) := by
  refine returnsInHanded_of_change (C := Try.checked) Try.ownB started (by kernel_rfl) Try.func5
    (ChangeSpec.witness6 (enc := enc) (C := Try.checked) false ⟨#[], #[.agg #[.float .f64 0, .float .f64 0, .float .f64 0, .float .f64 0, .float .f64 0], .agg #[.float .f64 0, .float .f64 0, .float .f64 0, .float .f64 0, .float .f64 0]], []⟩ 8 (by kernel_rfl) (by kernel_rfl) (by kernel_rfl) (by kernel_rfl)) ?_
  intro W base args ds gs before hval0 hW hcnd _
  have hval : ∀ (j : Nat) t v, Try.f5.params[j]? = some t → args[j]? = some v → Value.okWide Try.prog W .any base t v := hval0
  have hW' := hW
  obtain ⟨p, q, hA0, hV, rfl, hfz, hnd⟩ := hW
  have hA : DataW.TrodAll enc Try.prog W 0 (fun _ => true) true Try.f5.params.toList args.toList ds p := hA0
  rw [Try.params5] at hA hval
  obtain ⟨v0, vs0, d0, ds0, p0, q0, hargs, rfl, rfl, h0, r0⟩ := trodAll_cons hA
  obtain ⟨v1, vs1, d1, ds1, p1, q1, rfl, rfl, rfl, h1, r1⟩ := trodAll_cons r0
  obtain ⟨rfl, rfl, rfl⟩ := trodAll_nil r1
  obtain rfl : args = #[v0, v1] := by cases args; simp_all
  obtain ⟨rfl, rfl⟩ := trodVars_none hV
  obtain ⟨fuel, h0'⟩ := h0
  obtain ⟨fuel1, h1'⟩ := h1
  obtain ⟨a, hca, _⟩ := open_state h0'
  obtain ⟨b, hcb, _⟩ := open_state h1'
  obtain rfl : v0 = .agg a.cells.toArray := agg_cells (okWide_struct Try.underlying45 (hval 0 45 v0 rfl rfl)) hca
  obtain rfl : v1 = .agg b.cells.toArray := agg_cells (okWide_struct Try.underlying45 (hval 1 45 v1 rfl rfl)) hcb
  exact law_calls Try.laidB (by kernel_rfl) rfl rfl Try.underlying4 hW' rfl (both_law a b W)
theorem netBoth_holds : Rows.NetBothSaid :=
  OpenClaim.holds_of_wide 5 Try.f5 rfl rfl rfl rfl rfl rfl rfl ⟨rfl, rfl, rfl, rfl, rfl⟩ rfl rfl rfl rfl rfl (by kernel_rfl) Try.func5 (by kernel_rfl)
    (of_decide_eq_true (by kernel_rfl)) (by unfold Func.isWrapper; first | (rw [if_pos (by decide +kernel)]; kernel_rfl) | (rw [if_neg (by decide +kernel)]; exact ⟨rfl, rfl⟩))
    (fun os started H enc _ => netBoth_lifted os started H enc)
set_option maxRecDepth 100000 in
theorem netNil_lifted (os : Os) (started : os.Started) (H : Type) (enc : TypeId × Value → H) :
    ReturnsInHanded {} Try.checked os 6 .any (Rows.netNilSpec.pre6 enc Try.prog Try.f6 Rows.netNilRow.domain false) (Rows.netNilSpec.post enc Try.prog Try.f6 false true false false) := by
  refine returnsInHanded_of_change_shaped (C := Try.checked) Try.ownB started (by kernel_rfl) Try.func6
    (ChangeSpec.witness6 (enc := enc) (C := Try.checked) false ⟨#[], #[.agg #[.int .i64 0, .float .f64 0, .float .f64 0, .float .f64 0, .int .i64 0, .slice none 0 0]], []⟩ 8 (by kernel_rfl) (by kernel_rfl) (by kernel_rfl) (by kernel_rfl)) ?_
  intro W base args ds gs before hval0 hW hcnd hwt0 _ _
  have hval : ∀ (j : Nat) t v, Try.f6.params[j]? = some t → args[j]? = some v → Value.okWide Try.prog W .any base t v := hval0
  have hW' := hW
  obtain ⟨p, q, hA0, hV, rfl, hfz, hnd⟩ := hW
  have hA : DataW.TrodAll enc Try.prog W 0 (fun _ => true) true Try.f6.params.toList args.toList ds p := hA0
  rw [Try.params6] at hA hval
  obtain ⟨v0, vs0, d0, ds0, p0, q0, hargs, rfl, rfl, h0, r0⟩ := trodAll_cons hA
  obtain ⟨rfl, rfl, rfl⟩ := trodAll_nil r0
  obtain rfl : args = #[v0] := by cases args; simp_all
  obtain ⟨rfl, rfl⟩ := trodVars_none hV
  obtain ⟨fuel, h0'⟩ := h0
  obtain ⟨d, a, b, t, r, n, y, sl, hc, _, _, _, hsl⟩ := open_move h0'
  obtain ⟨sa, sn, sc, rfl⟩ : ∃ sa sn sc, sl = .slice sa sn sc := by
    rcases Go.Deep.open_slice Try.underlying38 hsl with ⟨h, _⟩ | ⟨_, _, _, _, _, _, _, h, _⟩
    · exact ⟨_, _, _, (List.cons.inj h).1⟩
    · exact ⟨_, _, _, (List.cons.inj h).1⟩
  obtain rfl : v0 = .agg #[.int .i64 d, .float .f64 a, .float .f64 b, .float .f64 t, .int .i64 r, .slice sa sn sc] := agg_cells (okWide_struct Try.underlying40 (hval 0 40 v0 rfl rfl)) hc
  exact law_calls Try.laidB (by kernel_rfl) rfl rfl Try.underlying4 hW' rfl (nil_law d a b t r sa sn sc W)
theorem netNil_holds : Rows.NetNilSaid :=
  OpenClaim.holds_of_wide 6 Try.f6 rfl rfl rfl rfl rfl rfl rfl ⟨rfl, rfl, rfl, rfl, rfl⟩ rfl rfl rfl rfl rfl (by kernel_rfl) Try.func6 (by kernel_rfl)
    (of_decide_eq_true (by kernel_rfl)) (by unfold Func.isWrapper; first | (rw [if_pos (by decide +kernel)]; kernel_rfl) | (rw [if_neg (by decide +kernel)]; exact ⟨rfl, rfl⟩))
    (fun os started H enc _ => netNil_lifted os started H enc)
end Go.Proofs.Ytknpoemkmcdgcaa
