/-
  Proved: the law StillMaps returns true for every input, and its arguments read behind the call as before. No condition.
-/
import Derived.HandedShaped
import Derived.Test.YtfehgelggjpaaaaTP13a
import Derived.Test.YtfehgelggjpaaaaTM7
namespace Go.Proofs.Ytfehgelggjpaaaa
open Go.ChangeShapes Go.WideShapes Go.ChangeAt Go.RowKit Go.Lk
theorem maps_law (gates : Int) (s : Nat) (a : Option Addr) (c : Nat) (rows : List (List Nat)) (rvs : List Value) (w0 : World) (hr : RowsF w0 a rows rvs) (hk63 : rows.length ≤ 5864062014634) :
    Ret Try.prog 5 [.int .i64 gates, .float .f64 s, .slice a rows.length c] w0 fun v w' => v = .bool true ∧ HS w0 w' [] := by
  by_cases h : gates < 1 ∨ shOk s = false ∨ 16384 < gates
  · exact maps_bad gates s a c rows rvs w0 hr hk63 h
  · simp only [not_or, Bool.not_eq_false] at h
    obtain ⟨k, rfl⟩ : ∃ k : Nat, gates = (k : Int) := ⟨gates.toNat, by omega⟩
    exact maps_ok k s a c rows rvs w0 hr hk63 (by omega) (by omega) h.2.1
set_option maxRecDepth 100000 in
theorem stillMaps_lifted (os : Os) (started : os.Started) (H : Type) (enc : TypeId × Value → H) :
    ReturnsInHanded {} Try.checked os 5 .any (Rows.stillMapsSpec.pre6 enc Try.prog Try.f5 Rows.stillMapsRow.domain false) (Rows.stillMapsSpec.post enc Try.prog Try.f5 false true false false) := by
  refine returnsInHanded_of_change_shaped (C := Try.checked) Try.own started (by kernel_rfl) Try.func5
    (ChangeSpec.witness6 (enc := enc) (C := Try.checked) false ⟨#[], #[.int .i64 0, .float .f64 0, .slice none 0 0], []⟩ 8 (by kernel_rfl) (by kernel_rfl) (by kernel_rfl) (by kernel_rfl)) ?_
  intro W base args ds gs before hval0 hW hcnd hwt0 _ _
  have hval : ∀ (j : Nat) t v, Try.f5.params[j]? = some t → args[j]? = some v → Value.okWide Try.prog W .any base t v := hval0
  have hwt : (DataW.weightsEach Try.prog (Try.f5.params.toList ++ []) (ds ++ gs)).all (· ≤ reachBytes) = true := hwt0
  have hW' := hW
  obtain ⟨p, q, hA0, hV, rfl, hfz, hnd⟩ := hW
  have hA : DataW.TrodAll enc Try.prog W 0 (fun _ => true) true Try.f5.params.toList args.toList ds p := hA0
  rw [Try.params5] at hA hval hwt
  obtain ⟨v0, v1, v2, d0, d1, d2, p0, p1, p2, rfl, rfl, rfl, h0, h1, h2⟩ := trodAll_three hA
  obtain ⟨rfl, rfl⟩ := trodVars_none hV
  obtain ⟨m, rfl, rfl, rfl, wa⟩ := open_int Try.underlying3 (hval 0 3 v0 rfl rfl) h0
  obtain ⟨s, rfl, rfl, rfl, ws⟩ := open_float Try.underlying35 (hval 1 35 v1 rfl rfl) h1
  have hlt : Light Try.prog 38 d2 := fun n hn => by
    have := List.all_eq_true.1 hwt n (by simp [DataW.weightsEach, DataW.weights, hn])
    exact of_decide_eq_true this
  obtain ⟨fuel, h2'⟩ := h2
  obtain ⟨a, c, rows, rvs, hcs, hc, hk, hr⟩ := open_rowsF Try.underlying38 (by kernel_rfl) Try.underlying39 (by kernel_rfl) Try.underlying35 (by kernel_rfl) (by kernel_rfl) h2' hlt
  obtain rfl : v2 = .slice a rows.length c := slice_cells (Lk.okWide_slice Try.underlying38 (hval 2 38 v2 rfl rfl)) hcs
  exact law_calls Try.laidOut (by kernel_rfl) rfl rfl Try.underlying4 hW' rfl (maps_law m s a c rows rvs W hr hk)
theorem stillMaps_holds : Rows.StillMapsSaid :=
  OpenClaim.holds_of_wide 5 Try.f5 rfl rfl rfl rfl rfl rfl rfl ⟨rfl, rfl, rfl, rfl, rfl⟩ rfl rfl rfl rfl rfl (by kernel_rfl) Try.func5 (by kernel_rfl)
    (of_decide_eq_true (by kernel_rfl)) (by unfold Func.isWrapper; first | (rw [if_pos (by decide +kernel)]; kernel_rfl) | (rw [if_neg (by decide +kernel)]; exact ⟨rfl, rfl⟩))
    (fun os started H enc _ => stillMaps_lifted os started H enc)
end Go.Proofs.Ytfehgelggjpaaaa
