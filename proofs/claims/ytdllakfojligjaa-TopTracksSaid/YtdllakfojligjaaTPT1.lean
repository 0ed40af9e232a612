/-
  TopTracks holds.
-/
import Derived.Test.YtdllakfojligjaaTTE
namespace Go.Proofs.Ytdllakfojligjaa
open Go.ChangeShapes Go.WideShapes Go.ChangeAt Go.RowKit Go.Lk
set_option maxRecDepth 100000 in
theorem topTracks_lifted (os : Os) (started : os.Started) (H : Type) (enc : TypeId × Value → H) :
  ReturnsInHanded {} Try.checked os 3 .any (Rows.topTracksSpec.pre6 enc Try.prog Try.f3 Rows.topTracksRow.domain false) (Rows.topTracksSpec.post enc Try.prog Try.f3 false true false false) := by
 refine returnsInHanded_of_change_shaped (C := Try.checked) Try.ownB started (by kernel_rfl) Try.func3
  (ChangeSpec.witness6 (enc := enc) (C := Try.checked) false ⟨#[], #[.slice none 0 0, .int .i64 0, .int .i64 0, .int .i64 0, .int .i64 0, .int .i64 0, .int .i64 0], []⟩ 8 (by kernel_rfl) (by kernel_rfl) (by kernel_rfl) (by kernel_rfl)) ?_
 intro W base args ds gs before hval0 hW hcnd hwt0 _ _
 have hval : ∀ (j : Nat) t v, Try.f3.params[j]? = some t → args[j]? = some v → Value.okWide Try.prog W .any base t v := hval0
 have hwt : (DataW.weightsEach Try.prog (Try.f3.params.toList ++ []) (ds ++ gs)).all (· ≤ reachBytes) = true := hwt0
 have hW' := hW
 obtain ⟨p, q, hA0, hV, rfl, hfz, hnd⟩ := hW
 have hA : DataW.TrodAll enc Try.prog W 0 (fun _ => true) true Try.f3.params.toList args.toList ds p := hA0
 rw [Try.params3] at hA hval hwt
 obtain ⟨v0, vs0, d0, ds0, p0, q0, hargs, rfl, rfl, h0, r0⟩ := trodAll_cons hA
 obtain ⟨v1, vs1, d1, ds1, p1, q1, rfl, rfl, rfl, h1, r1⟩ := trodAll_cons r0
 obtain ⟨v2, vs2, d2, ds2, p2, q2, rfl, rfl, rfl, h2, r2⟩ := trodAll_cons r1
 obtain ⟨v3, vs3, d3, ds3, p3, q3, rfl, rfl, rfl, h3, r3⟩ := trodAll_cons r2
 obtain ⟨v4, vs4, d4, ds4, p4, q4, rfl, rfl, rfl, h4, r4⟩ := trodAll_cons r3
 obtain ⟨v5, vs5, d5, ds5, p5, q5, rfl, rfl, rfl, h5, r5⟩ := trodAll_cons r4
 obtain ⟨v6, vs6, d6, ds6, p6, q6, rfl, rfl, rfl, h6, r6⟩ := trodAll_cons r5
 obtain ⟨rfl, rfl, rfl⟩ := trodAll_nil r6
 obtain rfl : args = #[v0, v1, v2, v3, v4, v5, v6] := by cases args; simp_all
 obtain ⟨rfl, rfl⟩ := trodVars_none hV
 obtain ⟨fuel0, h0'⟩ := h0
 have hlt0 : Light Try.prog 22 d0 := fun n hn => by
  have := List.all_eq_true.1 hwt n (by simp [DataW.weightsEach, DataW.weights, hn])
  exact of_decide_eq_true this
 obtain ⟨a0, l, c0, hc0, hm0, hs0, hl0⟩ := open_sws h0' hlt0
 obtain rfl : v0 = .slice a0 l.length c0 := slice_cells (Lk.okWide_slice Try.underlying22 (hval 0 22 v0 rfl rfl)) hc0
 obtain ⟨i1, rfl⟩ := okWide_int Try.underlying3 (hval 1 3 v1 rfl rfl)
 obtain ⟨i2, rfl⟩ := okWide_int Try.underlying3 (hval 2 3 v2 rfl rfl)
 obtain ⟨i3, rfl⟩ := okWide_int Try.underlying3 (hval 3 3 v3 rfl rfl)
 obtain ⟨i4, rfl⟩ := okWide_int Try.underlying3 (hval 4 3 v4 rfl rfl)
 obtain ⟨i5, rfl⟩ := okWide_int Try.underlying3 (hval 5 3 v5 rfl rfl)
 obtain ⟨i6, rfl⟩ := okWide_int Try.underlying3 (hval 6 3 v6 rfl rfl)
 exact law_calls Try.laidB (by kernel_rfl) rfl rfl Try.underlying4 hW' rfl (topTracks_law i1 i2 i3 i4 i5 i6 a0 l.length c0 l W hs0 rfl hm0 hl0)
theorem topTracks_holds : Rows.TopTracksSaid :=
 OpenClaim.holds_of_wide 3 Try.f3 rfl rfl rfl rfl rfl rfl rfl ⟨rfl, rfl, rfl, rfl, rfl⟩ rfl rfl rfl rfl rfl (by kernel_rfl) Try.func3 (by kernel_rfl)
  (of_decide_eq_true (by kernel_rfl)) (by unfold Func.isWrapper; first | (rw [if_pos (by decide +kernel)]; kernel_rfl) | (rw [if_neg (by decide +kernel)]; exact ⟨rfl, rfl⟩))
  (fun os started H enc _ => topTracks_lifted os started H enc)
end Go.Proofs.Ytdllakfojligjaa
