/-
  TracksPlay: two books of any rules, any moves in turns: every answer is the document's.
-/
import Derived.Test.YtffobakdngbadaaGreatKit
import Derived.Test.YtffobakdngbadaaGreatP15
namespace Go.Proofs.YtffobakdngbadaaGreat
open Go.ChangeShapes Go.WideShapes Go.ChangeAt Go.RowKit Go.Lk
set_option maxRecDepth 100000 in
theorem tracksPlay_lifted (os : Os) (started : os.Started) (H : Type) (enc : TypeId × Value -> H) :
  ReturnsInHanded {} Tryz.checked os 3 .any (Rows.tracksPlaySpec.pre6 enc Tryz.prog Tryz.f3 Rows.tracksPlayRow.domain false) (Rows.tracksPlaySpec.post enc Tryz.prog Tryz.f3 false true false false) := by
 refine returnsInHanded_of_change_shaped (C := Tryz.checked) Tryz.ownB started (by kernel_rfl) Tryz.func3
  (ChangeSpec.witness6 (enc := enc) (C := Tryz.checked) false ⟨#[], #[.agg #[.float .f64 0, .float .f64 0, .float .f64 0, .int .i64 0, .int .i64 0, .int .i64 0], .agg #[.float .f64 0, .float .f64 0, .float .f64 0, .int .i64 0, .int .i64 0, .int .i64 0], .slice none 0 0], []⟩ 8 (by kernel_rfl) (by kernel_rfl) (by kernel_rfl) (by kernel_rfl)) ?_
 intro W base args ds gs before hval0 hW hcnd hwt0 _ _
 have hval : ∀ (j : Nat) t v, Tryz.f3.params[j]? = some t -> args[j]? = some v -> Value.okWide Tryz.prog W .any base t v := hval0
 have hwt : (DataW.weightsEach Tryz.prog (Tryz.f3.params.toList ++ []) (ds ++ gs)).all (· <= reachBytes) = true := hwt0
 have hW' := hW
 obtain ⟨p, q, hA0, hV, rfl, hfz, hnd⟩ := hW
 have hA : DataW.TrodAll enc Tryz.prog W 0 (fun _ => true) true Tryz.f3.params.toList args.toList ds p := hA0
 rw [Tryz.params3] at hA hval hwt
 obtain ⟨v0, vs0, d0, ds0, p0, q0, hargs, rfl, rfl, h0, r0⟩ := trodAll_cons hA
 obtain ⟨v1, vs1, d1, ds1, p1, q1, rfl, rfl, rfl, h1, r1⟩ := trodAll_cons r0
 obtain ⟨v2, vs2, d2, ds2, p2, q2, rfl, rfl, rfl, h2, r2⟩ := trodAll_cons r1
 obtain ⟨rfl, rfl, rfl⟩ := trodAll_nil r2
 obtain rfl : args = #[v0, v1, v2] := by cases args; simp_all
 obtain ⟨rfl, rfl⟩ := trodVars_none hV
 obtain ⟨fuel0, h0'⟩ := h0
 obtain ⟨fuel1, h1'⟩ := h1
 obtain ⟨fuel2, h2'⟩ := h2
 have hlt2 : Light Tryz.prog 25 d2 := fun n hn => by
  have := List.all_eq_true.1 hwt n (by simp [DataW.weightsEach, DataW.weights, hn])
  exact of_decide_eq_true this
 obtain ⟨r, hc0, hrl⟩ := open_rule h0'
 obtain rfl : v0 = .agg r.cells.toArray := agg_cells (okWide_struct u_24 (hval 0 24 v0 rfl rfl)) hc0
 obtain ⟨r', hc1, hrl'⟩ := open_rule h1'
 obtain rfl : v1 = .agg r'.cells.toArray := agg_cells (okWide_struct u_24 (hval 1 24 v1 rfl rfl)) hc1
 obtain ⟨a2, l, c2, hc2, hm2, hs2, hl2⟩ := open_mvs h2' hlt2
 obtain rfl : v2 = .slice a2 l.length c2 := slice_cells (Lk.okWide_slice u_25 (hval 2 25 v2 rfl rfl)) hc2
 exact law_calls Tryz.laidB (by kernel_rfl) rfl rfl u_4 hW' rfl (tracksPlay_law r r' hrl hrl' a2 l.length c2 l W hs2 rfl hm2 hl2)
theorem tracksPlay_holds : Rows.TracksPlaySaid :=
 OpenClaim.holds_of_wide 3 Tryz.f3 rfl rfl rfl rfl rfl rfl rfl ⟨rfl, rfl, rfl, rfl, rfl⟩ rfl rfl rfl rfl rfl (by kernel_rfl) Tryz.func3 (by kernel_rfl)
  (of_decide_eq_true (by kernel_rfl)) (by unfold Func.isWrapper; first | (rw [if_pos (by decide +kernel)]; kernel_rfl) | (rw [if_neg (by decide +kernel)]; exact ⟨rfl, rfl⟩))
  (fun os started H enc _ => tracksPlay_lifted os started H enc)
end Go.Proofs.YtffobakdngbadaaGreat