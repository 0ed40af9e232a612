/-
 TracksNil holds.
-/
import Derived.Test.YtffobakdngbadaaKit
import Derived.Test.YtffobakdngbadaaKitY
import Derived.Test.YtffobakdngbadaaTKV
import Derived.HandedShaped
namespace Go.Proofs.Ytffobakdngbadaa
open Go.ChangeShapes Go.WideShapes Go.ChangeAt Go.RowKit Go.Lk
theorem Try.ownB : ownKnob Try.prog.godebug = none := by kernel_rfl
theorem Try.laidB : laidOutB Try.prog = true := by kernel_rfl
section
variable {H : Type} {enc : TypeId × Value → H} {w : World} {base : Nat} {spare : Nat → Bool} {held : Bool} {fuel : Nat} {cs : List Value} {x : DataW H × List MemPlace}
theorem cells25 : Try.prog.cellsOf 25 = 4 := by kernel_rfl
theorem cells23 : Try.prog.cellsOf 23 = 1 := by kernel_rfl
theorem flt_wf {b : Nat} (h : (Lit.float .f64 b).wf = true) : b < 18446744073709551616 := by simpa [Lit.wf] using h
theorem open_move (h : DataW.trod enc Try.prog w base spare held fuel 25 cs = some x) : ∃ q t sl r n y, cs = [.int .i64 q, .float .f64 t, sl, .int .i64 r] ∧ t < 18446744073709551616 ∧ DataW.trod enc Try.prog w base spare held n 23 [sl] = some y := by
 obtain ⟨n2, y2, h2, hl⟩ := fld_sub Try.underlying25 h (i := 2) rfl
 rw [cells25] at hl
 replace h2 : DataW.trod enc Try.prog w base spare held n2 23 ((cs.drop 2).take 1) = some y2 := by rw [← cells23]; exact h2
 obtain ⟨b0, e0, _⟩ := fld_int Try.underlying25 h (i := 0) rfl (by kernel_rfl) Try.underlying3 (by rw [hl]; decide)
 obtain ⟨b1, e1, w1⟩ := fld_float Try.underlying25 h (i := 1) rfl (by kernel_rfl) Try.underlying22 (by rw [hl]; decide)
 obtain ⟨b3, e3, _⟩ := fld_int Try.underlying25 h (i := 3) rfl (by kernel_rfl) Try.underlying3 (by rw [hl]; decide)
 match cs, hl with
 | [c0, c1, c2, c3], _ =>
  obtain rfl := Option.some.inj e0
  obtain rfl := Option.some.inj e1
  obtain rfl := Option.some.inj e3
  exact ⟨b0, b1, c2, b3, n2, y2, rfl, flt_wf w1, h2⟩
end
set_option maxRecDepth 100000 in
theorem tracksNil_lifted (os : Os) (started : os.Started) (H : Type) (enc : TypeId × Value → H) :
  ReturnsInHanded {} Try.checked os 3 .any (Rows.tracksNilSpec.pre6 enc Try.prog Try.f3 Rows.tracksNilRow.domain false) (Rows.tracksNilSpec.post enc Try.prog Try.f3 false true false false) := by
 refine returnsInHanded_of_change_shaped (C := Try.checked) Try.ownB started (by kernel_rfl) Try.func3
  (ChangeSpec.witness6 (enc := enc) (C := Try.checked) false ⟨#[], #[.agg #[.int .i64 0, .float .f64 0, .slice none 0 0, .int .i64 0]], []⟩ 8 (by kernel_rfl) (by kernel_rfl) (by kernel_rfl) (by kernel_rfl)) ?_
 intro W base args ds gs before hval0 hW hcnd hwt0 _ _
 have hval : ∀ (j : Nat) t v, Try.f3.params[j]? = some t → args[j]? = some v → Value.okWide Try.prog W .any base t v := hval0
 have hW' := hW
 obtain ⟨p, q, hA0, hV, rfl, hfz, hnd⟩ := hW
 have hA : DataW.TrodAll enc Try.prog W 0 (fun _ => true) true Try.f3.params.toList args.toList ds p := hA0
 rw [Try.params3] at hA hval
 obtain ⟨v0, vs0, d0, ds0, p0, q0, hargs, rfl, rfl, h0, r0⟩ := trodAll_cons hA
 obtain ⟨rfl, rfl, rfl⟩ := trodAll_nil r0
 obtain rfl : args = #[v0] := by cases args; simp_all
 obtain ⟨rfl, rfl⟩ := trodVars_none hV
 obtain ⟨fuel, h0'⟩ := h0
 obtain ⟨mq, mt, sl, mr, n, y, hc, _, hsl⟩ := open_move h0'
 obtain ⟨sa, sn, sc, rfl⟩ : ∃ sa sn sc, sl = .slice sa sn sc := by
  rcases Go.Deep.open_slice Try.underlying23 hsl with ⟨h, _⟩ | ⟨_, _, _, _, _, _, _, h, _⟩
  ·
   exact ⟨_, _, _, (List.cons.inj h).1⟩
  ·
   exact ⟨_, _, _, (List.cons.inj h).1⟩
 obtain rfl : v0 = .agg #[.int .i64 mq, .float .f64 mt, .slice sa sn sc, .int .i64 mr] := agg_cells (okWide_struct Try.underlying25 (hval 0 25 v0 rfl rfl)) hc
 exact law_calls Try.laidB (by kernel_rfl) rfl rfl Try.underlying4 hW' rfl (tracksNil_law mq mt sa sn sc mr W)
theorem tracksNil_holds : Rows.TracksNilSaid :=
 OpenClaim.holds_of_wide 3 Try.f3 rfl rfl rfl rfl rfl rfl rfl ⟨rfl, rfl, rfl, rfl, rfl⟩ rfl rfl rfl rfl rfl (by kernel_rfl) Try.func3 (by kernel_rfl)
  (of_decide_eq_true (by kernel_rfl)) (by unfold Func.isWrapper; first | (rw [if_pos (by decide +kernel)]; kernel_rfl) | (rw [if_neg (by decide +kernel)]; exact ⟨rfl, rfl⟩))
  (fun os started H enc _ => tracksNil_lifted os started H enc)
end Go.Proofs.Ytffobakdngbadaa
