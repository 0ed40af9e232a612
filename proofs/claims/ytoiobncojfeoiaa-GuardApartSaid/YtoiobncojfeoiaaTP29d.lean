/-
  GuardApart: for any width, zones, looks, beginning and Id: zones know nothing of one another, nor do tracks; where corners begin, and which way round they go, makes no difference; what comes in reads behind the call as it did.
-/
import Derived.Test.YtoiobncojfeoiaaKit
import Derived.Test.YtoiobncojfeoiaaTUV3
import Derived.Test.YtoiobncojfeoiaaTUZ
import Derived.HandedShaped
namespace Go.Proofs.Ytoiobncojfeoiaa
open Go.ChangeShapes Go.WideShapes Go.ChangeAt Go.RowKit Go.Lk
set_option maxRecDepth 100000 in
theorem guardApart_lifted (os : Os) (started : os.Started) (H : Type) (enc : TypeId × Value → H) :
    ReturnsInHanded {} Try.checked os 5 .any (Rows.guardApartSpec.pre6 enc Try.prog Try.f5 Rows.guardApartRow.domain false) (Rows.guardApartSpec.post enc Try.prog Try.f5 false true false false) := by
  refine returnsInHanded_of_change_shaped (C := Try.checked) Try.ownB started (by kernel_rfl) Try.func5
    (ChangeSpec.witness6 (enc := enc) (C := Try.checked) false ⟨#[], #[.float .f64 0, .slice none 0 0, .slice none 0 0, .int .i64 0, .bool false, .int .i64 0], []⟩ 8 (by kernel_rfl) (by kernel_rfl) (by kernel_rfl) (by kernel_rfl)) ?_
  intro W base args ds gs before hval0 hW hcnd hwt0 _ _
  have hval : ∀ (j : Nat) t v, Try.f5.params[j]? = some t → args[j]? = some v → Value.okWide Try.prog W .any base t v := hval0
  have hwt : (DataW.weightsEach Try.prog (Try.f5.params.toList ++ []) (ds ++ gs)).all (· ≤ reachBytes) = true := hwt0
  have hW' := hW
  obtain ⟨p, q, hA0, hV, rfl, hfz, hnd⟩ := hW
  have hA : DataW.TrodAll enc Try.prog W 0 (fun _ => true) true Try.f5.params.toList args.toList ds p := hA0
  rw [Try.params5] at hA hval hwt
  obtain ⟨v0, vs0, d0, ds0, p0, q0, hargs, rfl, rfl, h0, r0⟩ := trodAll_cons hA
  obtain ⟨v1, vs1, d1, ds1, p1, q1, rfl, rfl, rfl, h1, r1⟩ := trodAll_cons r0
  obtain ⟨v2, vs2, d2, ds2, p2, q2, rfl, rfl, rfl, h2, r2⟩ := trodAll_cons r1
  obtain ⟨v3, vs3, d3, ds3, p3, q3, rfl, rfl, rfl, h3, r3⟩ := trodAll_cons r2
  obtain ⟨v4, vs4, d4, ds4, p4, q4, rfl, rfl, rfl, h4, r4⟩ := trodAll_cons r3
  obtain ⟨v5, vs5, d5, ds5, p5, q5, rfl, rfl, rfl, h5, r5⟩ := trodAll_cons r4
  obtain ⟨rfl, rfl, rfl⟩ := trodAll_nil r5
  obtain rfl : args = #[v0, v1, v2, v3, v4, v5] := by cases args; simp_all
  obtain ⟨rfl, rfl⟩ := trodVars_none hV
  obtain ⟨far, rfl, rfl, rfl, wf⟩ := open_float Try.underlying23 (hval 0 23 v0 rfl rfl) h0
  obtain ⟨bg, rfl, rfl, rfl, _⟩ := open_int Try.underlying3 (hval 3 3 v3 rfl rfl) h3
  obtain ⟨back, rfl, rfl, rfl⟩ := open_bool Try.underlying4 (hval 4 4 v4 rfl rfl) h4
  obtain ⟨id, rfl, rfl, rfl, _⟩ := open_int Try.underlying3 (hval 5 3 v5 rfl rfl) h5
  obtain ⟨fuel1, h1'⟩ := h1
  obtain ⟨fuel2, h2'⟩ := h2
  have hlt1 : Light Try.prog 31 d1 := fun n hn => by
    have := List.all_eq_true.1 hwt n (by simp [DataW.weightsEach, DataW.weights, hn])
    exact of_decide_eq_true this
  have hlt2 : Light Try.prog 32 d2 := fun n hn => by
    have := List.all_eq_true.1 hwt n (by simp [DataW.weightsEach, DataW.weights, hn])
    exact of_decide_eq_true this
  obtain ⟨a1, t1, c1, hc1, hm1, hs1, hl1⟩ := open_zonesB h1' hlt1
  obtain rfl : v1 = .slice a1 t1.length c1 := slice_cells (Lk.okWide_slice Try.underlying31 (hval 1 31 v1 rfl rfl)) hc1
  obtain ⟨a2, t2, c2, hc2, hm2, hs2, hl2⟩ := open_looksB h2' hlt2
  obtain rfl : v2 = .slice a2 t2.length c2 := slice_cells (Lk.okWide_slice Try.underlying32 (hval 2 32 v2 rfl rfl)) hc2
  have memb : ∀ {α : Type} {l : List α} {d x : α}, x ∈ l → ∃ i, i < l.length ∧ l.getD i d = x := fun {α l d x} h => by
    obtain ⟨i, hi, rfl⟩ := List.getElem_of_mem h
    exact ⟨i, hi, by rw [List.getD_eq_getElem?_getD, List.getElem?_eq_getElem hi]; rfl⟩
  exact law_calls Try.laidB (by kernel_rfl) rfl rfl Try.underlying4 hW' rfl (apart_law far a1 a2 c1 c2 t1 t2 bg back id W hs1 hs2 hm1 hm2 (fun i hi => ⟨(hl1 i hi).1, (hl1 i hi).2.1⟩)
    (fun i hi q hq => by obtain ⟨k, hk, rfl⟩ := memb (d := ((0, 0) : Pt)) hq; exact (hl1 i hi).2.2 k hk) (fun i hi => ⟨(hl2 i hi).1, (hl2 i hi).2.1⟩) (fun i hi t ht => by obtain ⟨k, hk, rfl⟩ := memb (d := tk0) ht; exact (hl2 i hi).2.2 k hk))
theorem guardApart_holds : Rows.GuardApartSaid :=
  OpenClaim.holds_of_wide 5 Try.f5 rfl rfl rfl rfl rfl rfl rfl ⟨rfl, rfl, rfl, rfl, rfl⟩ rfl rfl rfl rfl rfl (by kernel_rfl) Try.func5 (by kernel_rfl)
    (of_decide_eq_true (by kernel_rfl)) (by unfold Func.isWrapper; first | (rw [if_pos (by decide +kernel)]; kernel_rfl) | (rw [if_neg (by decide +kernel)]; exact ⟨rfl, rfl⟩))
    (fun os started H enc _ => guardApart_lifted os started H enc)
end Go.Proofs.Ytoiobncojfeoiaa
