/-
  NetOnce: for every input the statement returns true and leaves its input as it was.
-/
import Derived.Test.YtknpoemkmcdgcaaKit
import Derived.Test.YtknpoemkmcdgcaaTNP
import Derived.Test.YtknpoemkmcdgcaaTNT
import Derived.HandedShaped
namespace Go.Proofs.Ytknpoemkmcdgcaa
open Go.ChangeShapes Go.WideShapes Go.ChangeAt Go.RowKit Go.Lk
section
variable {H : Type} {enc : TypeId × Value → H} {w : World} {base : Nat} {spare : Nat → Bool} {held : Bool} {fuel : Nat} {cs : List Value} {x : DataW H × List MemPlace}
theorem open_sites (h : DataW.trod enc Try.prog w base spare held fuel 58 cs = some x) (hw : Light Try.prog 58 x.1) : ∃ a ss c, cs = [.slice a (List.length ss) c] ∧ ss.length ≤ 1000000000000000 ∧ SlC w a (scs ss) ∧ ∀ i, i < ss.length → (ss.getD i si0).ok := by
  obtain ⟨a, len, cap, rfl, hc, hb, ha, hx⟩ := open_rowsN Try.underlying58 h hw
  have hb37 : 1 ≤ Try.prog.bytesOf 37 := by decide +kernel
  obtain ⟨ss, hl, ht⟩ := choose_list (p := fun i t => CellsAt w ((aD a).add (i * 3)) (Si.cells t) ∧ Si.ok t) si0 (n := len) (fun i hi => by
    obtain ⟨cs', n, y, h1, h2, h3, h4⟩ := hx i hi
    obtain ⟨p, q, t, rfl, wp, wq, wt⟩ := open_site h3
    rw [cells37] at h2
    exact ⟨⟨p, q, t⟩, h2, ⟨wp, wq, wt⟩⟩)
  subst hl
  refine ⟨a, ss, cap, rfl, ?_, ⟨fun h => ha (by rw [scs_len] at h; omega), fun j v hv => ?_⟩, fun i hi => (ht i hi).2⟩
  · have := Nat.mul_le_mul_left ss.length hb37
    omega
  · have hj := (List.getElem?_eq_some_iff.1 hv).1
    rw [scs_len] at hj
    have hi : j / 3 < ss.length := by omega
    have h1 := (ht (j / 3) hi).1
    have hq : (ss.getD (j / 3) si0).cells[j % 3]? = some v := by
      cases hh : (ss.getD (j / 3) si0).cells[j % 3]? with
      | none =>
        have := List.getElem?_eq_none_iff.1 hh
        have : (ss.getD (j / 3) si0).cells.length = 3 := rfl
        omega
      | some u =>
        have := scs_get hi hh
        rw [show j / 3 * 3 + j % 3 = j by omega, hv] at this
        exact this.symm
    have := h1 (j % 3) v hq
    rw [add_add, show j / 3 * 3 + j % 3 = j by omega] at this
    exact this
theorem open_told (h : DataW.trod enc Try.prog w base spare held fuel 59 cs = some x) (hw : Light Try.prog 59 x.1) : ∃ a tt c, cs = [.slice a (List.length tt) c] ∧ tt.length ≤ 1000000000000000 ∧ ToldAt w a tt := by
  obtain ⟨a, len, cap, rfl, hc, hb, ha, hx⟩ := open_rowsN Try.underlying59 h hw
  have hb38 : 1 ≤ Try.prog.bytesOf 38 := by decide +kernel
  obtain ⟨tt, hl, ht⟩ := choose_list (p := fun i t => CellsAt w ((aD a).add i) [TT.v t] ∧ SlC w t.a (tcs t.ts) ∧ (∀ j, j < t.ts.length → TkLt (t.ts.getD j tk0)) ∧ t.ts.length ≤ 1000000000000000) tt0 (n := len) (fun i hi => by
    obtain ⟨cs', n, y, h1, h2, h3, h4⟩ := hx i hi
    obtain ⟨a', ts, c', rfl, _, hm, hs, hl⟩ := open_tracks h3 h4
    rw [cells38, Nat.mul_one] at h2
    exact ⟨⟨a', c', ts⟩, h2, hs, hl, by omega⟩)
  subst hl
  refine ⟨a, tt, cap, rfl, ?_, ⟨⟨fun h => ha (by rw [tvs_len] at h; exact h), fun j v hv => ?_⟩, fun i hi => (ht i hi).2.1, fun i hi => (ht i hi).2.2.1, fun i hi => (ht i hi).2.2.2⟩⟩
  · have := Nat.mul_le_mul_left tt.length hb38
    omega
  · have hj := (List.getElem?_eq_some_iff.1 hv).1
    rw [tvs_len] at hj
    have h1 := (ht j hj).1 0 _ rfl
    rw [add_add, Nat.add_zero] at h1
    rw [tvs_get hj] at hv
    rw [← Option.some.inj hv]
    exact h1
end
set_option maxRecDepth 100000 in
theorem netOnce_lifted (os : Os) (started : os.Started) (H : Type) (enc : TypeId × Value → H) :
    ReturnsInHanded {} Try.checked os 7 .any (Rows.netOnceSpec.pre6 enc Try.prog Try.f7 Rows.netOnceRow.domain false) (Rows.netOnceSpec.post enc Try.prog Try.f7 false true false false) := by
  refine returnsInHanded_of_change_shaped (C := Try.checked) Try.ownB started (by kernel_rfl) Try.func7
    (ChangeSpec.witness6 (enc := enc) (C := Try.checked) false ⟨#[], #[.float .f64 0, .slice none 0 0, .slice none 0 0], []⟩ 8 (by kernel_rfl) (by kernel_rfl) (by kernel_rfl) (by kernel_rfl)) ?_
  intro W base args ds gs before hval0 hW hcnd hwt0 _ _
  have hval : ∀ (j : Nat) t v, Try.f7.params[j]? = some t → args[j]? = some v → Value.okWide Try.prog W .any base t v := hval0
  have hwt : (DataW.weightsEach Try.prog (Try.f7.params.toList ++ []) (ds ++ gs)).all (· ≤ reachBytes) = true := hwt0
  have hW' := hW
  obtain ⟨p, q, hA0, hV, rfl, hfz, hnd⟩ := hW
  have hA : DataW.TrodAll enc Try.prog W 0 (fun _ => true) true Try.f7.params.toList args.toList ds p := hA0
  rw [Try.params7] at hA hval hwt
  obtain ⟨v0, v1, v2, d0, d1, d2, p0, p1, p2, rfl, rfl, rfl, h0, h1, h2⟩ := trodAll_three hA
  obtain ⟨rfl, rfl⟩ := trodVars_none hV
  obtain ⟨far, rfl, rfl, rfl, wf⟩ := open_float Try.underlying22 (hval 0 22 v0 rfl rfl) h0
  obtain ⟨fuel1, h1'⟩ := h1
  obtain ⟨fuel2, h2'⟩ := h2
  have hlt1 : Light Try.prog 58 d1 := fun n hn => by
    have := List.all_eq_true.1 hwt n (by simp [DataW.weightsEach, DataW.weights, hn])
    exact of_decide_eq_true this
  have hlt2 : Light Try.prog 59 d2 := fun n hn => by
    have := List.all_eq_true.1 hwt n (by simp [DataW.weightsEach, DataW.weights, hn])
    exact of_decide_eq_true this
  obtain ⟨a1, ss, c1, hc1, hm1, hs1, hl1⟩ := open_sites h1' hlt1
  obtain ⟨a2, tt, c2, hc2, hm2, hs2⟩ := open_told h2' hlt2
  obtain rfl : v1 = .slice a1 ss.length c1 := slice_cells (Lk.okWide_slice Try.underlying58 (hval 1 58 v1 rfl rfl)) hc1
  obtain rfl : v2 = .slice a2 tt.length c2 := slice_cells (Lk.okWide_slice Try.underlying59 (hval 2 59 v2 rfl rfl)) hc2
  exact law_calls Try.laidB (by kernel_rfl) rfl rfl Try.underlying4 hW' rfl (once_law far a1 a2 ss.length c1 tt.length c2 ss tt W (flt_wf wf) hs1 rfl hm1 hl1 hs2 rfl hm2)
theorem netOnce_holds : Rows.NetOnceSaid :=
  OpenClaim.holds_of_wide 7 Try.f7 rfl rfl rfl rfl rfl rfl rfl ⟨rfl, rfl, rfl, rfl, rfl⟩ rfl rfl rfl rfl rfl (by kernel_rfl) Try.func7 (by kernel_rfl)
    (of_decide_eq_true (by kernel_rfl)) (by unfold Func.isWrapper; first | (rw [if_pos (by decide +kernel)]; kernel_rfl) | (rw [if_neg (by decide +kernel)]; exact ⟨rfl, rfl⟩))
    (fun os started H enc _ => netOnce_lifted os started H enc)
end Go.Proofs.Ytknpoemkmcdgcaa
