/-
 NetPlays: every answer of the net and all its things are the document's, whatever the moves.
-/
import Derived.Test.YtknpoemkmcdgcaaKit
import Derived.Test.YtknpoemkmcdgcaaTNM
import Derived.Test.YtknpoemkmcdgcaaTNY
import Derived.HandedShaped
namespace Go.Proofs.Ytknpoemkmcdgcaa
open Go.ChangeShapes Go.WideShapes Go.ChangeAt Go.RowKit Go.Lk
section
open Go.Deep
variable {H : Type} {enc : TypeId × Value → H} {P : Program} {w : World} {base : Nat} {spare : Nat → Bool} {held : Bool} {fuel : Nat} {t : TypeId} {cs : List Value} {x : DataW H × List MemPlace} {fs : Array Field}
theorem weightsEach_at {P : Program} {H : Type} : ∀ {ts : List TypeId} {ds : List (DataW H)} {i : Nat} {t : TypeId} {d : DataW H}, ts[i]? = some t → ds[i]? = some d → ∀ n ∈ d.weights P t, n ∈ DataW.weightsEach P ts ds
 | t :: ts, d :: ds, 0, t', d', h1, h2, n, hn => by
  obtain rfl := Option.some.inj h1
  obtain rfl := Option.some.inj h2
  simp only [DataW.weightsEach, List.mem_append]
  exact .inl hn
 | t :: ts, d :: ds, i + 1, t', d', h1, h2, n, hn => by
  simp only [DataW.weightsEach, List.mem_append]
  exact .inr (weightsEach_at (i := i) h1 h2 n hn)
theorem fld_subL (ht : P.underlying t = some (.struct fs)) (h : DataW.trod enc P w base spare held fuel t cs = some x) (hw : Light P t x.1) {i : Nat} {f : Field} (hf : fs[i]? = some f) :
  ∃ n y, DataW.trod enc P w base spare held n f.type ((cs.drop f.offset).take (P.cellsOf f.type)) = some y ∧ cs.length = P.cellsOf t ∧ Light P f.type y.1 := by
 obtain ⟨xs, n, _, hx0, hl, hlen, hx⟩ := DataW.trod_struct ht h
 have hi : i < xs.length := by rw [hlen]; exact (Array.getElem?_eq_some_iff.1 hf).1
 refine ⟨n, xs[i], (hx i f hf).trans (List.getElem?_eq_getElem hi), hl, fun m hm => hw m ?_⟩
 rw [hx0]
 have hmm := weightsEach_at (P := P) (ts := fs.toList.map (·.type)) (ds := xs.map (·.1)) (i := i) (t := f.type) (d := xs[i].1) (by rw [List.getElem?_map, Array.getElem?_toList, hf]; rfl) (by rw [List.getElem?_map, List.getElem?_eq_getElem hi]; rfl) m hm
 simp only [DataW.weights, ht]
 exact hmm
end
section
variable {H : Type} {enc : TypeId × Value → H} {w : World} {base : Nat} {spare : Nat → Bool} {held : Bool} {fuel : Nat} {cs : List Value} {x : DataW H × List MemPlace}
theorem open_mv (h : DataW.trod enc Try.prog w base spare held fuel 40 cs = some x) (hw : Light Try.prog 40 x.1) : ∃ m : Mv, cs = m.cells ∧ MvOk w m := by
 obtain ⟨n1, y1, h1, hl, _⟩ := fld_subL Try.underlying40 h hw (i := 1) rfl
 obtain ⟨n3, y3, h3, _, hw3⟩ := fld_subL Try.underlying40 h hw (i := 3) rfl
 rw [cells40] at hl
 replace h1 : DataW.trod enc Try.prog w base spare held n1 37 ((cs.drop 1).take 3) = some y1 := by rw [← cells37]; exact h1
 replace h3 : DataW.trod enc Try.prog w base spare held n3 38 ((cs.drop 5).take 1) = some y3 := by rw [← cells38]; exact h3
 obtain ⟨b0, e0, _⟩ := fld_int Try.underlying40 h (i := 0) rfl (by kernel_rfl) Try.underlying3 (by rw [hl]; decide)
 obtain ⟨b2, e2, _⟩ := fld_int Try.underlying40 h (i := 2) rfl (by kernel_rfl) Try.underlying3 (by rw [hl]; decide)
 match cs, hl with
 | [c0, c1, c2, c3, c4, c5], _ =>
  obtain ⟨a, b, t, es, wa, wb, wt⟩ := open_site (cs := [c1, c2, c3]) h1
  simp only [List.cons.injEq, and_true] at es
  obtain ⟨rfl, rfl, rfl⟩ := es
  obtain rfl := Option.some.inj e0
  obtain rfl := Option.some.inj e2
  obtain ⟨a', ts, c', e, _, hm, hs, hlt⟩ := open_tracks (cs := [c5]) h3 hw3
  obtain rfl := (List.cons.inj e).1
  exact ⟨⟨b0, a, b, t, b2, a', c', ts⟩, rfl, ⟨wa, wb, wt, hs, hlt, by show ts.length ≤ _; omega⟩⟩
theorem open_mvs (h : DataW.trod enc Try.prog w base spare held fuel 23 cs = some x) (hw : Light Try.prog 23 x.1) : ∃ a l c, cs = [.slice a (List.length l) c] ∧ l.length ≤ 1000000000000000 ∧ SlC w a (mcs l) ∧ ∀ i, i < l.length → MvOk w (l.getD i mv0) := by
 obtain ⟨a, len, cap, rfl, hc, hb, ha, hx⟩ := open_rowsN Try.underlying23 h hw
 have hbE : 1 ≤ Try.prog.bytesOf 40 := by decide +kernel
 obtain ⟨l, hl, ht⟩ := choose_list (p := fun i t => CellsAt w ((aD a).add (i * 6)) (Mv.cells t) ∧ MvOk w t) mv0 (n := len) (fun i hi => by
  obtain ⟨cs', n, y, h1, h2, h3, h4⟩ := hx i hi
  obtain ⟨t, rfl, hp⟩ := open_mv h3 h4
  rw [cells40] at h2
  exact ⟨t, h2, hp⟩)
 subst hl
 refine ⟨a, l, cap, rfl, ?_, ⟨fun h => ha (by rw [mcs_len] at h; omega), fun j v hv => ?_⟩, fun i hi => (ht i hi).2⟩
 ·
  have := Nat.mul_le_mul_left l.length hbE
  omega
 ·
  have hj := (List.getElem?_eq_some_iff.1 hv).1
  rw [mcs_len] at hj
  have hi : j / 6 < l.length := by omega
  have h1 := (ht (j / 6) hi).1
  have hq : (l.getD (j / 6) mv0).cells[j % 6]? = some v := by
   cases hh : (l.getD (j / 6) mv0).cells[j % 6]? with
   | none =>
    have := List.getElem?_eq_none_iff.1 hh
    have : (l.getD (j / 6) mv0).cells.length = 6 := rfl
    omega
   | some u =>
    have := mcs_get hi hh
    rw [show j / 6 * 6 + j % 6 = j by omega, hv] at this
    exact this.symm
  have := h1 (j % 6) v hq
  rw [add_add, show j / 6 * 6 + j % 6 = j by omega] at this
  exact this
end
set_option maxRecDepth 100000 in
theorem netPlays_lifted (os : Os) (started : os.Started) (H : Type) (enc : TypeId × Value → H) :
  ReturnsInHanded {} Try.checked os 3 .any (Rows.netPlaysSpec.pre6 enc Try.prog Try.f3 Rows.netPlaysRow.domain false) (Rows.netPlaysSpec.post enc Try.prog Try.f3 false true false false) := by
 refine returnsInHanded_of_change_shaped (C := Try.checked) Try.ownB started (by kernel_rfl) Try.func3
  (ChangeSpec.witness6 (enc := enc) (C := Try.checked) false ⟨#[], #[.float .f64 0, .slice none 0 0], []⟩ 8 (by kernel_rfl) (by kernel_rfl) (by kernel_rfl) (by kernel_rfl)) ?_
 intro W base args ds gs before hval0 hW hcnd hwt0 _ _
 have hval : ∀ (j : Nat) t v, Try.f3.params[j]? = some t → args[j]? = some v → Value.okWide Try.prog W .any base t v := hval0
 have hwt : (DataW.weightsEach Try.prog (Try.f3.params.toList ++ []) (ds ++ gs)).all (· ≤ reachBytes) = true := hwt0
 have hW' := hW
 obtain ⟨p, q, hA0, hV, rfl, hfz, hnd⟩ := hW
 have hA : DataW.TrodAll enc Try.prog W 0 (fun _ => true) true Try.f3.params.toList args.toList ds p := hA0
 rw [Try.params3] at hA hval hwt
 obtain ⟨v0, vs0, d0, ds0, p0, q0, hargs, rfl, rfl, h0, r0⟩ := trodAll_cons hA
 obtain ⟨v1, vs1, d1, ds1, p1, q1, rfl, rfl, rfl, h1, r1⟩ := trodAll_cons r0
 obtain ⟨rfl, rfl, rfl⟩ := trodAll_nil r1
 obtain rfl : args = #[v0, v1] := by cases args; simp_all
 obtain ⟨rfl, rfl⟩ := trodVars_none hV
 obtain ⟨far, rfl, rfl, rfl, wf⟩ := open_float Try.underlying22 (hval 0 22 v0 rfl rfl) h0
 obtain ⟨fuel1, h1'⟩ := h1
 have hlt1 : Light Try.prog 23 d1 := fun n hn => by
  have := List.all_eq_true.1 hwt n (by simp [DataW.weightsEach, DataW.weights, hn])
  exact of_decide_eq_true this
 obtain ⟨a1, l, c1, hc1, hm1, hs1, hl1⟩ := open_mvs h1' hlt1
 obtain rfl : v1 = .slice a1 l.length c1 := slice_cells (Lk.okWide_slice Try.underlying23 (hval 1 23 v1 rfl rfl)) hc1
 exact law_calls Try.laidB (by kernel_rfl) rfl rfl Try.underlying4 hW' rfl (plays_law far a1 l.length c1 l W (flt_wf wf) hs1 rfl hm1 hl1)
theorem netPlays_holds : Rows.NetPlaysSaid :=
 OpenClaim.holds_of_wide 3 Try.f3 rfl rfl rfl rfl rfl rfl rfl ⟨rfl, rfl, rfl, rfl, rfl⟩ rfl rfl rfl rfl rfl (by kernel_rfl) Try.func3 (by kernel_rfl)
  (of_decide_eq_true (by kernel_rfl)) (by unfold Func.isWrapper; rw [if_neg (by decide +kernel)]; exact ⟨rfl, rfl⟩)
  (fun os started H enc _ => netPlays_lifted os started H enc)
end Go.Proofs.Ytknpoemkmcdgcaa
