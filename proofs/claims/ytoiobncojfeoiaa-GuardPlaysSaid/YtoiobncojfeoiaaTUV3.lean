/-
  A part of the proof: what functions that the statement reaches do, or a plain law on what they do. Each theorem holds under its own premises alone.
-/
import Derived.Test.YtoiobncojfeoiaaTUV2
namespace Go.Proofs.Ytoiobncojfeoiaa
open Go Go.Lk
section
variable {H : Type} {enc : TypeId × Value → H} {w : World} {base : Nat} {spare : Nat → Bool} {held : Bool} {fuel : Nat} {cs : List Value} {x : DataW H × List MemPlace}
theorem open_pointB (h : DataW.trod enc Try.prog w base spare held fuel 25 cs = some x) : ∃ p : Pt, cs = pc p ∧ p.1 < 18446744073709551616 ∧ p.2 < 18446744073709551616 := by
  have hl : cs.length = 2 := by obtain ⟨_, _, _, hl⟩ := fld_sub Try.underlying25 h (i := 0) rfl; rw [cells25] at hl; exact hl
  obtain ⟨b0, e0, w0⟩ := fld_float Try.underlying25 h (i := 0) rfl (by kernel_rfl) Try.underlying23 (by rw [hl]; decide)
  obtain ⟨b1, e1, w1⟩ := fld_float Try.underlying25 h (i := 1) rfl (by kernel_rfl) Try.underlying23 (by rw [hl]; decide)
  match cs, hl with
  | [c0, c1], _ =>
    obtain rfl := Option.some.inj e0
    obtain rfl := Option.some.inj e1
    exact ⟨(b0, b1), rfl, by simpa [Lit.wf] using w0, by simpa [Lit.wf] using w1⟩
theorem open_pointsB (h : DataW.trod enc Try.prog w base spare held fuel 22 cs = some x) (hw : Light Try.prog 22 x.1) : ∃ a ts c, cs = [.slice a (List.length ts) c] ∧ ts.length ≤ c ∧ ts.length ≤ 1000000000 * 1000000 ∧ SlC w a (pcs ts) ∧ ∀ i, i < ts.length → (ts.getD i (0, 0)).1 < 18446744073709551616 ∧ (ts.getD i (0, 0)).2 < 18446744073709551616 := by
  obtain ⟨a, len, cap, rfl, hc, hb, ha, hx⟩ := open_rowsN Try.underlying22 h hw
  have hb48 : 1 ≤ Try.prog.bytesOf 25 := by decide +kernel
  obtain ⟨ts, hl, ht⟩ := choose_list (p := fun i t => CellsAt w ((aD a).add (i * 2)) (pc t) ∧ (t.1 < 18446744073709551616 ∧ t.2 < 18446744073709551616)) (0, 0) (n := len) (fun i hi => by
    obtain ⟨cs', n, y, h1, h2, h3, h4⟩ := hx i hi
    obtain ⟨t, rfl, hp⟩ := open_pointB h3
    rw [cells25] at h2
    exact ⟨t, h2, hp⟩)
  subst hl
  refine ⟨a, ts, cap, rfl, hc, ?_, ⟨fun h => ha (by rw [pcs_len] at h; omega), fun j v hv => ?_⟩, fun i hi => (ht i hi).2⟩
  · have := Nat.mul_le_mul_left ts.length hb48
    omega
  · have hj := (List.getElem?_eq_some_iff.1 hv).1
    rw [pcs_len] at hj
    have hi : j / 2 < ts.length := by omega
    have h1 := (ht (j / 2) hi).1
    have hq : (pc (ts.getD (j / 2) (0, 0)))[j % 2]? = some v := by
      cases hh : (pc (ts.getD (j / 2) (0, 0)))[j % 2]? with
      | none =>
        have := List.getElem?_eq_none_iff.1 hh
        have : (pc (ts.getD (j / 2) (0, 0))).length = 2 := rfl
        omega
      | some u =>
        have := pcs_get hi hh
        rw [show j / 2 * 2 + j % 2 = j by omega, hv] at this
        exact this.symm
    have := h1 (j % 2) v hq
    rw [add_add, show j / 2 * 2 + j % 2 = j by omega] at this
    exact this
theorem open_stateB (h : DataW.trod enc Try.prog w base spare held fuel 57 cs = some x) : ∃ s : Sta, cs = s.cells ∧ s.v < 18446744073709551616 := by
  have hl : cs.length = 5 := by obtain ⟨_, _, _, hl⟩ := fld_sub Try.underlying57 h (i := 0) rfl; rw [cells57] at hl; exact hl
  obtain ⟨b0, e0, w0⟩ := fld_float Try.underlying57 h (i := 0) rfl (by kernel_rfl) Try.underlying23 (by rw [hl]; decide)
  obtain ⟨b1, e1, w1⟩ := fld_float Try.underlying57 h (i := 1) rfl (by kernel_rfl) Try.underlying23 (by rw [hl]; decide)
  obtain ⟨b2, e2, w2⟩ := fld_float Try.underlying57 h (i := 2) rfl (by kernel_rfl) Try.underlying23 (by rw [hl]; decide)
  obtain ⟨b3, e3, w3⟩ := fld_float Try.underlying57 h (i := 3) rfl (by kernel_rfl) Try.underlying23 (by rw [hl]; decide)
  obtain ⟨b4, e4, w4⟩ := fld_float Try.underlying57 h (i := 4) rfl (by kernel_rfl) Try.underlying23 (by rw [hl]; decide)
  match cs, hl with
  | [c0, c1, c2, c3, c4], _ =>
    obtain rfl := Option.some.inj e0
    obtain rfl := Option.some.inj e1
    obtain rfl := Option.some.inj e2
    obtain rfl := Option.some.inj e3
    obtain rfl := Option.some.inj e4
    exact ⟨⟨b0, b1, b2, b3, b4⟩, rfl, by simpa [Lit.wf] using w1⟩
theorem open_trackB (h : DataW.trod enc Try.prog w base spare held fuel 60 cs = some x) : ∃ t : Tk, cs = t.cells ∧ t.xv < 18446744073709551616 ∧ t.yv < 18446744073709551616 := by
  obtain ⟨n2, y2, h2, hl⟩ := fld_sub Try.underlying60 h (i := 2) rfl
  obtain ⟨n3, y3, h3, _⟩ := fld_sub Try.underlying60 h (i := 3) rfl
  rw [cells60] at hl
  replace h2 : DataW.trod enc Try.prog w base spare held n2 57 ((cs.drop 2).take 5) = some y2 := by rw [← cells57]; exact h2
  replace h3 : DataW.trod enc Try.prog w base spare held n3 57 ((cs.drop 7).take 5) = some y3 := by rw [← cells57]; exact h3
  obtain ⟨b0, e0, _⟩ := fld_int Try.underlying60 h (i := 0) rfl (by kernel_rfl) Try.underlying3 (by rw [hl]; decide)
  obtain ⟨b1, e1, _⟩ := fld_int Try.underlying60 h (i := 1) rfl (by kernel_rfl) Try.underlying49 (by rw [hl]; decide)
  obtain ⟨b4, e4, _⟩ := fld_int Try.underlying60 h (i := 4) rfl (by kernel_rfl) Try.underlying58 (by rw [hl]; decide)
  obtain ⟨b5, e5, _⟩ := fld_int Try.underlying60 h (i := 5) rfl (by kernel_rfl) Try.underlying3 (by rw [hl]; decide)
  obtain ⟨b6, e6, _⟩ := fld_float Try.underlying60 h (i := 6) rfl (by kernel_rfl) Try.underlying23 (by rw [hl]; decide)
  match cs, hl with
  | [c0, c1, c2, c3, c4, c5, c6, c7, c8, c9, c10, c11, c12, c13, c14], _ =>
    obtain ⟨s, es, hsv⟩ := open_stateB (cs := [c2, c3, c4, c5, c6]) h2
    obtain ⟨u, eu, huv⟩ := open_stateB (cs := [c7, c8, c9, c10, c11]) h3
    simp only [Sta.cells, List.cons.injEq, and_true] at es eu
    obtain ⟨rfl, rfl, rfl, rfl, rfl, hsv, huv⟩ := es
    obtain ⟨rfl, rfl, rfl, rfl, rfl, hsv, huv⟩ := eu
    obtain rfl := Option.some.inj e0
    obtain rfl := Option.some.inj e1
    obtain rfl := Option.some.inj e4
    obtain rfl := Option.some.inj e5
    obtain rfl := Option.some.inj e6
    exact ⟨⟨b0, b1, s.x, s.v, s.xx, s.xv, s.vv, u.x, u.v, u.xx, u.xv, u.vv, b4, b5, b6⟩, rfl, hsv, huv⟩
theorem open_tracksB (h : DataW.trod enc Try.prog w base spare held fuel 44 cs = some x) (hw : Light Try.prog 44 x.1) : ∃ a ts c, cs = [.slice a (List.length ts) c] ∧ ts.length ≤ c ∧ ts.length ≤ 1000000000 * 1000000 ∧ SlC w a (tcs ts) ∧ ∀ i, i < ts.length → (ts.getD i tk0).xv < 18446744073709551616 ∧ (ts.getD i tk0).yv < 18446744073709551616 := by
  obtain ⟨a, len, cap, rfl, hc, hb, ha, hx⟩ := open_rowsN Try.underlying44 h hw
  have hc15 : Try.prog.cellsOf 60 = 15 := by kernel_rfl
  have hb60 : 1 ≤ Try.prog.bytesOf 60 := by decide +kernel
  obtain ⟨ts, hl, ht⟩ := choose_list (p := fun i t => CellsAt w ((aD a).add (i * 15)) (Tk.cells t) ∧ (t.xv < 18446744073709551616 ∧ t.yv < 18446744073709551616)) tk0 (n := len) (fun i hi => by
    obtain ⟨cs', n, y, h1, h2, h3, h4⟩ := hx i hi
    obtain ⟨t, rfl, hp⟩ := open_trackB h3
    rw [hc15] at h2
    exact ⟨t, h2, hp⟩)
  subst hl
  refine ⟨a, ts, cap, rfl, hc, ?_, ⟨fun h => ha (by rw [tcs_len] at h; omega), fun j v hv => ?_⟩, fun i hi => (ht i hi).2⟩
  · have := Nat.mul_le_mul_left ts.length hb60
    omega
  · have hj := (List.getElem?_eq_some_iff.1 hv).1
    rw [tcs_len] at hj
    have hi : j / 15 < ts.length := by omega
    have h1 := (ht (j / 15) hi).1
    have hq : (ts.getD (j / 15) tk0).cells[j % 15]? = some v := by
      cases hh : (ts.getD (j / 15) tk0).cells[j % 15]? with
      | none =>
        have := List.getElem?_eq_none_iff.1 hh
        have : (ts.getD (j / 15) tk0).cells.length = 15 := rfl
        omega
      | some u =>
        have := tcs_get hi hh
        rw [show j / 15 * 15 + j % 15 = j by omega, hv] at this
        exact this.symm
    have := h1 (j % 15) v hq
    rw [add_add, show j / 15 * 15 + j % 15 = j by omega] at this
    exact this
theorem open_zoneB (h : DataW.trod enc Try.prog w base spare held fuel 40 cs = some x) (hw : Light Try.prog 40 x.1) : ∃ z : AZ, cs = z.cells ∧ SlC w z.a (pcs z.ps) ∧ z.ps.length ≤ 1000000000000000 ∧ ∀ i, i < z.ps.length → (z.ps.getD i (0, 0)).1 < 18446744073709551616 ∧ (z.ps.getD i (0, 0)).2 < 18446744073709551616 := by
  obtain ⟨n1, y1, h1, hl, hw1⟩ := fld_subL Try.underlying40 h hw (i := 1) rfl
  rw [cells40] at hl
  replace h1 : DataW.trod enc Try.prog w base spare held n1 22 ((cs.drop 1).take (Try.prog.cellsOf 22)) = some y1 := h1
  rw [cells22] at h1
  obtain ⟨b0, e0⟩ := fld_string Try.underlying40 h (i := 0) rfl (by kernel_rfl) Try.underlying9 (by rw [hl]; decide)
  match cs, hl with
  | [c0, c1], _ =>
    obtain ⟨a, ps, c, e, _, hm, hs, hbb⟩ := open_pointsB (cs := [c1]) h1 hw1
    obtain rfl := (List.cons.inj e).1
    obtain rfl := Option.some.inj e0
    exact ⟨⟨b0, a, c, ps⟩, rfl, hs, (by show ps.length ≤ _; have h9 : ps.length ≤ 1000000000 * 1000000 := hm; omega), hbb⟩
end
end Go.Proofs.Ytoiobncojfeoiaa
