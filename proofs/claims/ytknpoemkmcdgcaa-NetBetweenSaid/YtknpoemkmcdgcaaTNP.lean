/-
  A part of the proof: what functions that the statement reaches do, or a plain law on what they do. Each theorem holds under its own premises alone.
-/
import Derived.Test.YtknpoemkmcdgcaaKitY
import Derived.Test.YtknpoemkmcdgcaaTNO
namespace Go.Proofs.Ytknpoemkmcdgcaa
open Go Go.Lk
section
variable {H : Type} {enc : TypeId × Value → H} {w : World} {base : Nat} {spare : Nat → Bool} {held : Bool} {fuel : Nat} {cs : List Value} {x : DataW H × List MemPlace}
theorem cells45 : Try.prog.cellsOf 45 = 5 := by kernel_rfl
theorem cells35 : Try.prog.cellsOf 35 = 2 := by kernel_rfl
theorem cells37 : Try.prog.cellsOf 37 = 3 := by kernel_rfl
theorem cells48 : Try.prog.cellsOf 48 = 15 := by kernel_rfl
theorem cells40 : Try.prog.cellsOf 40 = 6 := by kernel_rfl
theorem cells38 : Try.prog.cellsOf 38 = 1 := by kernel_rfl
theorem flt_wf {b : Nat} (h : (Lit.float .f64 b).wf = true) : b < 18446744073709551616 := by simpa [Lit.wf] using h
theorem open_state (h : DataW.trod enc Try.prog w base spare held fuel 45 cs = some x) : ∃ s : Sta, cs = s.cells ∧ s.x < 18446744073709551616 ∧ s.v < 18446744073709551616 ∧ s.xx < 18446744073709551616 ∧ s.xv < 18446744073709551616 ∧ s.vv < 18446744073709551616 := by
  have hl : cs.length = 5 := by obtain ⟨_, _, _, hl⟩ := fld_sub Try.underlying45 h (i := 0) rfl; rw [cells45] at hl; exact hl
  obtain ⟨b0, e0, w0⟩ := fld_float Try.underlying45 h (i := 0) rfl (by kernel_rfl) Try.underlying22 (by rw [hl]; decide)
  obtain ⟨b1, e1, w1⟩ := fld_float Try.underlying45 h (i := 1) rfl (by kernel_rfl) Try.underlying22 (by rw [hl]; decide)
  obtain ⟨b2, e2, w2⟩ := fld_float Try.underlying45 h (i := 2) rfl (by kernel_rfl) Try.underlying22 (by rw [hl]; decide)
  obtain ⟨b3, e3, w3⟩ := fld_float Try.underlying45 h (i := 3) rfl (by kernel_rfl) Try.underlying22 (by rw [hl]; decide)
  obtain ⟨b4, e4, w4⟩ := fld_float Try.underlying45 h (i := 4) rfl (by kernel_rfl) Try.underlying22 (by rw [hl]; decide)
  match cs, hl with
  | [c0, c1, c2, c3, c4], _ =>
    obtain rfl := Option.some.inj e0
    obtain rfl := Option.some.inj e1
    obtain rfl := Option.some.inj e2
    obtain rfl := Option.some.inj e3
    obtain rfl := Option.some.inj e4
    exact ⟨⟨b0, b1, b2, b3, b4⟩, rfl, flt_wf w0, flt_wf w1, flt_wf w2, flt_wf w3, flt_wf w4⟩
theorem open_point (h : DataW.trod enc Try.prog w base spare held fuel 35 cs = some x) : ∃ a b, cs = [.float .f64 a, .float .f64 b] ∧ a < 18446744073709551616 ∧ b < 18446744073709551616 := by
  have hl : cs.length = 2 := by obtain ⟨_, _, _, hl⟩ := fld_sub Try.underlying35 h (i := 0) rfl; rw [cells35] at hl; exact hl
  obtain ⟨b0, e0, w0⟩ := fld_float Try.underlying35 h (i := 0) rfl (by kernel_rfl) Try.underlying22 (by rw [hl]; decide)
  obtain ⟨b1, e1, w1⟩ := fld_float Try.underlying35 h (i := 1) rfl (by kernel_rfl) Try.underlying22 (by rw [hl]; decide)
  match cs, hl with
  | [c0, c1], _ =>
    obtain rfl := Option.some.inj e0
    obtain rfl := Option.some.inj e1
    exact ⟨b0, b1, rfl, flt_wf w0, flt_wf w1⟩
theorem open_site (h : DataW.trod enc Try.prog w base spare held fuel 37 cs = some x) : ∃ a b t, cs = [.float .f64 a, .float .f64 b, .float .f64 t] ∧ a < 18446744073709551616 ∧ b < 18446744073709551616 ∧ t < 18446744073709551616 := by
  obtain ⟨n, y, h0, hl⟩ := fld_sub Try.underlying37 h (i := 0) rfl
  rw [cells37] at hl
  replace h0 : DataW.trod enc Try.prog w base spare held n 35 ((cs.drop 0).take 2) = some y := by rw [← cells35]; exact h0
  obtain ⟨b2, e2, w2⟩ := fld_float Try.underlying37 h (i := 1) rfl (by kernel_rfl) Try.underlying22 (by rw [hl]; decide)
  match cs, hl with
  | [c0, c1, c2], _ =>
    obtain ⟨a, b, e, wa, wb⟩ := open_point (cs := [c0, c1]) h0
    injection e with e1 e3
    injection e3 with e3 _
    subst e1 e3
    obtain rfl := Option.some.inj e2
    exact ⟨a, b, b2, rfl, wa, wb, flt_wf w2⟩
theorem open_track (h : DataW.trod enc Try.prog w base spare held fuel 48 cs = some x) : ∃ t : Tk, cs = t.cells ∧ TkLt t := by
  obtain ⟨n2, y2, h2, hl⟩ := fld_sub Try.underlying48 h (i := 2) rfl
  obtain ⟨n3, y3, h3, _⟩ := fld_sub Try.underlying48 h (i := 3) rfl
  rw [cells48] at hl
  replace h2 : DataW.trod enc Try.prog w base spare held n2 45 ((cs.drop 2).take 5) = some y2 := by rw [← cells45]; exact h2
  replace h3 : DataW.trod enc Try.prog w base spare held n3 45 ((cs.drop 7).take 5) = some y3 := by rw [← cells45]; exact h3
  obtain ⟨b0, e0, _⟩ := fld_int Try.underlying48 h (i := 0) rfl (by kernel_rfl) Try.underlying3 (by rw [hl]; decide)
  obtain ⟨b1, e1, _⟩ := fld_int Try.underlying48 h (i := 1) rfl (by kernel_rfl) Try.underlying43 (by rw [hl]; decide)
  obtain ⟨b4, e4, _⟩ := fld_int Try.underlying48 h (i := 4) rfl (by kernel_rfl) Try.underlying46 (by rw [hl]; decide)
  obtain ⟨b5, e5, _⟩ := fld_int Try.underlying48 h (i := 5) rfl (by kernel_rfl) Try.underlying3 (by rw [hl]; decide)
  obtain ⟨b6, e6, _⟩ := fld_float Try.underlying48 h (i := 6) rfl (by kernel_rfl) Try.underlying22 (by rw [hl]; decide)
  match cs, hl with
  | [c0, c1, c2, c3, c4, c5, c6, c7, c8, c9, c10, c11, c12, c13, c14], _ =>
    obtain ⟨s, es, ws1, ws2, _⟩ := open_state (cs := [c2, c3, c4, c5, c6]) h2
    obtain ⟨u, eu, wu1, wu2, _⟩ := open_state (cs := [c7, c8, c9, c10, c11]) h3
    simp only [Sta.cells, List.cons.injEq, and_true] at es eu
    obtain ⟨rfl, rfl, rfl, rfl, rfl⟩ := es
    obtain ⟨rfl, rfl, rfl, rfl, rfl⟩ := eu
    obtain rfl := Option.some.inj e0
    obtain rfl := Option.some.inj e1
    obtain rfl := Option.some.inj e4
    obtain rfl := Option.some.inj e5
    obtain rfl := Option.some.inj e6
    exact ⟨⟨b0, b1, s.x, s.v, s.xx, s.xv, s.vv, u.x, u.v, u.xx, u.xv, u.vv, b4, b5, b6⟩, rfl, ⟨ws1, ws2, wu1, wu2⟩⟩
theorem open_tracks (h : DataW.trod enc Try.prog w base spare held fuel 38 cs = some x) (hw : Light Try.prog 38 x.1) : ∃ a ts c, cs = [.slice a (List.length ts) c] ∧ ts.length ≤ c ∧ ts.length ≤ 1000000000 * 1000000 ∧ SlC w a (tcs ts) ∧ ∀ i, i < ts.length → TkLt (ts.getD i tk0) := by
  obtain ⟨a, len, cap, rfl, hc, hb, ha, hx⟩ := open_rowsN Try.underlying38 h hw
  have hc15 : Try.prog.cellsOf 48 = 15 := by kernel_rfl
  have hb48 : 1 ≤ Try.prog.bytesOf 48 := by decide +kernel
  obtain ⟨ts, hl, ht⟩ := choose_list (p := fun i t => CellsAt w ((aD a).add (i * 15)) (Tk.cells t) ∧ TkLt t) tk0 (n := len) (fun i hi => by
    obtain ⟨cs', n, y, h1, h2, h3, h4⟩ := hx i hi
    obtain ⟨t, rfl, hlt⟩ := open_track h3
    rw [hc15] at h2
    exact ⟨t, h2, hlt⟩)
  subst hl
  refine ⟨a, ts, cap, rfl, hc, ?_, ⟨fun h => ha (by rw [tcs_len] at h; omega), fun j v hv => ?_⟩, fun i hi => (ht i hi).2⟩
  · have := Nat.mul_le_mul_left ts.length hb48
    omega
  · have hj := (List.getElem?_eq_some_iff.1 hv).1
    rw [tcs_len] at hj
    have hi : j / 15 < ts.length := by omega
    have h1 := (ht (j / 15) hi).1
    have hq : (ts.getD (j / 15) tk0).cells[j % 15]? = some v := by
      cases hh : (ts.getD (j / 15) tk0).cells[j % 15]? with
      | none =>
        have := List.getElem?_eq_none_iff.1 hh
        have : (ts.getD (j / 15) tk0).cells.length = 15 := rfl
        omega
      | some u =>
        have := tcs_get hi hh
        rw [show j / 15 * 15 + j % 15 = j by omega, hv] at this
        exact this.symm
    have := h1 (j % 15) v hq
    rw [add_add, show j / 15 * 15 + j % 15 = j by omega] at this
    exact this
theorem open_move (h : DataW.trod enc Try.prog w base spare held fuel 40 cs = some x) : ∃ d a b t r n y sl, cs = [.int .i64 d, .float .f64 a, .float .f64 b, .float .f64 t, .int .i64 r, sl] ∧ a < 18446744073709551616 ∧ b < 18446744073709551616 ∧ t < 18446744073709551616 ∧ DataW.trod enc Try.prog w base spare held n 38 [sl] = some y := by
  obtain ⟨n1, y1, h1, hl⟩ := fld_sub Try.underlying40 h (i := 1) rfl
  obtain ⟨n3, y3, h3, _⟩ := fld_sub Try.underlying40 h (i := 3) rfl
  rw [cells40] at hl
  replace h1 : DataW.trod enc Try.prog w base spare held n1 37 ((cs.drop 1).take 3) = some y1 := by rw [← cells37]; exact h1
  replace h3 : DataW.trod enc Try.prog w base spare held n3 38 ((cs.drop 5).take 1) = some y3 := by rw [← cells38]; exact h3
  obtain ⟨b0, e0, _⟩ := fld_int Try.underlying40 h (i := 0) rfl (by kernel_rfl) Try.underlying3 (by rw [hl]; decide)
  obtain ⟨b2, e2, _⟩ := fld_int Try.underlying40 h (i := 2) rfl (by kernel_rfl) Try.underlying3 (by rw [hl]; decide)
  match cs, hl with
  | [c0, c1, c2, c3, c4, c5], _ =>
    obtain ⟨a, b, t, es, wa, wb, wt⟩ := open_site (cs := [c1, c2, c3]) h1
    simp only [List.cons.injEq, and_true] at es
    obtain ⟨rfl, rfl, rfl⟩ := es
    obtain rfl := Option.some.inj e0
    obtain rfl := Option.some.inj e2
    exact ⟨b0, a, b, t, b2, n3, y3, c5, rfl, wa, wb, wt, h3⟩
end
theorem Try.ownB : ownKnob Try.prog.godebug = none := by kernel_rfl
theorem Try.laidB : laidOutB Try.prog = true := by kernel_rfl
end Go.Proofs.Ytknpoemkmcdgcaa
