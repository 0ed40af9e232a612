/-
 A part of the proof: what functions that the statement reaches do, or a plain law on what they do. Each theorem holds under its own premises alone.
-/
import Derived.Test.YtffobakdngbadaaKit
import Derived.Test.YtffobakdngbadaaKitY
import Derived.Test.YtffobakdngbadaaTKY
import Derived.HandedShaped
namespace Go.Proofs.Ytffobakdngbadaa
open Go.ChangeShapes Go.WideShapes Go.ChangeAt Go.RowKit Go.Lk
/-! ### Openers of arguments: a rule, moves -/
theorem Try.ownB : ownKnob Try.prog.godebug = none := by kernel_rfl
theorem Try.laidB : laidOutB Try.prog = true := by kernel_rfl
section
open Go.Deep
variable {H : Type} {enc : TypeId × Value → H} {P : Program} {w : World} {base : Nat} {spare : Nat → Bool} {held : Bool} {fuel : Nat} {t : TypeId} {cs : List Value} {x : DataW H × List MemPlace} {fs : Array Field}
theorem weightsEach_at {P : Program} {H : Type} : ∀ {ts : List TypeId} {ds : List (DataW H)} {i : Nat} {t : TypeId} {d : DataW H}, ts[i]? = some t → ds[i]? = some d → ∀ n ∈ d.weights P t, n ∈ DataW.weightsEach P ts ds
 | t :: ts, d :: ds, 0, t', d', h1, h2, n, hn => by
  obtain rfl := Option.some.inj h1
  obtain rfl := Option.some.inj h2
  simp only [DataW.weightsEach, List.mem_append]
  exact .inl hn
 | t :: ts, d :: ds, i + 1, t', d', h1, h2, n, hn => by
  simp only [DataW.weightsEach, List.mem_append]
  exact .inr (weightsEach_at (i := i) h1 h2 n hn)
theorem fld_subL (ht : P.underlying t = some (.struct fs)) (h : DataW.trod enc P w base spare held fuel t cs = some x) (hw : Light P t x.1) {i : Nat} {f : Field} (hf : fs[i]? = some f) :
  ∃ n y, DataW.trod enc P w base spare held n f.type ((cs.drop f.offset).take (P.cellsOf f.type)) = some y ∧ cs.length = P.cellsOf t ∧ Light P f.type y.1 := by
 obtain ⟨xs, n, _, hx0, hl, hlen, hx⟩ := DataW.trod_struct ht h
 have hi : i < xs.length := by rw [hlen]; exact (Array.getElem?_eq_some_iff.1 hf).1
 refine ⟨n, xs[i], (hx i f hf).trans (List.getElem?_eq_getElem hi), hl, fun m hm => hw m ?_⟩
 rw [hx0]
 have hmm := weightsEach_at (P := P) (ts := fs.toList.map (·.type)) (ds := xs.map (·.1)) (i := i) (t := f.type) (d := xs[i].1) (by rw [List.getElem?_map, Array.getElem?_toList, hf]; rfl) (by rw [List.getElem?_map, List.getElem?_eq_getElem hi]; rfl) m hm
 simp only [DataW.weights, ht]
 exact hmm
end
section
variable {H : Type} {enc : TypeId × Value → H} {w : World} {base : Nat} {spare : Nat → Bool} {held : Bool} {fuel : Nat} {cs : List Value} {x : DataW H × List MemPlace}
theorem cells25 : Try.prog.cellsOf 25 = 4 := by kernel_rfl
theorem cells23 : Try.prog.cellsOf 23 = 1 := by kernel_rfl
theorem cells58 : Try.prog.cellsOf 58 = 5 := by kernel_rfl
theorem cells49 : Try.prog.cellsOf 49 = 6 := by kernel_rfl
theorem flt_wf {b : Nat} (h : (Lit.float .f64 b).wf = true) : b < 18446744073709551616 := by simpa [Lit.wf] using h
theorem open_plot (h : DataW.trod enc Try.prog w base spare held fuel 58 cs = some x) : ∃ s : Plt, cs = s.cells ∧ PltLt s := by
 have hl : cs.length = 5 := by obtain ⟨_, _, _, hl⟩ := fld_sub Try.underlying58 h (i := 0) rfl; rw [cells58] at hl; exact hl
 obtain ⟨b0, e0, w0⟩ := fld_float Try.underlying58 h (i := 0) rfl (by kernel_rfl) Try.underlying22 (by rw [hl]; decide)
 obtain ⟨b1, e1, w1⟩ := fld_float Try.underlying58 h (i := 1) rfl (by kernel_rfl) Try.underlying22 (by rw [hl]; decide)
 obtain ⟨b2, e2, w2⟩ := fld_float Try.underlying58 h (i := 2) rfl (by kernel_rfl) Try.underlying22 (by rw [hl]; decide)
 obtain ⟨b3, e3, w3⟩ := fld_float Try.underlying58 h (i := 3) rfl (by kernel_rfl) Try.underlying22 (by rw [hl]; decide)
 obtain ⟨b4, e4, w4⟩ := fld_float Try.underlying58 h (i := 4) rfl (by kernel_rfl) Try.underlying22 (by rw [hl]; decide)
 match cs, hl with
 | [c0, c1, c2, c3, c4], _ =>
  obtain rfl := Option.some.inj e0
  obtain rfl := Option.some.inj e1
  obtain rfl := Option.some.inj e2
  obtain rfl := Option.some.inj e3
  obtain rfl := Option.some.inj e4
  exact ⟨⟨b0, b1, b2, b3, b4⟩, rfl, ⟨flt_wf w0, flt_wf w3⟩⟩
theorem open_rule (h : DataW.trod enc Try.prog w base spare held fuel 49 cs = some x) : ∃ r : Rul, cs = r.cells ∧ RulLt r := by
 have hl : cs.length = 6 := by obtain ⟨_, _, _, hl⟩ := fld_sub Try.underlying49 h (i := 0) rfl; rw [cells49] at hl; exact hl
 obtain ⟨b0, e0, w0⟩ := fld_float Try.underlying49 h (i := 0) rfl (by kernel_rfl) Try.underlying22 (by rw [hl]; decide)
 obtain ⟨b1, e1, w1⟩ := fld_float Try.underlying49 h (i := 1) rfl (by kernel_rfl) Try.underlying22 (by rw [hl]; decide)
 obtain ⟨b2, e2, w2⟩ := fld_float Try.underlying49 h (i := 2) rfl (by kernel_rfl) Try.underlying22 (by rw [hl]; decide)
 obtain ⟨b3, e3, _⟩ := fld_int Try.underlying49 h (i := 3) rfl (by kernel_rfl) Try.underlying3 (by rw [hl]; decide)
 obtain ⟨b4, e4, _⟩ := fld_int Try.underlying49 h (i := 4) rfl (by kernel_rfl) Try.underlying3 (by rw [hl]; decide)
 obtain ⟨b5, e5, _⟩ := fld_int Try.underlying49 h (i := 5) rfl (by kernel_rfl) Try.underlying3 (by rw [hl]; decide)
 match cs, hl with
 | [c0, c1, c2, c3, c4, c5], _ =>
  obtain rfl := Option.some.inj e0
  obtain rfl := Option.some.inj e1
  obtain rfl := Option.some.inj e2
  obtain rfl := Option.some.inj e3
  obtain rfl := Option.some.inj e4
  obtain rfl := Option.some.inj e5
  exact ⟨⟨b0, b1, b2, b3, b4, b5⟩, rfl, ⟨flt_wf w0, flt_wf w1, flt_wf w2⟩⟩
theorem pcs_of {w : World} {a : Option Addr} {ts : List Plt} (ha : 0 < ts.length → a = some (aD a)) (ht : ∀ i, i < ts.length → CellsAt w ((aD a).add (i * 5)) (ts.getD i plt0).cells) : SlC w a (pcs ts) := by
 refine ⟨fun h => ha (by rw [pcs_len] at h; omega), fun j v hv => ?_⟩
 have hj := (List.getElem?_eq_some_iff.1 hv).1
 rw [pcs_len] at hj
 have hi : j / 5 < ts.length := by omega
 have hq : (ts.getD (j / 5) plt0).cells[j % 5]? = some v := by
  cases hh : (ts.getD (j / 5) plt0).cells[j % 5]? with
  | none =>
   have := List.getElem?_eq_none_iff.1 hh
   have : (ts.getD (j / 5) plt0).cells.length = 5 := rfl
   omega
  | some u =>
   have := pcs_get hi hh
   rw [show j / 5 * 5 + j % 5 = j by omega, hv] at this
   exact this.symm
 have := ht (j / 5) hi (j % 5) v hq
 rw [add_add, show j / 5 * 5 + j % 5 = j by omega] at this
 exact this
theorem open_plots (h : DataW.trod enc Try.prog w base spare held fuel 23 cs = some x) (hw : Light Try.prog 23 x.1) : ∃ a ts c, cs = [.slice a (List.length ts) c] ∧ ts.length ≤ 1000000000000000 ∧ SlC w a (pcs ts) ∧ ∀ i, i < ts.length → PltLt (ts.getD i plt0) := by
 obtain ⟨a, len, cap, rfl, hc, hb, ha, hx⟩ := open_rowsN Try.underlying23 h hw
 have hbE : 1 ≤ Try.prog.bytesOf 58 := by decide +kernel
 obtain ⟨ts, hl, ht⟩ := choose_list (p := fun i t => CellsAt w ((aD a).add (i * 5)) (Plt.cells t) ∧ PltLt t) plt0 (n := len) (fun i hi => by
  obtain ⟨cs', n, y, h1, h2, h3, h4⟩ := hx i hi
  obtain ⟨t, rfl, hlt⟩ := open_plot h3
  rw [cells58] at h2
  exact ⟨t, h2, hlt⟩)
 subst hl
 refine ⟨a, ts, cap, rfl, ?_, pcs_of (fun h => ha (by omega)) (fun i hi => (ht i hi).1), fun i hi => (ht i hi).2⟩
 have := Nat.mul_le_mul_left ts.length hbE
 omega
theorem open_mv (h : DataW.trod enc Try.prog w base spare held fuel 25 cs = some x) (hw : Light Try.prog 25 x.1) : ∃ m : Mv, cs = m.cells ∧ MvOk w m := by
 obtain ⟨n2, y2, h2, hl, hw2⟩ := fld_subL Try.underlying25 h hw (i := 2) rfl
 rw [cells25] at hl
 replace h2 : DataW.trod enc Try.prog w base spare held n2 23 ((cs.drop 2).take 1) = some y2 := by rw [← cells23]; exact h2
 obtain ⟨b0, e0, _⟩ := fld_int Try.underlying25 h (i := 0) rfl (by kernel_rfl) Try.underlying3 (by rw [hl]; decide)
 obtain ⟨b1, e1, w1⟩ := fld_float Try.underlying25 h (i := 1) rfl (by kernel_rfl) Try.underlying22 (by rw [hl]; decide)
 obtain ⟨b3, e3, _⟩ := fld_int Try.underlying25 h (i := 3) rfl (by kernel_rfl) Try.underlying3 (by rw [hl]; decide)
 match cs, hl with
 | [c0, c1, c2, c3], _ =>
  obtain rfl := Option.some.inj e0
  obtain rfl := Option.some.inj e1
  obtain rfl := Option.some.inj e3
  obtain ⟨a', ts, c', e, hm, hs, hlt⟩ := open_plots (cs := [c2]) h2 hw2
  obtain rfl := (List.cons.inj e).1
  exact ⟨⟨b0, b1, a', c', ts, b3⟩, rfl, ⟨flt_wf w1, hs, hm, hlt⟩⟩
theorem open_mvs (h : DataW.trod enc Try.prog w base spare held fuel 50 cs = some x) (hw : Light Try.prog 50 x.1) : ∃ a l c, cs = [.slice a (List.length l) c] ∧ l.length ≤ 1000000000000000 ∧ SlC w a (mcs l) ∧ ∀ i, i < l.length → MvOk w (l.getD i mv0) := by
 obtain ⟨a, len, cap, rfl, hc, hb, ha, hx⟩ := open_rowsN Try.underlying50 h hw
 have hbE : 1 ≤ Try.prog.bytesOf 25 := by decide +kernel
 obtain ⟨l, hl, ht⟩ := choose_list (p := fun i t => CellsAt w ((aD a).add (i * 4)) (Mv.cells t) ∧ MvOk w t) mv0 (n := len) (fun i hi => by
  obtain ⟨cs', n, y, h1, h2, h3, h4⟩ := hx i hi
  obtain ⟨t, rfl, hp⟩ := open_mv h3 h4
  rw [cells25] at h2
  exact ⟨t, h2, hp⟩)
 subst hl
 refine ⟨a, l, cap, rfl, ?_, ⟨fun h => ha (by rw [mcs_len] at h; omega), fun j v hv => ?_⟩, fun i hi => (ht i hi).2⟩
 ·
  have := Nat.mul_le_mul_left l.length hbE
  omega
 ·
  have hj := (List.getElem?_eq_some_iff.1 hv).1
  rw [mcs_len] at hj
  have hi : j / 4 < l.length := by omega
  have h1 := (ht (j / 4) hi).1
  have hq : (l.getD (j / 4) mv0).cells[j % 4]? = some v := by
   cases hh : (l.getD (j / 4) mv0).cells[j % 4]? with
   | none =>
    have := List.getElem?_eq_none_iff.1 hh
    have : (l.getD (j / 4) mv0).cells.length = 4 := rfl
    omega
   | some u =>
    have := mcs_get hi hh
    rw [show j / 4 * 4 + j % 4 = j by omega, hv] at this
    exact this.symm
  have := h1 (j % 4) v hq
  rw [add_add, show j / 4 * 4 + j % 4 = j by omega] at this
  exact this
end
end Go.Proofs.Ytffobakdngbadaa
