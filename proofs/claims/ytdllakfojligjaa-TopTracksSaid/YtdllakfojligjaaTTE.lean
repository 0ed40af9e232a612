/-
  A part of the proof: what functions that the statement reaches do, or a plain law on what they do. Each theorem holds under its own premises alone.
-/
import Derived.Test.YtdllakfojligjaaKit
import Derived.Test.YtdllakfojligjaaKitY
import Derived.Test.YtdllakfojligjaaTTD
import Derived.HandedShaped
namespace Go.Proofs.Ytdllakfojligjaa
open Go.ChangeShapes Go.WideShapes Go.ChangeAt Go.RowKit Go.Lk
/-! ### Openers of arguments: sweeps -/
theorem Try.ownB : ownKnob Try.prog.godebug = none := by kernel_rfl
theorem Try.laidB : laidOutB Try.prog = true := by kernel_rfl
section
open Go.Deep
variable {H : Type} {enc : TypeId × Value → H} {P : Program} {w : World} {base : Nat} {spare : Nat → Bool} {held : Bool} {fuel : Nat} {t : TypeId} {cs : List Value} {x : DataW H × List MemPlace} {fs : Array Field}
theorem weightsEach_at {P : Program} {H : Type} : ∀ {ts : List TypeId} {ds : List (DataW H)} {i : Nat} {t : TypeId} {d : DataW H}, ts[i]? = some t → ds[i]? = some d → ∀ n ∈ d.weights P t, n ∈ DataW.weightsEach P ts ds
 | t :: ts, d :: ds, 0, t', d', h1, h2, n, hn => by
  obtain rfl := Option.some.inj h1
  obtain rfl := Option.some.inj h2
  simp only [DataW.weightsEach, List.mem_append]
  exact .inl hn
 | t :: ts, d :: ds, i + 1, t', d', h1, h2, n, hn => by
  simp only [DataW.weightsEach, List.mem_append]
  exact .inr (weightsEach_at (i := i) h1 h2 n hn)
theorem fld_subL (ht : P.underlying t = some (.struct fs)) (h : DataW.trod enc P w base spare held fuel t cs = some x) (hw : Light P t x.1) {i : Nat} {f : Field} (hf : fs[i]? = some f) :
  ∃ n y, DataW.trod enc P w base spare held n f.type ((cs.drop f.offset).take (P.cellsOf f.type)) = some y ∧ cs.length = P.cellsOf t ∧ Light P f.type y.1 := by
 obtain ⟨xs, n, _, hx0, hl, hlen, hx⟩ := DataW.trod_struct ht h
 have hi : i < xs.length := by rw [hlen]; exact (Array.getElem?_eq_some_iff.1 hf).1
 refine ⟨n, xs[i], (hx i f hf).trans (List.getElem?_eq_getElem hi), hl, fun m hm => hw m ?_⟩
 rw [hx0]
 have hmm := weightsEach_at (P := P) (ts := fs.toList.map (·.type)) (ds := xs.map (·.1)) (i := i) (t := f.type) (d := xs[i].1) (by rw [List.getElem?_map, Array.getElem?_toList, hf]; rfl) (by rw [List.getElem?_map, List.getElem?_eq_getElem hi]; rfl) m hm
 simp only [DataW.weights, ht]
 exact hmm
end
section
variable {H : Type} {enc : TypeId × Value → H} {w : World} {base : Nat} {spare : Nat → Bool} {held : Bool} {fuel : Nat} {cs : List Value} {x : DataW H × List MemPlace}
theorem cells40 : Try.prog.cellsOf 40 = 3 := by kernel_rfl
theorem cells31 : Try.prog.cellsOf 31 = 1 := by kernel_rfl
theorem cells3 : Try.prog.cellsOf 3 = 1 := by kernel_rfl
set_option maxRecDepth 20000 in
theorem open_sw (h : DataW.trod enc Try.prog w base spare held fuel 40 cs = some x) (hw : Light Try.prog 40 x.1) : ∃ s : Sw, cs = s.cells ∧ SwOk w s := by
 obtain ⟨n1, y1, h1, hl, hw1⟩ := fld_subL Try.underlying40 h hw (i := 1) rfl
 obtain ⟨n2, y2, h2, _, hw2⟩ := fld_subL Try.underlying40 h hw (i := 2) rfl
 rw [cells40] at hl
 replace h1 : DataW.trod enc Try.prog w base spare held n1 31 ((cs.drop 1).take 1) = some y1 := by rw [← cells31]; exact h1
 replace h2 : DataW.trod enc Try.prog w base spare held n2 31 ((cs.drop 2).take 1) = some y2 := by rw [← cells31]; exact h2
 obtain ⟨b0, e0, _⟩ := fld_int Try.underlying40 h (i := 0) rfl (by kernel_rfl) Try.underlying3 (by rw [hl]; decide)
 match cs, hl with
 | [c0, c1, c2], _ =>
  obtain rfl := Option.some.inj e0
  obtain ⟨a1, k1, xs, e1, _, g1, g2, _⟩ := open_ints' Try.underlying31 Try.underlying3 cells3 (cs := [c1]) h1 hw1
  obtain ⟨a2, k2, ys, e2, _, g3, g4, _⟩ := open_ints' Try.underlying31 Try.underlying3 cells3 (cs := [c2]) h2 hw2
  obtain rfl := (List.cons.inj e1).1
  obtain rfl := (List.cons.inj e2).1
  have hb : Try.prog.bytesOf 3 = 8 := by kernel_rfl
  rw [hb] at g1 g3
  exact ⟨⟨b0, a1, k1, xs, a2, k2, ys⟩, rfl, ⟨g2, g4, by show xs.length ≤ _; omega, by show ys.length ≤ _; omega⟩⟩
theorem open_sws (h : DataW.trod enc Try.prog w base spare held fuel 22 cs = some x) (hw : Light Try.prog 22 x.1) : ∃ a l c, cs = [.slice a (List.length l) c] ∧ l.length ≤ 1000000000000000 ∧ SlC w a (swcs l) ∧ ∀ i, i < l.length → SwOk w (l.getD i sw0) := by
 obtain ⟨a, len, cap, rfl, hc, hb, ha, hx⟩ := open_rowsN Try.underlying22 h hw
 have hbE : 1 ≤ Try.prog.bytesOf 40 := by decide +kernel
 obtain ⟨l, hl, ht⟩ := choose_list (p := fun i t => CellsAt w ((aD a).add (i * 3)) (Sw.cells t) ∧ SwOk w t) sw0 (n := len) (fun i hi => by
  obtain ⟨cs', n, y, h1, h2, h3, h4⟩ := hx i hi
  obtain ⟨t, rfl, hp⟩ := open_sw h3 h4
  rw [cells40] at h2
  exact ⟨t, h2, hp⟩)
 subst hl
 refine ⟨a, l, cap, rfl, ?_, ⟨fun h => ha (by rw [swcs_len] at h; omega), fun j v hv => ?_⟩, fun i hi => (ht i hi).2⟩
 ·
  have := Nat.mul_le_mul_left l.length hbE
  omega
 ·
  have hj := (List.getElem?_eq_some_iff.1 hv).1
  rw [swcs_len] at hj
  have hi : j / 3 < l.length := by omega
  have h1 := (ht (j / 3) hi).1
  have hq : (l.getD (j / 3) sw0).cells[j % 3]? = some v := by
   cases hh : (l.getD (j / 3) sw0).cells[j % 3]? with
   | none =>
    have := List.getElem?_eq_none_iff.1 hh
    have : (l.getD (j / 3) sw0).cells.length = 3 := rfl
    omega
   | some u =>
    have := swcs_get hi hh
    rw [show j / 3 * 3 + j % 3 = j by omega, hv] at this
    exact this.symm
  have := h1 (j % 3) v hq
  rw [add_add, show j / 3 * 3 + j % 3 = j by omega] at this
  exact this
end
end Go.Proofs.Ytdllakfojligjaa
