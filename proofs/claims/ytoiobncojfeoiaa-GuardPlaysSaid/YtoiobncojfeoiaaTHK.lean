/-
  A part of the proof: what functions that the statement reaches do, or a plain law on what they do. Each theorem holds under its own premises alone.
-/
import Derived.Test.YtoiobncojfeoiaaTHI
namespace Go.Proofs.Ytoiobncojfeoiaa
open Go Go.Lk
/-! ### GuardPlays: the operations that came in -/
section
variable {H : Type} {enc : TypeId × Value → H} {w : World} {base : Nat} {spare : Nat → Bool} {held : Bool} {fuel : Nat} {cs : List Value} {x : DataW H × List MemPlace}
theorem cells75 : Try.prog.cellsOf 75 = 6 := by kernel_rfl
theorem open_op (h : DataW.trod enc Try.prog w base spare held fuel 75 cs = some x) (hw : Light Try.prog 75 x.1) : ∃ o : OPr, cs = o.cells ∧ OpOk w o := by
  obtain ⟨n1, y1, h1, hl, hw1⟩ := fld_subL Try.underlying75 h hw (i := 1) rfl
  obtain ⟨n4, y4, h4, _, hw4⟩ := fld_subL Try.underlying75 h hw (i := 4) rfl
  rw [cells75] at hl
  replace h1 : DataW.trod enc Try.prog w base spare held n1 40 ((cs.drop 1).take (Try.prog.cellsOf 40)) = some y1 := h1
  rw [cells40] at h1
  replace h4 : DataW.trod enc Try.prog w base spare held n4 44 ((cs.drop 5).take (Try.prog.cellsOf 44)) = some y4 := h4
  rw [cells44] at h4
  obtain ⟨b0, e0, _⟩ := fld_int Try.underlying75 h (i := 0) rfl (by kernel_rfl) Try.underlying3 (by rw [hl]; decide)
  obtain ⟨b2, e2, _⟩ := fld_int Try.underlying75 h (i := 2) rfl (by kernel_rfl) Try.underlying3 (by rw [hl]; decide)
  obtain ⟨b3, e3, _⟩ := fld_float Try.underlying75 h (i := 3) rfl (by kernel_rfl) Try.underlying23 (by rw [hl]; decide)
  match cs, hl with
  | [c0, c1, c2, c3, c4, c5], _ =>
    obtain ⟨z, ez, zs, zl, zb⟩ := open_zoneB (cs := [c1, c2]) h1 hw1
    obtain ⟨a, ts, c, e, _, hm, hs, _⟩ := open_tracksB (cs := [c5]) h4 hw4
    simp only [AZ.cells, List.cons.injEq, and_true] at ez
    obtain ⟨rfl, rfl⟩ := ez
    obtain rfl := (List.cons.inj e).1
    obtain rfl := Option.some.inj e0
    obtain rfl := Option.some.inj e2
    obtain rfl := Option.some.inj e3
    refine ⟨⟨b0, z.name, z.a, z.c, z.ps, b2, b3, a, c, ts⟩, rfl, ⟨zs, zl, fun p hp => ?_, hs, (by show ts.length ≤ _; have h9 : ts.length ≤ 1000000000 * 1000000 := hm; omega)⟩⟩
    obtain ⟨i, hi, rfl⟩ := List.getElem_of_mem hp
    have := zb i hi
    rw [List.getD_eq_getElem?_getD, List.getElem?_eq_getElem hi] at this
    exact this
theorem open_ops (h : DataW.trod enc Try.prog w base spare held fuel 69 cs = some x) (hw : Light Try.prog 69 x.1) : ∃ a ts c, cs = [.slice a (List.length ts) c] ∧ ts.length ≤ 1000000000000000 ∧ SlC w a (ocs ts) ∧ ∀ i, i < ts.length → OpOk w (ts.getD i op0) := by
  obtain ⟨a, len, cap, rfl, hc, hb, ha, hx⟩ := open_rowsN Try.underlying69 h hw
  have hbE : 1 ≤ Try.prog.bytesOf 75 := by decide +kernel
  obtain ⟨ts, hl, ht⟩ := choose_list (p := fun i t => CellsAt w ((aD a).add (i * 6)) (OPr.cells t) ∧ OpOk w t) op0 (n := len) (fun i hi => by
    obtain ⟨cs', n, y, h1, h2, h3, h4⟩ := hx i hi
    obtain ⟨t, rfl, hp⟩ := open_op h3 h4
    rw [cells75] at h2
    exact ⟨t, h2, hp⟩)
  subst hl
  refine ⟨a, ts, cap, rfl, ?_, ⟨fun h => ha (by rw [ocs_len] at h; omega), fun j v hv => ?_⟩, fun i hi => (ht i hi).2⟩
  · have := Nat.mul_le_mul_left ts.length hbE
    omega
  · have hj := (List.getElem?_eq_some_iff.1 hv).1
    rw [ocs_len] at hj
    have hi : j / 6 < ts.length := by omega
    have h1 := (ht (j / 6) hi).1
    have hq : (ts.getD (j / 6) op0).cells[j % 6]? = some v := by
      cases hh : (ts.getD (j / 6) op0).cells[j % 6]? with
      | none =>
        have := List.getElem?_eq_none_iff.1 hh
        have : (ts.getD (j / 6) op0).cells.length = 6 := rfl
        omega
      | some u =>
        have := ocs_get hi hh
        rw [show j / 6 * 6 + j % 6 = j by omega, hv] at this
        exact this.symm
    have := h1 (j % 6) v hq
    rw [add_add, show j / 6 * 6 + j % 6 = j by omega] at this
    exact this
end
end Go.Proofs.Ytoiobncojfeoiaa
