/-
  A part of the proof: what functions that the statement reaches do, or a plain law on what they do. Each theorem holds under its own premises alone.
-/
import Derived.Test.YtoiobncojfeoiaaKitY
import Derived.Test.YtoiobncojfeoiaaTUA
namespace Go.Proofs.Ytoiobncojfeoiaa
open Go Go.Lk
section
variable {H : Type} {enc : TypeId × Value → H} {w : World} {base : Nat} {spare : Nat → Bool} {held : Bool} {fuel : Nat} {cs : List Value} {x : DataW H × List MemPlace}
theorem cells25 : Try.prog.cellsOf 25 = 2 := by kernel_rfl
theorem Try.ownB : ownKnob Try.prog.godebug = none := by kernel_rfl
theorem Try.laidB : laidOutB Try.prog = true := by kernel_rfl
theorem open_point (h : DataW.trod enc Try.prog w base spare held fuel 25 cs = some x) : ∃ p : Pt, cs = pc p := by
  have hl : cs.length = 2 := by obtain ⟨_, _, _, hl⟩ := fld_sub Try.underlying25 h (i := 0) rfl; rw [cells25] at hl; exact hl
  obtain ⟨b0, e0, w0⟩ := fld_float Try.underlying25 h (i := 0) rfl (by kernel_rfl) Try.underlying23 (by rw [hl]; decide)
  obtain ⟨b1, e1, w1⟩ := fld_float Try.underlying25 h (i := 1) rfl (by kernel_rfl) Try.underlying23 (by rw [hl]; decide)
  match cs, hl with
  | [c0, c1], _ =>
    obtain rfl := Option.some.inj e0
    obtain rfl := Option.some.inj e1
    exact ⟨(b0, b1), rfl⟩
theorem open_points (h : DataW.trod enc Try.prog w base spare held fuel 22 cs = some x) (hw : Light Try.prog 22 x.1) : ∃ a ts c, cs = [.slice a (List.length ts) c] ∧ ts.length ≤ c ∧ ts.length ≤ 1000000000 * 1000000 ∧ SlC w a (pcs ts) := by
  obtain ⟨a, len, cap, rfl, hc, hb, ha, hx⟩ := open_rowsN Try.underlying22 h hw
  have hb48 : 1 ≤ Try.prog.bytesOf 25 := by decide +kernel
  obtain ⟨ts, hl, ht⟩ := choose_list (p := fun i t => CellsAt w ((aD a).add (i * 2)) (pc t)) (0, 0) (n := len) (fun i hi => by
    obtain ⟨cs', n, y, h1, h2, h3, h4⟩ := hx i hi
    obtain ⟨t, rfl⟩ := open_point h3
    rw [cells25] at h2
    exact ⟨t, h2⟩)
  subst hl
  refine ⟨a, ts, cap, rfl, hc, ?_, ⟨fun h => ha (by rw [pcs_len] at h; omega), fun j v hv => ?_⟩⟩
  · have := Nat.mul_le_mul_left ts.length hb48
    omega
  · have hj := (List.getElem?_eq_some_iff.1 hv).1
    rw [pcs_len] at hj
    have hi : j / 2 < ts.length := by omega
    have h1 := ht (j / 2) hi
    have hq : (pc (ts.getD (j / 2) (0, 0)))[j % 2]? = some v := by
      cases hh : (pc (ts.getD (j / 2) (0, 0)))[j % 2]? with
      | none =>
        have := List.getElem?_eq_none_iff.1 hh
        have : (pc (ts.getD (j / 2) (0, 0))).length = 2 := rfl
        omega
      | some u =>
        have := pcs_get hi hh
        rw [show j / 2 * 2 + j % 2 = j by omega, hv] at this
        exact this.symm
    have := h1 (j % 2) v hq
    rw [add_add, show j / 2 * 2 + j % 2 = j by omega] at this
    exact this
end
end Go.Proofs.Ytoiobncojfeoiaa
