/-
 A part of the proof: what functions that the statement reaches do, or a plain law on what they do. Each theorem holds under its own premises alone.
-/
import Derived.Test.YtffobakdngbadaaKit
import Derived.Test.YtffobakdngbadaaKitY
import Derived.Test.YtffobakdngbadaaTKY
import Derived.HandedShaped
namespace Go.Proofs.Ytffobakdngbadaa
open Go.ChangeShapes Go.WideShapes Go.ChangeAt Go.RowKit Go.Lk
/-! ### Openers of arguments: a rule, moves -/
theorem Try.ownB : ownKnob Try.prog.godebug = none := by kernel_rfl
theorem Try.laidB : laidOutB Try.prog = true := by kernel_rfl
section
open Go.Deep
variable {H : Type} {enc : TypeId × Value → H} {P : Program} {w : World} {base : Nat} {spare : Nat → Bool} {held : Bool} {fuel : Nat} {t : TypeId} {cs : List Value} {x : DataW H × List MemPlace} {fs : Array Field}
end
section
variable {H : Type} {enc : TypeId × Value → H} {w : World} {base : Nat} {spare : Nat → Bool} {held : Bool} {fuel : Nat} {cs : List Value} {x : DataW H × List MemPlace}
theorem cells58 : Try.prog.cellsOf 58 = 5 := by kernel_rfl
theorem cells49 : Try.prog.cellsOf 49 = 6 := by kernel_rfl
theorem flt_wf {b : Nat} (h : (Lit.float .f64 b).wf = true) : b < 18446744073709551616 := by simpa [Lit.wf] using h
theorem open_plot (h : DataW.trod enc Try.prog w base spare held fuel 58 cs = some x) : ∃ s : Plt, cs = s.cells ∧ PltLt s := by
 have hl : cs.length = 5 := by obtain ⟨_, _, _, hl⟩ := fld_sub Try.underlying58 h (i := 0) rfl; rw [cells58] at hl; exact hl
 obtain ⟨b0, e0, w0⟩ := fld_float Try.underlying58 h (i := 0) rfl (by kernel_rfl) Try.underlying22 (by rw [hl]; decide)
 obtain ⟨b1, e1, w1⟩ := fld_float Try.underlying58 h (i := 1) rfl (by kernel_rfl) Try.underlying22 (by rw [hl]; decide)
 obtain ⟨b2, e2, w2⟩ := fld_float Try.underlying58 h (i := 2) rfl (by kernel_rfl) Try.underlying22 (by rw [hl]; decide)
 obtain ⟨b3, e3, w3⟩ := fld_float Try.underlying58 h (i := 3) rfl (by kernel_rfl) Try.underlying22 (by rw [hl]; decide)
 obtain ⟨b4, e4, w4⟩ := fld_float Try.underlying58 h (i := 4) rfl (by kernel_rfl) Try.underlying22 (by rw [hl]; decide)
 match cs, hl with
 | [c0, c1, c2, c3, c4], _ =>
  obtain rfl := Option.some.inj e0
  obtain rfl := Option.some.inj e1
  obtain rfl := Option.some.inj e2
  obtain rfl := Option.some.inj e3
  obtain rfl := Option.some.inj e4
  exact ⟨⟨b0, b1, b2, b3, b4⟩, rfl, ⟨flt_wf w0, flt_wf w3⟩⟩
theorem open_rule (h : DataW.trod enc Try.prog w base spare held fuel 49 cs = some x) : ∃ r : Rul, cs = r.cells ∧ RulLt r := by
 have hl : cs.length = 6 := by obtain ⟨_, _, _, hl⟩ := fld_sub Try.underlying49 h (i := 0) rfl; rw [cells49] at hl; exact hl
 obtain ⟨b0, e0, w0⟩ := fld_float Try.underlying49 h (i := 0) rfl (by kernel_rfl) Try.underlying22 (by rw [hl]; decide)
 obtain ⟨b1, e1, w1⟩ := fld_float Try.underlying49 h (i := 1) rfl (by kernel_rfl) Try.underlying22 (by rw [hl]; decide)
 obtain ⟨b2, e2, w2⟩ := fld_float Try.underlying49 h (i := 2) rfl (by kernel_rfl) Try.underlying22 (by rw [hl]; decide)
 obtain ⟨b3, e3, _⟩ := fld_int Try.underlying49 h (i := 3) rfl (by kernel_rfl) Try.underlying3 (by rw [hl]; decide)
 obtain ⟨b4, e4, _⟩ := fld_int Try.underlying49 h (i := 4) rfl (by kernel_rfl) Try.underlying3 (by rw [hl]; decide)
 obtain ⟨b5, e5, _⟩ := fld_int Try.underlying49 h (i := 5) rfl (by kernel_rfl) Try.underlying3 (by rw [hl]; decide)
 match cs, hl with
 | [c0, c1, c2, c3, c4, c5], _ =>
  obtain rfl := Option.some.inj e0
  obtain rfl := Option.some.inj e1
  obtain rfl := Option.some.inj e2
  obtain rfl := Option.some.inj e3
  obtain rfl := Option.some.inj e4
  obtain rfl := Option.some.inj e5
  exact ⟨⟨b0, b1, b2, b3, b4, b5⟩, rfl, ⟨flt_wf w0, flt_wf w1, flt_wf w2⟩⟩
end
end Go.Proofs.Ytffobakdngbadaa
