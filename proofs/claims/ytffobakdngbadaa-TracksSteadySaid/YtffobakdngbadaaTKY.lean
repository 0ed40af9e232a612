/-
 A part of the proof: what functions that the statement reaches do, or a plain law on what they do. Each theorem holds under its own premises alone.
-/
import Derived.Test.YtffobakdngbadaaTKX
namespace Go.Proofs.Ytffobakdngbadaa
open Go Go.Lk
/-! ### TracksLeast -/
theorem Bok.ok.more {w0 : World} {n m : Nat} {k : Bok} (h : k.ok w0 n) (hnm : n ≤ m) : k.ok w0 m :=
 ⟨h.B, h.mb, h.each, h.ents, h.low, h.next1, h.next2, fun o ho => by have := h.hist o ho; omega, h.rul, h.cnt⟩
theorem Trk.xat (t : Trk) : ∀ (z : Nat) (v : Value), t.x.cells[z]? = some v → t.cells[2 + z]? = some v
 | 0, _, h => h
 | 1, _, h => h
 | 2, _, h => h
 | 3, _, h => h
 | 4, _, h => h
 | _ + 5, _, h => by simp [Stt.cells] at h
theorem Trk.yat (t : Trk) : ∀ (z : Nat) (v : Value), t.y.cells[z]? = some v → t.cells[7 + z]? = some v
 | 0, _, h => h
 | 1, _, h => h
 | 2, _, h => h
 | 3, _, h => h
 | 4, _, h => h
 | _ + 5, _, h => by simp [Stt.cells] at h
theorem trk_x {w : World} {a : Option Addr} {ts : List Trk} (h : SlC w a (tcs ts)) {j : Nat} (hj : j < ts.length) : CellsAt w ((aD a).add (j * 15 + 2)) (ts.getD j trk0).x.cells :=
 h.sub fun z v hv => by rw [Nat.add_assoc]; exact tcs_get hj (Trk.xat _ z v hv)
theorem trk_y {w : World} {a : Option Addr} {ts : List Trk} (h : SlC w a (tcs ts)) {j : Nat} (hj : j < ts.length) : CellsAt w ((aD a).add (j * 15 + 7)) (ts.getD j trk0).y.cells :=
 h.sub fun z v hv => by rw [Nat.add_assoc]; exact tcs_get hj (Trk.yat _ z v hv)
structure RulLt (r : Rul) : Prop where
 noise : r.noise < 18446744073709551616
 sway : r.sway < 18446744073709551616
 gate : r.gate < 18446744073709551616
end Go.Proofs.Ytffobakdngbadaa
