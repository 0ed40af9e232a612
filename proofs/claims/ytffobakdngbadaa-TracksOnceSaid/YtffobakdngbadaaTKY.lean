/-
 A part of the proof: what functions that the statement reaches do, or a plain law on what they do. Each theorem holds under its own premises alone.
-/
import Derived.Test.YtffobakdngbadaaTKX
namespace Go.Proofs.Ytffobakdngbadaa
open Go Go.Lk
/-! ### TracksLeast -/
theorem Bok.ok.more {w0 : World} {n m : Nat} {k : Bok} (h : k.ok w0 n) (hnm : n ≤ m) : k.ok w0 m :=
 ⟨h.B, h.mb, h.each, h.ents, h.low, h.next1, h.next2, fun o ho => by have := h.hist o ho; omega, h.rul, h.cnt⟩
structure RulLt (r : Rul) : Prop where
 noise : r.noise < 18446744073709551616
 sway : r.sway < 18446744073709551616
 gate : r.gate < 18446744073709551616
end Go.Proofs.Ytffobakdngbadaa
