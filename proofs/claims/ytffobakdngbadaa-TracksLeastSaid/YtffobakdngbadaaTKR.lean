/-
 A part of the proof: what functions that the statement reaches do, or a plain law on what they do. Each theorem holds under its own premises alone.
-/
import Derived.Test.YtffobakdngbadaaTKQ
namespace Go.Proofs.Ytffobakdngbadaa
open Go Go.Lk
/-! ### The same tracks -/
structure TEq (t u : Trk) : Prop where
 id : t.id = u.id
 kind : t.kind = u.kind
 seen : t.seen = u.seen
 steps : t.steps = u.steps
 last : cn t.last = cn u.last
 x : t.x.c = u.x.c
 y : t.y.c = u.y.c
theorem TEq.refl (t : Trk) : TEq t t := ⟨rfl, rfl, rfl, rfl, rfl, rfl, rfl⟩
end Go.Proofs.Ytffobakdngbadaa
