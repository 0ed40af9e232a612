/-
 A part of the proof: what functions that the statement reaches do, or a plain law on what they do. Each theorem holds under its own premises alone.
-/
import Derived.Test.YtffobakdngbadaaTKP
import Derived.Test.YtffobakdngbadaaKitY
import Derived.Test.YtffobakdngbadaaKitQ
namespace Go.Proofs.Ytffobakdngbadaa
open Go Go.Lk
/-! ### The same floats, states, tracks -/
theorem Stt.parts {s u : Stt} (h : s.c = u.c) : cn s.x = cn u.x ∧ cn s.v = cn u.v ∧ cn s.p = cn u.p ∧ cn s.q = cn u.q ∧ cn s.r = cn u.r :=
 ⟨congrArg Stt.x h, congrArg Stt.v h, congrArg Stt.p h, congrArg Stt.q h, congrArg Stt.r h⟩
end Go.Proofs.Ytffobakdngbadaa
