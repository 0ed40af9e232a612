/-
 A part of the proof: what functions that the statement reaches do, or a plain law on what they do. Each theorem holds under its own premises alone.
-/
import Derived.Test.YtffobakdngbadaaTKU
namespace Go.Proofs.Ytffobakdngbadaa
open Go Go.Lk
/-! ### TracksNil -/
end Go.Proofs.Ytffobakdngbadaa
