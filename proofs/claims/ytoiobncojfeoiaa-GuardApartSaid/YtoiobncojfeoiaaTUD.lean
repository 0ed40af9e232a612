/-
  A part of the proof: what functions that the statement reaches do, or a plain law on what they do. Each theorem holds under its own premises alone.
-/
import Derived.Test.YtoiobncojfeoiaaTUC
namespace Go.Proofs.Ytoiobncojfeoiaa
open Go Go.Lk
/-! ### The document's When -/
end Go.Proofs.Ytoiobncojfeoiaa
