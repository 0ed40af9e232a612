/-
  A part of the proof: what functions that the statement reaches do, or a plain law on what they do. Each theorem holds under its own premises alone.
-/
import Derived.Test.YtoiobncojfeoiaaTUV2
import Derived.Test.YtoiobncojfeoiaaTUW1
namespace Go.Proofs.Ytoiobncojfeoiaa
open Go Go.Lk
/-! ### Lists of pairs; held, great -/
abbrev PP := Int × Int
end Go.Proofs.Ytoiobncojfeoiaa
