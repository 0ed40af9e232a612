/-
  A part of the proof: what functions that the statement reaches do, or a plain law on what they do. Each theorem holds under its own premises alone.
-/
import Derived.Test.YtoiobncojfeoiaaKitQ
import Derived.Test.YtoiobncojfeoiaaTUW1
import Derived.Test.YtoiobncojfeoiaaTUD
namespace Go.Proofs.Ytoiobncojfeoiaa
open Go Go.Lk
/-! ### Corners from another place on, or the other way round -/
/-- an edge that is met on the way -/
def hW (p v : Pt) (most : Nat) (a b : Pt) : Bool := !eqB (wN v (lowW a b) (highW a b)) 0 && hitB p v most (lowW a b) (highW a b)
/-! ### The same edges, told in another order -/
def nx (n j : Nat) : Nat := if j + 1 < n then j + 1 else 0
def rot (n b0 k : Nat) : Nat := if b0 + k < n then b0 + k else b0 + k - n
end Go.Proofs.Ytoiobncojfeoiaa
