/-
  A part of the proof: what functions that the statement reaches do, or a plain law on what they do. Each theorem holds under its own premises alone.
-/
import Derived.Test.YtoiobncojfeoiaaKitQ
import Derived.Test.YtoiobncojfeoiaaTUD
import Derived.Test.YtoiobncojfeoiaaTUL
import Derived.Test.YtoiobncojfeoiaaTUP
namespace Go.Proofs.Ytoiobncojfeoiaa
open Go Go.Lk
/-! ### GuardWhen -/
theorem sfB_self (x : Nat) : sfB x x = true := by unfold sfB; cases nnB x <;> simp
end Go.Proofs.Ytoiobncojfeoiaa
