/-
 A part of the proof: what functions that the statement reaches do, or a plain law on what they do. Each theorem holds under its own premises alone.
-/
import Derived.Test.YtffobakdngbadaaTKV
namespace Go.Proofs.Ytffobakdngbadaa
open Go Go.Lk
/-! ### Moves; great -/
structure Mv where
 q : Int
 time : Nat
 a : Option Addr
 c : Nat
 ps : List Plt
 id : Int
def Mv.cells (m : Mv) : List Value := [.int .i64 m.q, .float .f64 m.time, .slice m.a m.ps.length m.c, .int .i64 m.id]
structure MvOk (w : World) (m : Mv) : Prop where
 time : m.time < 18446744073709551616
 pl : SlC w m.a (pcs m.ps)
 len : m.ps.length ≤ 1000000000000000
 lt : ∀ i, i < m.ps.length → PltLt (m.ps.getD i plt0)
end Go.Proofs.Ytffobakdngbadaa
