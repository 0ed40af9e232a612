/-
  No cell of these rows narrows 'for every input' (looked for: loops, veiled, ifaces, maps, wideKeys, modest, calm, conditions, laid).
  DERIVED. THE GIVEN ROWS OF THIS SEAT. 5 by the template 'for every input the law returns true; each argument reads behind the call as it read before'; 0 by the template 'total and deterministic' (their statements: YtoiobncojfeoiaaTotals.lean).
  GIVEN WITH THE SEED: the statements are not yours to turn. If you find one false, say at which input.
  Laid BY PROGRAM, IN A SANDBOX (cutbox-rows.mjs): the forced cells as the released guide's own fill.sh prints them over the translation 32769ddac1332fc8… (all of the seat's roots in one cut). By AI agents, Wed Nov 11 2026. No macro, syntax, notation, axiom, sorry.
-/
import Derived.Test.YtoiobncojfeoiaaChecked
import GoSem.Claim
import GoSem.ClaimJoined
import GoSem.ClaimMapViews
import Derived.JoinedTies
import Derived.KernelRfl
namespace Go.Proofs.Ytoiobncojfeoiaa
/- THE CELL 'sum', in the pinned program and in every row, IS THE sha256 OF THE DUMP (.gsa) THAT YtoiobncojfeoiaaProg.lean LOADS. Nothing in Lean hashes anything: it is a label: what it is worth is what the hold of that sum in a sandbox is worth. -/
noncomputable def Try.pinned : Pinned := { name := "ytoiobncojfeoiaa", sum := "32769ddac1332fc8ccf68a2ffa2a10d447017ba6828856a1bab0119dd7d82630", checked := Try.checked }
namespace Rows
def none {H : Type} : Left H := { results := [], args := [] }

/-- 'lookoutlaw29.GuardWhen': WHATEVER THE INPUT: true; the input reads as it did. -/
def guardWhenSpec : ChangeSpec := { name := "guardWhen", fn := fun _ => fun
  | [d1, d2, d3, d4] => { results := [.lit (.bool true)], args := [d1, d2, d3, d4] }
  | _ => none }
def guardWhenRow : OpenClaim := { program := "ytoiobncojfeoiaa", sum := "32769ddac1332fc8ccf68a2ffa2a10d447017ba6828856a1bab0119dd7d82630", func := "lookout/lookoutlaw29.GuardWhen", spec := "guardWhen", inPlace := ["math.Float64bits"], unfollowed := true, recurses := true, plainKeys := false, apart := false }
def GuardWhenSaid : Prop := guardWhenRow.holds Try.pinned (OpenSpec.ofChange guardWhenSpec)

/-- ITS FALSE NEIGHBOUR: 'it returns false'. Refute it at one input. -/
def guardWhenWrong : ChangeSpec := { name := "guardWhen", fn := fun _ => fun
  | [d1, d2, d3, d4] => { results := [.lit (.bool false)], args := [d1, d2, d3, d4] }
  | _ => none }
def GuardWhenWrongFalsely : Prop := guardWhenRow.holds Try.pinned (OpenSpec.ofChange guardWhenWrong)

/-- 'lookoutlaw29.GuardTurns': WHATEVER THE INPUT: true; the input reads as it did. -/
def guardTurnsSpec : ChangeSpec := { name := "guardTurns", fn := fun _ => fun
  | [d1, d2, d3] => { results := [.lit (.bool true)], args := [d1, d2, d3] }
  | _ => none }
def guardTurnsRow : OpenClaim := { program := "ytoiobncojfeoiaa", sum := "32769ddac1332fc8ccf68a2ffa2a10d447017ba6828856a1bab0119dd7d82630", func := "lookout/lookoutlaw29.GuardTurns", spec := "guardTurns", inPlace := ["math.Float64bits"], unfollowed := true, recurses := true, plainKeys := false, apart := false }
def GuardTurnsSaid : Prop := guardTurnsRow.holds Try.pinned (OpenSpec.ofChange guardTurnsSpec)

/-- ITS FALSE NEIGHBOUR: 'it returns false'. Refute it at one input. -/
def guardTurnsWrong : ChangeSpec := { name := "guardTurns", fn := fun _ => fun
  | [d1, d2, d3] => { results := [.lit (.bool false)], args := [d1, d2, d3] }
  | _ => none }
def GuardTurnsWrongFalsely : Prop := guardTurnsRow.holds Try.pinned (OpenSpec.ofChange guardTurnsWrong)

/-- 'lookoutlaw29.GuardApart': WHATEVER THE INPUT: true; the input reads as it did. -/
def guardApartSpec : ChangeSpec := { name := "guardApart", fn := fun _ => fun
  | [d1, d2, d3, d4, d5, d6] => { results := [.lit (.bool true)], args := [d1, d2, d3, d4, d5, d6] }
  | _ => none }
def guardApartRow : OpenClaim := { program := "ytoiobncojfeoiaa", sum := "32769ddac1332fc8ccf68a2ffa2a10d447017ba6828856a1bab0119dd7d82630", func := "lookout/lookoutlaw29.GuardApart", spec := "guardApart", inPlace := ["math.Float64bits"], unfollowed := true, recurses := true, plainKeys := false, apart := false }
def GuardApartSaid : Prop := guardApartRow.holds Try.pinned (OpenSpec.ofChange guardApartSpec)

/-- ITS FALSE NEIGHBOUR: 'it returns false'. Refute it at one input. -/
def guardApartWrong : ChangeSpec := { name := "guardApart", fn := fun _ => fun
  | [d1, d2, d3, d4, d5, d6] => { results := [.lit (.bool false)], args := [d1, d2, d3, d4, d5, d6] }
  | _ => none }
def GuardApartWrongFalsely : Prop := guardApartRow.holds Try.pinned (OpenSpec.ofChange guardApartWrong)

/-- 'lookoutlaw29.GuardPlays': WHATEVER THE INPUT: true; the input reads as it did. -/
def guardPlaysSpec : ChangeSpec := { name := "guardPlays", fn := fun _ => fun
  | [d1, d2, d3] => { results := [.lit (.bool true)], args := [d1, d2, d3] }
  | _ => none }
def guardPlaysRow : OpenClaim := { program := "ytoiobncojfeoiaa", sum := "32769ddac1332fc8ccf68a2ffa2a10d447017ba6828856a1bab0119dd7d82630", func := "lookout/lookoutlaw29.GuardPlays", spec := "guardPlays", inPlace := ["math.Float64bits"], unfollowed := true, recurses := true, plainKeys := false, apart := false }
def GuardPlaysSaid : Prop := guardPlaysRow.holds Try.pinned (OpenSpec.ofChange guardPlaysSpec)

/-- ITS FALSE NEIGHBOUR: 'it returns false'. Refute it at one input. -/
def guardPlaysWrong : ChangeSpec := { name := "guardPlays", fn := fun _ => fun
  | [d1, d2, d3] => { results := [.lit (.bool false)], args := [d1, d2, d3] }
  | _ => none }
def GuardPlaysWrongFalsely : Prop := guardPlaysRow.holds Try.pinned (OpenSpec.ofChange guardPlaysWrong)

/-- 'lookoutlaw29.GuardKnown': WHATEVER THE INPUT: true; the input reads as it did. -/
def guardKnownSpec : ChangeSpec := { name := "guardKnown", fn := fun _ => fun
  | [] => { results := [.lit (.bool true)], args := [] }
  | _ => none }
def guardKnownRow : OpenClaim := { program := "ytoiobncojfeoiaa", sum := "32769ddac1332fc8ccf68a2ffa2a10d447017ba6828856a1bab0119dd7d82630", func := "lookout/lookoutlaw29.GuardKnown", spec := "guardKnown", inPlace := ["math.Float64frombits", "math.Float64bits"], unfollowed := true, recurses := true, plainKeys := false, apart := false }
def GuardKnownSaid : Prop := guardKnownRow.holds Try.pinned (OpenSpec.ofChange guardKnownSpec)

/-- ITS FALSE NEIGHBOUR: 'it returns false'. Refute it at one input. -/
def guardKnownWrong : ChangeSpec := { name := "guardKnown", fn := fun _ => fun
  | [] => { results := [.lit (.bool false)], args := [] }
  | _ => none }
def GuardKnownWrongFalsely : Prop := guardKnownRow.holds Try.pinned (OpenSpec.ofChange guardKnownWrong)

/- THE SECOND FORM. 'bulk': how many values and letters a reading holds, each counted each time it is reached (what is shared counts as often as it is met; a slice's spare places count too). A statement '..UptoSaid' is the law's where the arguments, and the package variables that the reading takes, are together of bulk at most 1048576: NARROWER than '..Said'. Prove '..Said' where nothing that the law and all that it calls make is longer than what came in: it says more and counts as full. Else prove '..UptoSaid'. A law counts once. -/
mutual
def uptoBulk {H : Type} : DataW H → Nat
  | .lit (.string bytes) => bytes.length + 1
  | .lit _ => 1
  | .nil => 1
  | .ptr d => uptoBulk d + 1
  | .slice elems spare => uptoBulkAll elems + uptoBulkAll spare + 1
  | .agg parts => uptoBulkAll parts + 1
  | .iface _ d => uptoBulk d + 1
  | .map entries => uptoBulkEntries entries + 1
  | .held _ => 1
def uptoBulkAll {H : Type} : List (DataW H) → Nat
  | [] => 0
  | d :: r => uptoBulk d + uptoBulkAll r
def uptoBulkEntries {H : Type} : List (Lit × DataW H) → Nat
  | [] => 0
  | x :: r => uptoBulkEntry x + uptoBulkEntries r
def uptoBulkEntry {H : Type} : Lit × DataW H → Nat
  | (.string bytes, d) => bytes.length + uptoBulk d + 1
  | (_, d) => uptoBulk d + 1
 end
def uptoSmall : (H : Type) → List (DataW H) → Bool := fun _ ds => decide (uptoBulkAll ds ≤ 1048576)
def OpenSpec.upto (s : _root_.Go.ChangeSpec) : _root_.Go.OpenSpec := { _root_.Go.OpenSpec.ofChange s with cond := some uptoSmall }

/-- 'lookoutlaw29.GuardWhen', WHERE WHAT IT READS IS OF BULK AT MOST 1048576: true; the input reads as it did. -/
def guardWhenUptoRow : OpenClaim := { program := "ytoiobncojfeoiaa", sum := "32769ddac1332fc8ccf68a2ffa2a10d447017ba6828856a1bab0119dd7d82630", func := "lookout/lookoutlaw29.GuardWhen", spec := "guardWhen", inPlace := ["math.Float64bits"], unfollowed := true, recurses := true, plainKeys := false, apart := false, narrowed := true }
def GuardWhenUptoSaid : Prop := guardWhenUptoRow.holds Try.pinned (OpenSpec.upto guardWhenSpec)

/-- 'lookoutlaw29.GuardTurns', WHERE WHAT IT READS IS OF BULK AT MOST 1048576: true; the input reads as it did. -/
def guardTurnsUptoRow : OpenClaim := { program := "ytoiobncojfeoiaa", sum := "32769ddac1332fc8ccf68a2ffa2a10d447017ba6828856a1bab0119dd7d82630", func := "lookout/lookoutlaw29.GuardTurns", spec := "guardTurns", inPlace := ["math.Float64bits"], unfollowed := true, recurses := true, plainKeys := false, apart := false, narrowed := true }
def GuardTurnsUptoSaid : Prop := guardTurnsUptoRow.holds Try.pinned (OpenSpec.upto guardTurnsSpec)

/-- 'lookoutlaw29.GuardApart', WHERE WHAT IT READS IS OF BULK AT MOST 1048576: true; the input reads as it did. -/
def guardApartUptoRow : OpenClaim := { program := "ytoiobncojfeoiaa", sum := "32769ddac1332fc8ccf68a2ffa2a10d447017ba6828856a1bab0119dd7d82630", func := "lookout/lookoutlaw29.GuardApart", spec := "guardApart", inPlace := ["math.Float64bits"], unfollowed := true, recurses := true, plainKeys := false, apart := false, narrowed := true }
def GuardApartUptoSaid : Prop := guardApartUptoRow.holds Try.pinned (OpenSpec.upto guardApartSpec)

/-- 'lookoutlaw29.GuardPlays', WHERE WHAT IT READS IS OF BULK AT MOST 1048576: true; the input reads as it did. -/
def guardPlaysUptoRow : OpenClaim := { program := "ytoiobncojfeoiaa", sum := "32769ddac1332fc8ccf68a2ffa2a10d447017ba6828856a1bab0119dd7d82630", func := "lookout/lookoutlaw29.GuardPlays", spec := "guardPlays", inPlace := ["math.Float64bits"], unfollowed := true, recurses := true, plainKeys := false, apart := false, narrowed := true }
def GuardPlaysUptoSaid : Prop := guardPlaysUptoRow.holds Try.pinned (OpenSpec.upto guardPlaysSpec)

/-- 'lookoutlaw29.GuardKnown', WHERE WHAT IT READS IS OF BULK AT MOST 1048576: true; the input reads as it did. -/
def guardKnownUptoRow : OpenClaim := { program := "ytoiobncojfeoiaa", sum := "32769ddac1332fc8ccf68a2ffa2a10d447017ba6828856a1bab0119dd7d82630", func := "lookout/lookoutlaw29.GuardKnown", spec := "guardKnown", inPlace := ["math.Float64frombits", "math.Float64bits"], unfollowed := true, recurses := true, plainKeys := false, apart := false, narrowed := true }
def GuardKnownUptoSaid : Prop := guardKnownUptoRow.holds Try.pinned (OpenSpec.upto guardKnownSpec)

end Rows
end Go.Proofs.Ytoiobncojfeoiaa
