/-
  No cell of these rows narrows 'for every input' (looked for: loops, veiled, ifaces, maps, wideKeys, modest, calm, conditions, laid).
  DERIVED. THE GIVEN ROWS OF THIS SEAT. 5 by the template 'for every input the law returns true; each argument reads behind the call as it read before'; 0 by the template 'total and deterministic' (their statements: YtcfdmenmlemahaaTotals.lean).
  GIVEN WITH THE SEED: the statements are not yours to turn. If you find one false, say at which input.
  Laid BY PROGRAM, IN A SANDBOX (cutbox-rows.mjs): the forced cells as the released guide's own fill.sh prints them over the translation 5242f2a321be6080… (all of the seat's roots in one cut). By AI agents, Wed Nov 11 2026. No macro, syntax, notation, axiom, sorry.
-/
import Derived.Test.YtcfdmenmlemahaaChecked
import GoSem.Claim
import GoSem.ClaimJoined
import GoSem.ClaimMapViews
import Derived.JoinedTies
import Derived.KernelRfl
namespace Go.Proofs.Ytcfdmenmlemahaa
/- THE CELL 'sum', in the pinned program and in every row, IS THE sha256 OF THE DUMP (.gsa) THAT YtcfdmenmlemahaaProg.lean LOADS. Nothing in Lean hashes anything: it is a label: what it is worth is what the hold of that sum in a sandbox is worth. -/
noncomputable def Try.pinned : Pinned := { name := "ytcfdmenmlemahaa", sum := "5242f2a321be6080173b2de4a93dbc8164e84f7d20259d7845eb78b4ceba6746", checked := Try.checked }
namespace Rows
def none {H : Type} : Left H := { results := [], args := [] }

/-- 'lookoutlaw17.PairingLeast': WHATEVER THE INPUT: true; the input reads as it did. -/
def pairingLeastSpec : ChangeSpec := { name := "pairingLeast", fn := fun _ => fun
  | [d] => { results := [.lit (.bool true)], args := [d] }
  | _ => none }
def pairingLeastRow : OpenClaim := { program := "ytcfdmenmlemahaa", sum := "5242f2a321be6080173b2de4a93dbc8164e84f7d20259d7845eb78b4ceba6746", func := "lookout/lookoutlaw17.PairingLeast", spec := "pairingLeast", recurses := true, apart := false }
def PairingLeastSaid : Prop := pairingLeastRow.holds Try.pinned (OpenSpec.ofChange pairingLeastSpec)

/-- ITS FALSE NEIGHBOUR: 'it returns false'. Refute it at one input. -/
def pairingLeastWrong : ChangeSpec := { name := "pairingLeast", fn := fun _ => fun
  | [d] => { results := [.lit (.bool false)], args := [d] }
  | _ => none }
def PairingLeastWrongFalsely : Prop := pairingLeastRow.holds Try.pinned (OpenSpec.ofChange pairingLeastWrong)

/-- 'lookoutlaw17.PairingMoved': WHATEVER THE INPUT: true; the input reads as it did. -/
def pairingMovedSpec : ChangeSpec := { name := "pairingMoved", fn := fun _ => fun
  | [d1, d2, d3, d4, d5, d6] => { results := [.lit (.bool true)], args := [d1, d2, d3, d4, d5, d6] }
  | _ => none }
def pairingMovedRow : OpenClaim := { program := "ytcfdmenmlemahaa", sum := "5242f2a321be6080173b2de4a93dbc8164e84f7d20259d7845eb78b4ceba6746", func := "lookout/lookoutlaw17.PairingMoved", spec := "pairingMoved", apart := false }
def PairingMovedSaid : Prop := pairingMovedRow.holds Try.pinned (OpenSpec.ofChange pairingMovedSpec)

/-- ITS FALSE NEIGHBOUR: 'it returns false'. Refute it at one input. -/
def pairingMovedWrong : ChangeSpec := { name := "pairingMoved", fn := fun _ => fun
  | [d1, d2, d3, d4, d5, d6] => { results := [.lit (.bool false)], args := [d1, d2, d3, d4, d5, d6] }
  | _ => none }
def PairingMovedWrongFalsely : Prop := pairingMovedRow.holds Try.pinned (OpenSpec.ofChange pairingMovedWrong)

/-- 'lookoutlaw17.PairingPlays': WHATEVER THE INPUT: true; the input reads as it did. -/
def pairingPlaysSpec : ChangeSpec := { name := "pairingPlays", fn := fun _ => fun
  | [d1, d2] => { results := [.lit (.bool true)], args := [d1, d2] }
  | _ => none }
def pairingPlaysRow : OpenClaim := { program := "ytcfdmenmlemahaa", sum := "5242f2a321be6080173b2de4a93dbc8164e84f7d20259d7845eb78b4ceba6746", func := "lookout/lookoutlaw17.PairingPlays", spec := "pairingPlays", recurses := true, apart := false }
def PairingPlaysSaid : Prop := pairingPlaysRow.holds Try.pinned (OpenSpec.ofChange pairingPlaysSpec)

/-- ITS FALSE NEIGHBOUR: 'it returns false'. Refute it at one input. -/
def pairingPlaysWrong : ChangeSpec := { name := "pairingPlays", fn := fun _ => fun
  | [d1, d2] => { results := [.lit (.bool false)], args := [d1, d2] }
  | _ => none }
def PairingPlaysWrongFalsely : Prop := pairingPlaysRow.holds Try.pinned (OpenSpec.ofChange pairingPlaysWrong)

/-- 'lookoutlaw17.PairingTells': WHATEVER THE INPUT: true; the input reads as it did. -/
def pairingTellsSpec : ChangeSpec := { name := "pairingTells", fn := fun _ => fun
  | [d] => { results := [.lit (.bool true)], args := [d] }
  | _ => none }
def pairingTellsRow : OpenClaim := { program := "ytcfdmenmlemahaa", sum := "5242f2a321be6080173b2de4a93dbc8164e84f7d20259d7845eb78b4ceba6746", func := "lookout/lookoutlaw17.PairingTells", spec := "pairingTells", apart := false }
def PairingTellsSaid : Prop := pairingTellsRow.holds Try.pinned (OpenSpec.ofChange pairingTellsSpec)

/-- ITS FALSE NEIGHBOUR: 'it returns false'. Refute it at one input. -/
def pairingTellsWrong : ChangeSpec := { name := "pairingTells", fn := fun _ => fun
  | [d] => { results := [.lit (.bool false)], args := [d] }
  | _ => none }
def PairingTellsWrongFalsely : Prop := pairingTellsRow.holds Try.pinned (OpenSpec.ofChange pairingTellsWrong)

/-- 'lookoutlaw17.PairingKnown': WHATEVER THE INPUT: true; the input reads as it did. -/
def pairingKnownSpec : ChangeSpec := { name := "pairingKnown", fn := fun _ => fun
  | [] => { results := [.lit (.bool true)], args := [] }
  | _ => none }
def pairingKnownRow : OpenClaim := { program := "ytcfdmenmlemahaa", sum := "5242f2a321be6080173b2de4a93dbc8164e84f7d20259d7845eb78b4ceba6746", func := "lookout/lookoutlaw17.PairingKnown", spec := "pairingKnown", apart := false }
def PairingKnownSaid : Prop := pairingKnownRow.holds Try.pinned (OpenSpec.ofChange pairingKnownSpec)

/-- ITS FALSE NEIGHBOUR: 'it returns false'. Refute it at one input. -/
def pairingKnownWrong : ChangeSpec := { name := "pairingKnown", fn := fun _ => fun
  | [] => { results := [.lit (.bool false)], args := [] }
  | _ => none }
def PairingKnownWrongFalsely : Prop := pairingKnownRow.holds Try.pinned (OpenSpec.ofChange pairingKnownWrong)

/- THE SECOND FORM. 'bulk': how many values and letters a reading holds, each counted each time it is reached (what is shared counts as often as it is met; a slice's spare places count too). A statement '..UptoSaid' is the law's where the arguments, and the package variables that the reading takes, are together of bulk at most 1048576: NARROWER than '..Said'. Prove '..Said' where nothing that the law and all that it calls make is longer than what came in: it says more and counts as full. Else prove '..UptoSaid'. A law counts once. -/
mutual
def uptoBulk {H : Type} : DataW H → Nat
  | .lit (.string bytes) => bytes.length + 1
  | .lit _ => 1
  | .nil => 1
  | .ptr d => uptoBulk d + 1
  | .slice elems spare => uptoBulkAll elems + uptoBulkAll spare + 1
  | .agg parts => uptoBulkAll parts + 1
  | .iface _ d => uptoBulk d + 1
  | .map entries => uptoBulkEntries entries + 1
  | .held _ => 1
def uptoBulkAll {H : Type} : List (DataW H) → Nat
  | [] => 0
  | d :: r => uptoBulk d + uptoBulkAll r
def uptoBulkEntries {H : Type} : List (Lit × DataW H) → Nat
  | [] => 0
  | x :: r => uptoBulkEntry x + uptoBulkEntries r
def uptoBulkEntry {H : Type} : Lit × DataW H → Nat
  | (.string bytes, d) => bytes.length + uptoBulk d + 1
  | (_, d) => uptoBulk d + 1
 end
def uptoSmall : (H : Type) → List (DataW H) → Bool := fun _ ds => decide (uptoBulkAll ds ≤ 1048576)
def OpenSpec.upto (s : _root_.Go.ChangeSpec) : _root_.Go.OpenSpec := { _root_.Go.OpenSpec.ofChange s with cond := some uptoSmall }

/-- 'lookoutlaw17.PairingLeast', WHERE WHAT IT READS IS OF BULK AT MOST 1048576: true; the input reads as it did. -/
def pairingLeastUptoRow : OpenClaim := { program := "ytcfdmenmlemahaa", sum := "5242f2a321be6080173b2de4a93dbc8164e84f7d20259d7845eb78b4ceba6746", func := "lookout/lookoutlaw17.PairingLeast", spec := "pairingLeast", recurses := true, apart := false, narrowed := true }
def PairingLeastUptoSaid : Prop := pairingLeastUptoRow.holds Try.pinned (OpenSpec.upto pairingLeastSpec)

/-- 'lookoutlaw17.PairingMoved', WHERE WHAT IT READS IS OF BULK AT MOST 1048576: true; the input reads as it did. -/
def pairingMovedUptoRow : OpenClaim := { program := "ytcfdmenmlemahaa", sum := "5242f2a321be6080173b2de4a93dbc8164e84f7d20259d7845eb78b4ceba6746", func := "lookout/lookoutlaw17.PairingMoved", spec := "pairingMoved", apart := false, narrowed := true }
def PairingMovedUptoSaid : Prop := pairingMovedUptoRow.holds Try.pinned (OpenSpec.upto pairingMovedSpec)

/-- 'lookoutlaw17.PairingPlays', WHERE WHAT IT READS IS OF BULK AT MOST 1048576: true; the input reads as it did. -/
def pairingPlaysUptoRow : OpenClaim := { program := "ytcfdmenmlemahaa", sum := "5242f2a321be6080173b2de4a93dbc8164e84f7d20259d7845eb78b4ceba6746", func := "lookout/lookoutlaw17.PairingPlays", spec := "pairingPlays", recurses := true, apart := false, narrowed := true }
def PairingPlaysUptoSaid : Prop := pairingPlaysUptoRow.holds Try.pinned (OpenSpec.upto pairingPlaysSpec)

/-- 'lookoutlaw17.PairingTells', WHERE WHAT IT READS IS OF BULK AT MOST 1048576: true; the input reads as it did. -/
def pairingTellsUptoRow : OpenClaim := { program := "ytcfdmenmlemahaa", sum := "5242f2a321be6080173b2de4a93dbc8164e84f7d20259d7845eb78b4ceba6746", func := "lookout/lookoutlaw17.PairingTells", spec := "pairingTells", apart := false, narrowed := true }
def PairingTellsUptoSaid : Prop := pairingTellsUptoRow.holds Try.pinned (OpenSpec.upto pairingTellsSpec)

/-- 'lookoutlaw17.PairingKnown', WHERE WHAT IT READS IS OF BULK AT MOST 1048576: true; the input reads as it did. -/
def pairingKnownUptoRow : OpenClaim := { program := "ytcfdmenmlemahaa", sum := "5242f2a321be6080173b2de4a93dbc8164e84f7d20259d7845eb78b4ceba6746", func := "lookout/lookoutlaw17.PairingKnown", spec := "pairingKnown", apart := false, narrowed := true }
def PairingKnownUptoSaid : Prop := pairingKnownUptoRow.holds Try.pinned (OpenSpec.upto pairingKnownSpec)

end Rows
end Go.Proofs.Ytcfdmenmlemahaa
