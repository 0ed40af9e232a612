/-
  No cell of these rows narrows 'for every input' (looked for: loops, veiled, ifaces, maps, wideKeys, modest, calm, conditions, laid).
  DERIVED. THE GIVEN ROWS OF THIS SEAT. 5 by the template 'for every input the law returns true; each argument reads behind the call as it read before'; 0 by the template 'total and deterministic' (their statements: YtfehgelggjpaaaaTotals.lean).
  GIVEN WITH THE SEED: the statements are not yours to turn. If you find one false, say at which input.
  Laid BY PROGRAM, IN A SANDBOX (cutbox-rows.mjs): the forced cells as the released guide's own fill.sh prints them over the translation d4d3773c7ffb0600… (all of the seat's roots in one cut). By AI agents, Wed Nov 11 2026. No macro, syntax, notation, axiom, sorry.
-/
import Derived.Test.YtfehgelggjpaaaaChecked
import GoSem.Claim
import GoSem.ClaimJoined
import GoSem.ClaimMapViews
import Derived.JoinedTies
import Derived.KernelRfl
namespace Go.Proofs.Ytfehgelggjpaaaa
/- THE CELL 'sum', in the pinned program and in every row, IS THE sha256 OF THE DUMP (.gsa) THAT YtfehgelggjpaaaaProg.lean LOADS. Nothing in Lean hashes anything: it is a label: what it is worth is what the hold of that sum in a sandbox is worth. -/
noncomputable def Try.pinned : Pinned := { name := "ytfehgelggjpaaaa", sum := "d4d3773c7ffb06001a2913a97d3910376d9b3bcec00b75022d98a0a48c6537d5", checked := Try.checked }
namespace Rows
def none {H : Type} : Left H := { results := [], args := [] }

/-- 'lookoutlaw13.StillWeights': WHATEVER THE INPUT: true; the input reads as it did. -/
def stillWeightsSpec : ChangeSpec := { name := "stillWeights", fn := fun _ => fun
  | [d] => { results := [.lit (.bool true)], args := [d] }
  | _ => none }
def stillWeightsRow : OpenClaim := { program := "ytfehgelggjpaaaa", sum := "d4d3773c7ffb06001a2913a97d3910376d9b3bcec00b75022d98a0a48c6537d5", func := "lookout/lookoutlaw13.StillWeights", spec := "stillWeights", apart := false }
def StillWeightsSaid : Prop := stillWeightsRow.holds Try.pinned (OpenSpec.ofChange stillWeightsSpec)

/-- ITS FALSE NEIGHBOUR: 'it returns false'. Refute it at one input. -/
def stillWeightsWrong : ChangeSpec := { name := "stillWeights", fn := fun _ => fun
  | [d] => { results := [.lit (.bool false)], args := [d] }
  | _ => none }
def StillWeightsWrongFalsely : Prop := stillWeightsRow.holds Try.pinned (OpenSpec.ofChange stillWeightsWrong)

/-- 'lookoutlaw13.StillWeighed': WHATEVER THE INPUT: true; the input reads as it did. -/
def stillWeighedSpec : ChangeSpec := { name := "stillWeighed", fn := fun _ => fun
  | [d1, d2, d3] => { results := [.lit (.bool true)], args := [d1, d2, d3] }
  | _ => none }
def stillWeighedRow : OpenClaim := { program := "ytfehgelggjpaaaa", sum := "d4d3773c7ffb06001a2913a97d3910376d9b3bcec00b75022d98a0a48c6537d5", func := "lookout/lookoutlaw13.StillWeighed", spec := "stillWeighed", apart := false }
def StillWeighedSaid : Prop := stillWeighedRow.holds Try.pinned (OpenSpec.ofChange stillWeighedSpec)

/-- ITS FALSE NEIGHBOUR: 'it returns false'. Refute it at one input. -/
def stillWeighedWrong : ChangeSpec := { name := "stillWeighed", fn := fun _ => fun
  | [d1, d2, d3] => { results := [.lit (.bool false)], args := [d1, d2, d3] }
  | _ => none }
def StillWeighedWrongFalsely : Prop := stillWeighedRow.holds Try.pinned (OpenSpec.ofChange stillWeighedWrong)

/-- 'lookoutlaw13.StillMaps': WHATEVER THE INPUT: true; the input reads as it did. -/
def stillMapsSpec : ChangeSpec := { name := "stillMaps", fn := fun _ => fun
  | [d1, d2, d3] => { results := [.lit (.bool true)], args := [d1, d2, d3] }
  | _ => none }
def stillMapsRow : OpenClaim := { program := "ytfehgelggjpaaaa", sum := "d4d3773c7ffb06001a2913a97d3910376d9b3bcec00b75022d98a0a48c6537d5", func := "lookout/lookoutlaw13.StillMaps", spec := "stillMaps", inPlace := ["math.Float64bits"], apart := false }
def StillMapsSaid : Prop := stillMapsRow.holds Try.pinned (OpenSpec.ofChange stillMapsSpec)

/-- ITS FALSE NEIGHBOUR: 'it returns false'. Refute it at one input. -/
def stillMapsWrong : ChangeSpec := { name := "stillMaps", fn := fun _ => fun
  | [d1, d2, d3] => { results := [.lit (.bool false)], args := [d1, d2, d3] }
  | _ => none }
def StillMapsWrongFalsely : Prop := stillMapsRow.holds Try.pinned (OpenSpec.ofChange stillMapsWrong)

/-- 'lookoutlaw13.StillNil': WHATEVER THE INPUT: true; the input reads as it did. -/
def stillNilSpec : ChangeSpec := { name := "stillNil", fn := fun _ => fun
  | [d1, d2] => { results := [.lit (.bool true)], args := [d1, d2] }
  | _ => none }
def stillNilRow : OpenClaim := { program := "ytfehgelggjpaaaa", sum := "d4d3773c7ffb06001a2913a97d3910376d9b3bcec00b75022d98a0a48c6537d5", func := "lookout/lookoutlaw13.StillNil", spec := "stillNil", inPlace := ["math.Float64bits"], apart := false }
def StillNilSaid : Prop := stillNilRow.holds Try.pinned (OpenSpec.ofChange stillNilSpec)

/-- ITS FALSE NEIGHBOUR: 'it returns false'. Refute it at one input. -/
def stillNilWrong : ChangeSpec := { name := "stillNil", fn := fun _ => fun
  | [d1, d2] => { results := [.lit (.bool false)], args := [d1, d2] }
  | _ => none }
def StillNilWrongFalsely : Prop := stillNilRow.holds Try.pinned (OpenSpec.ofChange stillNilWrong)

/-- 'lookoutlaw13.StillSettles': WHATEVER THE INPUT: true; the input reads as it did. -/
def stillSettlesSpec : ChangeSpec := { name := "stillSettles", fn := fun _ => fun
  | [d1, d2] => { results := [.lit (.bool true)], args := [d1, d2] }
  | _ => none }
def stillSettlesRow : OpenClaim := { program := "ytfehgelggjpaaaa", sum := "d4d3773c7ffb06001a2913a97d3910376d9b3bcec00b75022d98a0a48c6537d5", func := "lookout/lookoutlaw13.StillSettles", spec := "stillSettles", inPlace := ["math.Float64bits", "math.Float64frombits"], apart := false }
def StillSettlesSaid : Prop := stillSettlesRow.holds Try.pinned (OpenSpec.ofChange stillSettlesSpec)

/-- ITS FALSE NEIGHBOUR: 'it returns false'. Refute it at one input. -/
def stillSettlesWrong : ChangeSpec := { name := "stillSettles", fn := fun _ => fun
  | [d1, d2] => { results := [.lit (.bool false)], args := [d1, d2] }
  | _ => none }
def StillSettlesWrongFalsely : Prop := stillSettlesRow.holds Try.pinned (OpenSpec.ofChange stillSettlesWrong)

/- THE SECOND FORM. 'bulk': how many values and letters a reading holds, each counted each time it is reached (what is shared counts as often as it is met; a slice's spare places count too). A statement '..UptoSaid' is the law's where the arguments, and the package variables that the reading takes, are together of bulk at most 1048576: NARROWER than '..Said'. Prove '..Said' where nothing that the law and all that it calls make is longer than what came in: it says more and counts as full. Else prove '..UptoSaid'. A law counts once. -/
mutual
def uptoBulk {H : Type} : DataW H → Nat
  | .lit (.string bytes) => bytes.length + 1
  | .lit _ => 1
  | .nil => 1
  | .ptr d => uptoBulk d + 1
  | .slice elems spare => uptoBulkAll elems + uptoBulkAll spare + 1
  | .agg parts => uptoBulkAll parts + 1
  | .iface _ d => uptoBulk d + 1
  | .map entries => uptoBulkEntries entries + 1
  | .held _ => 1
def uptoBulkAll {H : Type} : List (DataW H) → Nat
  | [] => 0
  | d :: r => uptoBulk d + uptoBulkAll r
def uptoBulkEntries {H : Type} : List (Lit × DataW H) → Nat
  | [] => 0
  | x :: r => uptoBulkEntry x + uptoBulkEntries r
def uptoBulkEntry {H : Type} : Lit × DataW H → Nat
  | (.string bytes, d) => bytes.length + uptoBulk d + 1
  | (_, d) => uptoBulk d + 1
 end
def uptoSmall : (H : Type) → List (DataW H) → Bool := fun _ ds => decide (uptoBulkAll ds ≤ 1048576)
def OpenSpec.upto (s : _root_.Go.ChangeSpec) : _root_.Go.OpenSpec := { _root_.Go.OpenSpec.ofChange s with cond := some uptoSmall }

/-- 'lookoutlaw13.StillWeights', WHERE WHAT IT READS IS OF BULK AT MOST 1048576: true; the input reads as it did. -/
def stillWeightsUptoRow : OpenClaim := { program := "ytfehgelggjpaaaa", sum := "d4d3773c7ffb06001a2913a97d3910376d9b3bcec00b75022d98a0a48c6537d5", func := "lookout/lookoutlaw13.StillWeights", spec := "stillWeights", apart := false, narrowed := true }
def StillWeightsUptoSaid : Prop := stillWeightsUptoRow.holds Try.pinned (OpenSpec.upto stillWeightsSpec)

/-- 'lookoutlaw13.StillWeighed', WHERE WHAT IT READS IS OF BULK AT MOST 1048576: true; the input reads as it did. -/
def stillWeighedUptoRow : OpenClaim := { program := "ytfehgelggjpaaaa", sum := "d4d3773c7ffb06001a2913a97d3910376d9b3bcec00b75022d98a0a48c6537d5", func := "lookout/lookoutlaw13.StillWeighed", spec := "stillWeighed", apart := false, narrowed := true }
def StillWeighedUptoSaid : Prop := stillWeighedUptoRow.holds Try.pinned (OpenSpec.upto stillWeighedSpec)

/-- 'lookoutlaw13.StillMaps', WHERE WHAT IT READS IS OF BULK AT MOST 1048576: true; the input reads as it did. -/
def stillMapsUptoRow : OpenClaim := { program := "ytfehgelggjpaaaa", sum := "d4d3773c7ffb06001a2913a97d3910376d9b3bcec00b75022d98a0a48c6537d5", func := "lookout/lookoutlaw13.StillMaps", spec := "stillMaps", inPlace := ["math.Float64bits"], apart := false, narrowed := true }
def StillMapsUptoSaid : Prop := stillMapsUptoRow.holds Try.pinned (OpenSpec.upto stillMapsSpec)

/-- 'lookoutlaw13.StillNil', WHERE WHAT IT READS IS OF BULK AT MOST 1048576: true; the input reads as it did. -/
def stillNilUptoRow : OpenClaim := { program := "ytfehgelggjpaaaa", sum := "d4d3773c7ffb06001a2913a97d3910376d9b3bcec00b75022d98a0a48c6537d5", func := "lookout/lookoutlaw13.StillNil", spec := "stillNil", inPlace := ["math.Float64bits"], apart := false, narrowed := true }
def StillNilUptoSaid : Prop := stillNilUptoRow.holds Try.pinned (OpenSpec.upto stillNilSpec)

/-- 'lookoutlaw13.StillSettles', WHERE WHAT IT READS IS OF BULK AT MOST 1048576: true; the input reads as it did. -/
def stillSettlesUptoRow : OpenClaim := { program := "ytfehgelggjpaaaa", sum := "d4d3773c7ffb06001a2913a97d3910376d9b3bcec00b75022d98a0a48c6537d5", func := "lookout/lookoutlaw13.StillSettles", spec := "stillSettles", inPlace := ["math.Float64bits", "math.Float64frombits"], apart := false, narrowed := true }
def StillSettlesUptoSaid : Prop := stillSettlesUptoRow.holds Try.pinned (OpenSpec.upto stillSettlesSpec)

end Rows
end Go.Proofs.Ytfehgelggjpaaaa
