/-
  No cell of these rows narrows 'for every input' (looked for: loops, veiled, ifaces, maps, wideKeys, modest, calm, conditions, laid).
  DERIVED. THE GIVEN ROWS OF THIS SEAT. 5 by the template 'for every input the law returns true; each argument reads behind the call as it read before'; 0 by the template 'total and deterministic' (their statements: YtdllakfojligjaaTotals.lean).
  GIVEN WITH THE SEED: the statements are not yours to turn. If you find one false, say at which input.
  Laid BY PROGRAM, IN A SANDBOX (cutbox-rows.mjs): the forced cells as the released guide's own fill.sh prints them over the translation d2aef51806c78bc6… (all of the seat's roots in one cut). By AI agents, Wed Nov 11 2026. No macro, syntax, notation, axiom, sorry.
-/
import Derived.Test.YtdllakfojligjaaChecked
import GoSem.Claim
import GoSem.ClaimJoined
import GoSem.ClaimMapViews
import Derived.JoinedTies
import Derived.KernelRfl
namespace Go.Proofs.Ytdllakfojligjaa
/- THE CELL 'sum', in the pinned program and in every row, IS THE sha256 OF THE DUMP (.gsa) THAT YtdllakfojligjaaProg.lean LOADS. Nothing in Lean hashes anything: it is a label: what it is worth is what the hold of that sum in a sandbox is worth. -/
noncomputable def Try.pinned : Pinned := { name := "ytdllakfojligjaa", sum := "d2aef51806c78bc6279487ace5654bc09774409ef005488624f90fc042ee9b4b", checked := Try.checked }
namespace Rows
def none {H : Type} : Left H := { results := [], args := [] }

/-- 'lookouttop.TopTracks': WHATEVER THE INPUT: true; the input reads as it did. -/
def topTracksSpec : ChangeSpec := { name := "topTracks", fn := fun _ => fun
  | [d1, d2, d3, d4, d5, d6, d7] => { results := [.lit (.bool true)], args := [d1, d2, d3, d4, d5, d6, d7] }
  | _ => none }
def topTracksRow : OpenClaim := { program := "ytdllakfojligjaa", sum := "d2aef51806c78bc6279487ace5654bc09774409ef005488624f90fc042ee9b4b", func := "lookout/lookouttop.TopTracks", spec := "topTracks", inPlace := ["math.Float64bits", "math.Float64frombits", "math.archTrunc", "math.sqrt", "math.archFloor"], unfollowed := true, recurses := true, apart := false }
def TopTracksSaid : Prop := topTracksRow.holds Try.pinned (OpenSpec.ofChange topTracksSpec)

/-- ITS FALSE NEIGHBOUR: 'it returns false'. Refute it at one input. -/
def topTracksWrong : ChangeSpec := { name := "topTracks", fn := fun _ => fun
  | [d1, d2, d3, d4, d5, d6, d7] => { results := [.lit (.bool false)], args := [d1, d2, d3, d4, d5, d6, d7] }
  | _ => none }
def TopTracksWrongFalsely : Prop := topTracksRow.holds Try.pinned (OpenSpec.ofChange topTracksWrong)

/-- 'lookoutlaw19.TracksNil': WHATEVER THE INPUT: true; the input reads as it did. -/
def tracksNilSpec : ChangeSpec := { name := "tracksNil", fn := fun _ => fun
  | [d] => { results := [.lit (.bool true)], args := [d] }
  | _ => none }
def tracksNilRow : OpenClaim := { program := "ytdllakfojligjaa", sum := "d2aef51806c78bc6279487ace5654bc09774409ef005488624f90fc042ee9b4b", func := "lookout/lookoutlaw19.TracksNil", spec := "tracksNil", inPlace := ["math.Float64bits", "math.Float64frombits", "math.archTrunc", "math.sqrt", "math.archFloor"], unfollowed := true, recurses := true, apart := false }
def TracksNilSaid : Prop := tracksNilRow.holds Try.pinned (OpenSpec.ofChange tracksNilSpec)

/-- ITS FALSE NEIGHBOUR: 'it returns false'. Refute it at one input. -/
def tracksNilWrong : ChangeSpec := { name := "tracksNil", fn := fun _ => fun
  | [d] => { results := [.lit (.bool false)], args := [d] }
  | _ => none }
def TracksNilWrongFalsely : Prop := tracksNilRow.holds Try.pinned (OpenSpec.ofChange tracksNilWrong)

/-- 'lookoutlaw19.TracksLeast': WHATEVER THE INPUT: true; the input reads as it did. -/
def tracksLeastSpec : ChangeSpec := { name := "tracksLeast", fn := fun _ => fun
  | [d1, d2] => { results := [.lit (.bool true)], args := [d1, d2] }
  | _ => none }
def tracksLeastRow : OpenClaim := { program := "ytdllakfojligjaa", sum := "d2aef51806c78bc6279487ace5654bc09774409ef005488624f90fc042ee9b4b", func := "lookout/lookoutlaw19.TracksLeast", spec := "tracksLeast", inPlace := ["math.Float64bits", "math.Float64frombits", "math.archTrunc", "math.sqrt", "math.archFloor"], unfollowed := true, recurses := true, apart := false }
def TracksLeastSaid : Prop := tracksLeastRow.holds Try.pinned (OpenSpec.ofChange tracksLeastSpec)

/-- ITS FALSE NEIGHBOUR: 'it returns false'. Refute it at one input. -/
def tracksLeastWrong : ChangeSpec := { name := "tracksLeast", fn := fun _ => fun
  | [d1, d2] => { results := [.lit (.bool false)], args := [d1, d2] }
  | _ => none }
def TracksLeastWrongFalsely : Prop := tracksLeastRow.holds Try.pinned (OpenSpec.ofChange tracksLeastWrong)

/-- 'lookoutlaw19.TracksOnce': WHATEVER THE INPUT: true; the input reads as it did. -/
def tracksOnceSpec : ChangeSpec := { name := "tracksOnce", fn := fun _ => fun
  | [d1, d2] => { results := [.lit (.bool true)], args := [d1, d2] }
  | _ => none }
def tracksOnceRow : OpenClaim := { program := "ytdllakfojligjaa", sum := "d2aef51806c78bc6279487ace5654bc09774409ef005488624f90fc042ee9b4b", func := "lookout/lookoutlaw19.TracksOnce", spec := "tracksOnce", inPlace := ["math.Float64bits", "math.Float64frombits", "math.archTrunc", "math.sqrt", "math.archFloor"], unfollowed := true, recurses := true, apart := false }
def TracksOnceSaid : Prop := tracksOnceRow.holds Try.pinned (OpenSpec.ofChange tracksOnceSpec)

/-- ITS FALSE NEIGHBOUR: 'it returns false'. Refute it at one input. -/
def tracksOnceWrong : ChangeSpec := { name := "tracksOnce", fn := fun _ => fun
  | [d1, d2] => { results := [.lit (.bool false)], args := [d1, d2] }
  | _ => none }
def TracksOnceWrongFalsely : Prop := tracksOnceRow.holds Try.pinned (OpenSpec.ofChange tracksOnceWrong)

/-- 'lookoutlaw19.TracksSteady': WHATEVER THE INPUT: true; the input reads as it did. -/
def tracksSteadySpec : ChangeSpec := { name := "tracksSteady", fn := fun _ => fun
  | [d1, d2, d3] => { results := [.lit (.bool true)], args := [d1, d2, d3] }
  | _ => none }
def tracksSteadyRow : OpenClaim := { program := "ytdllakfojligjaa", sum := "d2aef51806c78bc6279487ace5654bc09774409ef005488624f90fc042ee9b4b", func := "lookout/lookoutlaw19.TracksSteady", spec := "tracksSteady", inPlace := ["math.Float64bits", "math.Float64frombits", "math.archTrunc", "math.sqrt", "math.archFloor"], unfollowed := true, recurses := true, apart := false }
def TracksSteadySaid : Prop := tracksSteadyRow.holds Try.pinned (OpenSpec.ofChange tracksSteadySpec)

/-- ITS FALSE NEIGHBOUR: 'it returns false'. Refute it at one input. -/
def tracksSteadyWrong : ChangeSpec := { name := "tracksSteady", fn := fun _ => fun
  | [d1, d2, d3] => { results := [.lit (.bool false)], args := [d1, d2, d3] }
  | _ => none }
def TracksSteadyWrongFalsely : Prop := tracksSteadyRow.holds Try.pinned (OpenSpec.ofChange tracksSteadyWrong)

/- THE SECOND FORM. 'bulk': how many values and letters a reading holds, each counted each time it is reached (what is shared counts as often as it is met; a slice's spare places count too). A statement '..UptoSaid' is the law's where the arguments, and the package variables that the reading takes, are together of bulk at most 1048576: NARROWER than '..Said'. Prove '..Said' where nothing that the law and all that it calls make is longer than what came in: it says more and counts as full. Else prove '..UptoSaid'. A law counts once. -/
mutual
def uptoBulk {H : Type} : DataW H → Nat
  | .lit (.string bytes) => bytes.length + 1
  | .lit _ => 1
  | .nil => 1
  | .ptr d => uptoBulk d + 1
  | .slice elems spare => uptoBulkAll elems + uptoBulkAll spare + 1
  | .agg parts => uptoBulkAll parts + 1
  | .iface _ d => uptoBulk d + 1
  | .map entries => uptoBulkEntries entries + 1
  | .held _ => 1
def uptoBulkAll {H : Type} : List (DataW H) → Nat
  | [] => 0
  | d :: r => uptoBulk d + uptoBulkAll r
def uptoBulkEntries {H : Type} : List (Lit × DataW H) → Nat
  | [] => 0
  | x :: r => uptoBulkEntry x + uptoBulkEntries r
def uptoBulkEntry {H : Type} : Lit × DataW H → Nat
  | (.string bytes, d) => bytes.length + uptoBulk d + 1
  | (_, d) => uptoBulk d + 1
 end
def uptoSmall : (H : Type) → List (DataW H) → Bool := fun _ ds => decide (uptoBulkAll ds ≤ 1048576)
def OpenSpec.upto (s : _root_.Go.ChangeSpec) : _root_.Go.OpenSpec := { _root_.Go.OpenSpec.ofChange s with cond := some uptoSmall }

/-- 'lookouttop.TopTracks', WHERE WHAT IT READS IS OF BULK AT MOST 1048576: true; the input reads as it did. -/
def topTracksUptoRow : OpenClaim := { program := "ytdllakfojligjaa", sum := "d2aef51806c78bc6279487ace5654bc09774409ef005488624f90fc042ee9b4b", func := "lookout/lookouttop.TopTracks", spec := "topTracks", inPlace := ["math.Float64bits", "math.Float64frombits", "math.archTrunc", "math.sqrt", "math.archFloor"], unfollowed := true, recurses := true, apart := false, narrowed := true }
def TopTracksUptoSaid : Prop := topTracksUptoRow.holds Try.pinned (OpenSpec.upto topTracksSpec)

/-- 'lookoutlaw19.TracksNil', WHERE WHAT IT READS IS OF BULK AT MOST 1048576: true; the input reads as it did. -/
def tracksNilUptoRow : OpenClaim := { program := "ytdllakfojligjaa", sum := "d2aef51806c78bc6279487ace5654bc09774409ef005488624f90fc042ee9b4b", func := "lookout/lookoutlaw19.TracksNil", spec := "tracksNil", inPlace := ["math.Float64bits", "math.Float64frombits", "math.archTrunc", "math.sqrt", "math.archFloor"], unfollowed := true, recurses := true, apart := false, narrowed := true }
def TracksNilUptoSaid : Prop := tracksNilUptoRow.holds Try.pinned (OpenSpec.upto tracksNilSpec)

/-- 'lookoutlaw19.TracksLeast', WHERE WHAT IT READS IS OF BULK AT MOST 1048576: true; the input reads as it did. -/
def tracksLeastUptoRow : OpenClaim := { program := "ytdllakfojligjaa", sum := "d2aef51806c78bc6279487ace5654bc09774409ef005488624f90fc042ee9b4b", func := "lookout/lookoutlaw19.TracksLeast", spec := "tracksLeast", inPlace := ["math.Float64bits", "math.Float64frombits", "math.archTrunc", "math.sqrt", "math.archFloor"], unfollowed := true, recurses := true, apart := false, narrowed := true }
def TracksLeastUptoSaid : Prop := tracksLeastUptoRow.holds Try.pinned (OpenSpec.upto tracksLeastSpec)

/-- 'lookoutlaw19.TracksOnce', WHERE WHAT IT READS IS OF BULK AT MOST 1048576: true; the input reads as it did. -/
def tracksOnceUptoRow : OpenClaim := { program := "ytdllakfojligjaa", sum := "d2aef51806c78bc6279487ace5654bc09774409ef005488624f90fc042ee9b4b", func := "lookout/lookoutlaw19.TracksOnce", spec := "tracksOnce", inPlace := ["math.Float64bits", "math.Float64frombits", "math.archTrunc", "math.sqrt", "math.archFloor"], unfollowed := true, recurses := true, apart := false, narrowed := true }
def TracksOnceUptoSaid : Prop := tracksOnceUptoRow.holds Try.pinned (OpenSpec.upto tracksOnceSpec)

/-- 'lookoutlaw19.TracksSteady', WHERE WHAT IT READS IS OF BULK AT MOST 1048576: true; the input reads as it did. -/
def tracksSteadyUptoRow : OpenClaim := { program := "ytdllakfojligjaa", sum := "d2aef51806c78bc6279487ace5654bc09774409ef005488624f90fc042ee9b4b", func := "lookout/lookoutlaw19.TracksSteady", spec := "tracksSteady", inPlace := ["math.Float64bits", "math.Float64frombits", "math.archTrunc", "math.sqrt", "math.archFloor"], unfollowed := true, recurses := true, apart := false, narrowed := true }
def TracksSteadyUptoSaid : Prop := tracksSteadyUptoRow.holds Try.pinned (OpenSpec.upto tracksSteadySpec)

end Rows
end Go.Proofs.Ytdllakfojligjaa
