/-
  A part of the proof: what functions that the statement reaches do, or a plain law on what they do. Each theorem holds under its own premises alone.
-/
import Derived.Test.YtihhloeakenfgaaTYR
namespace Go.Lk
open Go
theorem cells_of_one {v : Value} (h : v.oneCell' = true) : v.cells = #[v] := by cases v <;> simp [Value.oneCell'] at h <;> rfl
theorem flat_one {l : List (Nat × Value)} (h : l.all (fun q => q.2.oneCell') = true) : (l.flatMap fun q => q.2.cells.toList) = l.map (·.2) := by
  induction l with
  | nil => rfl
  | cons q l ih =>
    rw [List.all_cons, Bool.and_eq_true] at h
    rw [List.flatMap_cons, List.map_cons, ih h.2, cells_of_one h.1]; rfl
section
variable {P : Program} {n : Nat} {Q : Post} {e : Env} {w w0 : World} {L : List (Nat × Obj)} {ops : Array Oper} {rest : List Oper} {t : TypeId} {p : String} {af : Array Edge}
/-- a slice literal of elements of one cell each -/
theorem L_buildSlice1 {d : Nat} (hd : Nat.blt d n = true) {T E : TypeId} {len : Nat} {xs : List (Nat × Operand)} {l : List (Nat × Value)} {z : Value} {b : Nat} (hs : HS w0 w L) (hT : P.underlying T = some (.slice E)) (hi : TI P E z 1 b)
    (hx : evalPs e xs = some l) (hsz : ¬ (len * 1 > 16777216)) (hidx : l.map (·.1) = List.range' 0 len) (h1 : l.all (fun q => q.2.oneCell') = true)
    (h : ∀ g w', w0.heap.size ≤ g → g ∉ L.map (·.1) → HS w0 w' (L ++ [(g, Row E (l.map (·.2)))]) → RL P n ops rest Q ((d, .slice (some ⟨g, 0, none⟩) len len) :: e) w') :
    RL P n ops (Oper.mk (some d) (.buildSlice T len xs.toArray) t p af none :: rest) Q e w :=
  L_buildSlice hd hs hT hi hx hsz hidx (fun q hq => by rw [cells_of_one (List.all_eq_true.1 h1 q hq)]; rfl) fun g w' a1 a2 a3 => h g w' a1 a2 (by rw [flat_one h1] at a3; exact a3)
end
end Go.Lk
