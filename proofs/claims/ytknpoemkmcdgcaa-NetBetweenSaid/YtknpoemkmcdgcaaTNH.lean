/-
  A part of the proof: what functions that the statement reaches do, or a plain law on what they do. Each theorem holds under its own premises alone.
-/
import Derived.Test.YtknpoemkmcdgcaaTNG
import Derived.Test.YtknpoemkmcdgcaaTNG9
import Derived.Test.YtknpoemkmcdgcaaKitP
namespace Go.Proofs.Ytknpoemkmcdgcaa
open Go Go.Lk
theorem cellsAt_part {w : World} {b T j n : Nat} {xs cs : List Value} (h : w.heap[b]? = some (Row T xs)) (hx : (xs.drop j).take n = cs) : CellsAt w ((Addr.mk b 0 none).add j) cs :=
  cellsAt_row cs h fun q v hq => by
    subst hx
    have hlt : q < n := by
      apply Classical.byContradiction
      intro hn
      rw [List.getElem?_take, if_neg hn] at hq; cases hq
    rw [List.getElem?_take_of_lt hlt, List.getElem?_drop] at hq
    exact hq
theorem cellsAt_lit {w : World} {b T j n : Nat} {xs cs : List Value} (h : w.heap[b]? = some (Row T xs)) (hx : (xs.drop j).take n = cs) : CellsAt w ⟨b, j, none⟩ cs := by
  have := cellsAt_part (j := j) h hx
  rwa [add_lit0] at this
/-- a firm track at a place -/
def trk (x y : Nat) : Tk := ⟨0, 1, x, 0, 0, 0, 0, y, 0, 0, 0, 0, 0, 0, 0⟩
def SPF (m : Int) (k : Nat) (f : FuncId) (args : Array Value) (v : Value) : Prop := match f, args.toList with
  | 28, [.agg s, .agg p] => (match s.toList, p.toList with
    | [.float .f64 sx, .float .f64 sy, .float .f64 st], [.float .f64 px, .float .f64 py] => MovR sx sy st px py v
    | _, _ => False)
  | 42, _ => v = .int .i64 m
  | 44, [.agg p, .agg q] => (match p.toList, q.toList with
    | [.float .f64 a, .float .f64 b], [.float .f64 c, .float .f64 d] => ∃ x y, v = .agg #[.float .f64 x, .float .f64 y] ∧ cn x = fop .add a c ∧ cn y = fop .add b d
    | _, _ => False)
  | 45, [_, .agg p] => (match p.toList with
    | [.float .f64 a, .float .f64 b] => ∃ x y, v = .agg #[.float .f64 x, .float .f64 y] ∧ cn x = fop .quo a (FloatKind.f64.nearest (k : Int)) ∧ cn y = fop .quo b (FloatKind.f64.nearest (k : Int))
    | _ => False)
  | _, _ => False
theorem movedH {w0 w : World} {L : Bks} (m : Int) (k : Nat) (hs : HS w0 w L) (sx sy st px py : Nat) (ht : st < 18446744073709551616) : Ret Try.prog 28 [.agg #[.float .f64 sx, .float .f64 sy, .float .f64 st], .agg #[.float .f64 px, .float .f64 py]] w fun v w' => SPF m k 28 [.agg #[.float .f64 sx, .float .f64 sy, .float .f64 st], .agg #[.float .f64 px, .float .f64 py]].toArray v ∧ HS w0 w' L :=
  Calls.mono (moved_ok sx sy st px py ht w) fun e w' => by
    rintro ⟨v, rfl, hv, hs'⟩
    exact ⟨_, rfl, hv, hs.nil hs'⟩
theorem paddH {w0 w : World} {L : Bks} (m : Int) (k : Nat) (hs : HS w0 w L) (a b c d : Nat) : Ret Try.prog 44 [.agg #[.float .f64 a, .float .f64 b], .agg #[.float .f64 c, .float .f64 d]] w fun v w' => SPF m k 44 [.agg #[.float .f64 a, .float .f64 b], .agg #[.float .f64 c, .float .f64 d]].toArray v ∧ HS w0 w' L :=
  Calls.mono (padd_ok a b c d w) fun e w' => by
    rintro ⟨v, rfl, x, y, rfl, hs', h1, h2⟩
    exact ⟨_, rfl, ⟨x, y, rfl, h1, h2⟩, hs.nil hs'⟩
theorem partH {w0 w : World} {L : Bks} (m : Int) (hs : HS w0 w L) (A px py n c : Nat) (a : Option Addr) (hse : w.cell? ⟨A, 4, none⟩ = some (.slice a n c)) : Ret Try.prog 45 [.pointer (some ⟨A, 0, none⟩), .agg #[.float .f64 px, .float .f64 py]] w fun v w' => SPF m n 45 [.pointer (some ⟨A, 0, none⟩), .agg #[.float .f64 px, .float .f64 py]].toArray v ∧ HS w0 w' L :=
  Calls.mono (part_ok A px py n c a w hse) fun e w' => by
    rintro ⟨v, rfl, x, y, rfl, hs', h1, h2⟩
    exact ⟨_, rfl, ⟨x, y, rfl, h1, h2⟩, hs.nil hs'⟩
theorem most_empty {ms : List Int} {cnt t e : Int} (h : MostAns [[]] ms cnt t e) : ms = [-1] := by
  rcases h with ⟨h, _⟩ | ⟨_, _, f, _, hm, _⟩
  · rcases h with h | h
    · exact absurd (by decide +kernel) h
    · cases h
  · rw [hm]
    show [if f 0 < 0 then (f 0 : Int) else -1] = [-1]
    rw [if_neg (by omega)]
open Go.Pr in
theorem most_one {ms : List Int} {cnt t e : Int} (h : MostAns [[41943]] ms cnt t e) : ms = [0] := by
  rcases h with ⟨h, _⟩ | ⟨_, _, f, hB, hm, _⟩
  · rcases h with h | h
    · exact absurd (by decide +kernel) h
    · cases h
  · have h0 := best_is (G := [0, 1]) (by decide) hB (by decide) (by decide) (by decide +kernel) 0 (by decide)
    have h1 : f 0 = 0 := h0
    rw [hm]
    show [if f 0 < 1 then (f 0 : Int) else -1] = [0]
    rw [if_pos (by omega), h1]; rfl
theorem rowsI1 {w : World} {B : Nat} {r : List Int} {ai : Option Addr} {n ci : Nat} (hB : SlC w (some ⟨B, 0, none⟩) [.slice ai n ci]) (hr : SlC w ai (il r)) (hn : r.length = n) (hc : n ≤ ci) (h63 : n ≤ 17592186043904) : RowsI w (some ⟨B, 0, none⟩) [r] [.slice ai n ci] := by
  subst hn
  refine ⟨hB, rfl, fun i hi => ?_⟩
  match i, hi with
  | 0, _ => exact ⟨ai, ci, rfl, hc, h63, hr⟩
theorem slc_nil (w : World) : SlC w none [] := ⟨fun h => absurd h (Nat.lt_irrefl _), fun j v hv => by simp at hv⟩
end Go.Proofs.Ytknpoemkmcdgcaa
