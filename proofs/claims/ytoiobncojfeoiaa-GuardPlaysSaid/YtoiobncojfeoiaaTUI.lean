/-
  A part of the proof: what functions that the statement reaches do, or a plain law on what they do. Each theorem holds under its own premises alone.
-/
import Derived.Test.YtoiobncojfeoiaaTUH
namespace Go.Proofs.Ytoiobncojfeoiaa
open Go Go.Lk
/-! ### What Watch does, as a function -/
structure Al where
  kind : Int
  zone : Int
  track : Int
  time : Nat
def Al.cells (x : Al) : List Value := [.int .i8 x.kind, .int .i64 x.zone, .int .i64 x.track, .float .f64 x.time]
def acs (xs : List Al) : List Value := xs.flatMap Al.cells
theorem acs_len (xs : List Al) : (acs xs).length = xs.length * 4 := by
  induction xs with
  | nil => rfl
  | cons t ts ih =>
    show (t.cells ++ acs ts).length = _
    rw [List.length_append, ih, List.length_cons]
    show 4 + _ = _
    omega
theorem acs_app (xs ys : List Al) : acs (xs ++ ys) = acs xs ++ acs ys := List.flatMap_append ..
theorem acs_snoc (xs : List Al) (x : Al) : acs (xs ++ [x]) = acs xs ++ x.cells := by rw [acs_app]; simp [acs]
abbrev FE := Int × Tk × Nat
def tv (t : Tk) : Value := .agg t.cells.toArray
abbrev FO (fe : List FE) (fk : Nat) : Obj := MapO (Value.int .i64) tv fe fk
def firmStep (s : List FE × Nat) (t : Tk) : List FE × Nat := if t.kind = 1 ∧ (mget t.id s.1).isNone = true then (mput t.id t s.2 s.1, mclk t.id s.2 s.1) else s
def firmE (ts : List Tk) : List FE × Nat := ts.foldl firmStep ([], 0)
def awayB (fe : List FE) (x : KE) : Bool := (mget x.1.2 fe).isNone && decide (x.2.1 = 1)
def nearE (fe : List FE) (es : List KE) : List KE := es.filter fun x => !awayB fe x
def goneB (fe : List FE) (z : Int) (x : KE) : Bool := decide (x.1.1 = z) && decide (x.2.1 = 2) && (mget x.1.2 fe).isNone
def idsOf (fe : List FE) (es : List KE) (z : Int) : List Int := isort (fe.map (·.1) ++ (es.filter (goneB fe z)).map (·.1.2))
def kindOf (was is0 : Int) : Option Int := if was ≠ 2 ∧ is0 = 2 then some 0 else if was = 2 ∧ is0 ≠ 2 then some 1 else if was = 0 ∧ is0 = 1 then some 2 else none
structure WS where
  told : List Al
  es : List KE
  ck : Nat
def isNow (far : Nat) (ps : List Pt) (fe : List FE) (id : Int) : Int := match mget id fe with
  | some t => nowF far ps t
  | none => 0
def idStep (far time : Nat) (fe : List FE) (z : Zn) (s : WS) (id : Int) : WS :=
  let was := (mget (z.num, id) s.es).getD 0
  let is0 := isNow far z.ps fe id
  let is1 := if was = 2 ∧ is0 ≠ 2 then 0 else is0
  let es2 := mput (z.num, id) is1 s.ck s.es
  ⟨s.told ++ (match kindOf was is0 with | some k => [⟨k, z.num, id, time⟩] | none => []), if is1 = 0 then mdel (z.num, id) es2 else es2, mclk (z.num, id) s.ck s.es⟩
def zoneStep (far time : Nat) (fe : List FE) (s : WS) (z : Zn) : WS := (idsOf fe s.es z.num).foldl (idStep far time fe z) s
def watchF (far time : Nat) (zs : List Zn) (es : List KE) (ck : Nat) (ts : List Tk) : WS := zs.foldl (zoneStep far time (firmE ts).1) ⟨[], nearE (firmE ts).1 es, ck⟩
theorem tell_ok (kind z id : Int) (time n b16 b18 b26 b4 : Nat) (v : Value) (zc : List Value) (xs : List Value) (A M : Bks) (w0 w : World) (hs : HS w0 w (((b16, Row 47 [v]) :: A) ++ M)) (hb : Bl w0 51 4 v n xs M) (hn : n ≤ 1000000000)
    (hz : (b18, Row 90 zc) ∈ A) (hz0 : zc[0]? = some (.int .i64 z)) (hi : (b26, Row 3 [.int .i64 id]) ∈ A) (ht : (b4, Row 23 [.float .f64 time]) ∈ A) :
    Ret Try.prog 40 [.int .i8 kind, .pointer (some ⟨b16, 0, none⟩), .pointer (some ⟨b18, 0, none⟩), .pointer (some ⟨b26, 0, none⟩), .pointer (some ⟨b4, 0, none⟩)] w fun r w' => r = .tuple #[] ∧ ∃ v' M', HS w0 w' (((b16, Row 47 [v']) :: A) ++ M') ∧ Bl w0 51 4 v' (n + 1) (xs ++ [.int .i8 kind, .int .i64 z, .int .i64 id, .float .f64 time]) M' := by
  have hz' : (b18, Row 90 zc) ∈ ((b16, Row 47 [v]) :: A) ++ M := List.mem_append_left _ (List.mem_cons_of_mem _ hz)
  have hi' : (b26, Row 3 [.int .i64 id]) ∈ ((b16, Row 47 [v]) :: A) ++ M := List.mem_append_left _ (List.mem_cons_of_mem _ hi)
  have ht' : (b4, Row 23 [.float .f64 time]) ∈ ((b16, Row 47 [v]) :: A) ++ M := List.mem_append_left _ (List.mem_cons_of_mem _ ht)
  refine calls_of_W Try.func40 rfl rfl rfl ?_
  refine W_region ?_
  refine L_load rfl Try.one47 rfl (by exact hs.cell (i := 0) rfl rfl) ?_
  refine L_move rfl rfl ?_
  refine L_fieldAddr rfl (off := 0) Try.underlying90 rfl rfl Try.ti3 rfl ?_
  refine L_load rfl Try.one3 rfl (by exact HS.cellM hs hz' hz0) ?_
  refine L_load rfl Try.one3 rfl (by exact HS.cellM hs hi' rfl) ?_
  refine L_load rfl Try.one23 rfl (by exact HS.cellM hs ht' rfl) ?_
  refine L_build rfl rfl (Pl.built Try.pl51 rfl) ?_
  refine L_buildSlice rfl hs Try.underlying47 Try.ti51 rfl (by decide) rfl (by simp [Value.cells]) ?_
  intro b13 w hb13 hnb13 hs
  try simp only [List.flatMap_cons, List.flatMap_nil, cells_int, cells_float, cells_complex, cells_bool, cells_string, cells_pointer, cells_slice, cells_map, cells_agg, List.append_nil, List.set_cons_succ, List.set_cons_zero, List.cons_append, List.nil_append] at hs
  replace hs : HS w0 w ((((b16, Row 47 [v]) :: A) ++ M) ++ [(b13, Row 51 [.int .i8 kind, .int .i64 z, .int .i64 id, .float .f64 time])]) := hs
  refine L_appendT (L := (b16, Row 47 [v]) :: A) rfl Try.underlying47 Try.ti51 rfl hs hb13 hb rfl rfl rfl (by simp [Value.oneCell']) (by omega) (by omega) ?_
  intro v' w M' hs hb'
  obtain ⟨a', c', rfl, hc'⟩ := hb'.slice
  refine L_store hs (i := 0) rfl Try.ti47 rfl rfl (by first | rfl | exact add_lit0 _ _ | exact Addr.add_lit .. | (rw [add_add]; exact add_lit0 _ _)) (by simp) rfl ?_
  intro w hs
  try dsimp only [List.set_cons_succ, List.set_cons_zero, List.cons_append, List.nil_append] at hs
  refine RL_nil' ?_
  refine Nx_done0 rfl ?_
  exact ⟨_, rfl, rfl, _, M', hs, hb'⟩
end Go.Proofs.Ytoiobncojfeoiaa
