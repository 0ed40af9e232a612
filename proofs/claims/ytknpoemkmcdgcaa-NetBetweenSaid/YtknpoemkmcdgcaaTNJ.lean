/-
  A part of the proof: what functions that the statement reaches do, or a plain law on what they do. Each theorem holds under its own premises alone.
-/
import Derived.Test.YtknpoemkmcdgcaaTNH
import Derived.Test.YtknpoemkmcdgcaaKitY
namespace Go.Proofs.Ytknpoemkmcdgcaa
open Go Go.Lk
/-! ### Things: what they are, and how they lie in memory -/
structure ST where
  ax : Nat
  ay : Nat
  vx : Nat
  vy : Nat
  seen : List Int
def st0 : ST := ⟨0, 0, 0, 0, []⟩
structure Th where
  p : Nat
  ax : Nat
  ay : Nat
  vx : Nat
  vy : Nat
  seen : List Int
  v : Value
  M : Bks
def th0 : Th := ⟨0, 0, 0, 0, 0, [], .slice none 0 0, []⟩
def Th.s (t : Th) : ST := ⟨cn t.ax, cn t.ay, cn t.vx, cn t.vy, t.seen⟩
def Th.cells (t : Th) : List Value := [.float .f64 t.ax, .float .f64 t.ay, .float .f64 t.vx, .float .f64 t.vy, t.v]
def Th.row (t : Th) : Nat × Obj := (t.p, Row 92 t.cells)
def Th.bks (t : Th) : Bks := t.row :: t.M
def Th.ptr (t : Th) : Value := .pointer (some ⟨t.p, 0, none⟩)
def Th.ok (w0 : World) (t : Th) : Prop := w0.heap.size ≤ t.p ∧ Bl w0 3 1 t.v t.seen.length (il t.seen) t.M
def tbs (ts : List Th) : Bks := ts.flatMap Th.bks
def ptrs (ts : List Th) : List Value := ts.map Th.ptr
theorem ptrs_len (ts : List Th) : (ptrs ts).length = ts.length := List.length_map ..
theorem ptrs_get {ts : List Th} {i : Nat} (h : i < ts.length) : (ptrs ts)[i]? = some (ts.getD i th0).ptr := by
  unfold ptrs
  rw [List.getElem?_map, List.getElem?_eq_getElem h, List.getD_eq_getElem?_getD, List.getElem?_eq_getElem h]; rfl
theorem ptrs_one (ts : List Th) : ∀ v ∈ ptrs ts, v.oneCell' = true := fun v hv => by
  obtain ⟨t, _, rfl⟩ := List.mem_map.1 hv; rfl
theorem ptrs_app (ts us : List Th) : ptrs (ts ++ us) = ptrs ts ++ ptrs us := List.map_append ..
theorem tbs_app (ts us : List Th) : tbs (ts ++ us) = tbs ts ++ tbs us := List.flatMap_append ..
theorem tbs_one (t : Th) : tbs [t] = t.bks := by simp [tbs]
theorem tbs_nil : tbs [] = [] := rfl
theorem Th.ok.own {w0 : World} {t : Th} (h : t.ok w0) : Own w0 t.bks := Own.cons h.1 h.2.own
theorem tbs_own {w0 : World} {ts : List Th} (h : ∀ t ∈ ts, t.ok w0) : Own w0 (tbs ts) := fun p hp => by
  obtain ⟨t, ht, hp⟩ := List.mem_flatMap.1 hp
  exact (h t ht).own p hp
theorem getD_mem {α : Type} {l : List α} {i : Nat} {d : α} (h : i < l.length) : l.getD i d ∈ l := by
  rw [List.getD_eq_getElem?_getD, List.getElem?_eq_getElem h]; exact List.getElem_mem h
theorem tbs_mem {ts : List Th} {i : Nat} (h : i < ts.length) : (ts.getD i th0).row ∈ tbs ts := List.mem_flatMap.2 ⟨_, getD_mem h, List.mem_cons_self ..⟩
theorem split_at {α : Type} {l : List α} {i : Nat} {d : α} (h : i < l.length) : l = l.take i ++ l.getD i d :: l.drop (i + 1) := by
  have e : l.getD i d = l[i] := by rw [List.getD_eq_getElem?_getD, List.getElem?_eq_getElem h]; rfl
  rw [e, ← List.drop_eq_getElem_cons h, List.take_append_drop]
/-- a thing's blocks, in front -/
theorem tbs_pull {ts : List Th} {i : Nat} (h : i < ts.length) : (tbs ts).Perm ((ts.getD i th0).bks ++ tbs (ts.take i ++ ts.drop (i + 1))) := by
  have e := congrArg tbs (split_at (d := th0) h)
  rw [e, tbs_app, tbs_app]
  show (tbs (ts.take i) ++ ((ts.getD i th0).bks ++ tbs (ts.drop (i + 1)))).Perm _
  rw [← List.append_assoc, ← List.append_assoc]
  exact List.Perm.append_right _ List.perm_append_comm
theorem tbs_put {ts : List Th} {i : Nat} (h : i < ts.length) (t : Th) : (t.bks ++ tbs (ts.take i ++ ts.drop (i + 1))).Perm (tbs (ts.set i t)) := by
  rw [List.set_eq_take_append_cons_drop, if_pos h, tbs_app, tbs_app]
  show (t.bks ++ (tbs (ts.take i) ++ tbs (ts.drop (i + 1)))).Perm (tbs (ts.take i) ++ (t.bks ++ tbs (ts.drop (i + 1))))
  rw [← List.append_assoc, ← List.append_assoc]
  exact List.Perm.append_right _ List.perm_append_comm
theorem set_ok {w0 : World} {ts : List Th} {i : Nat} {t : Th} (h : ∀ t ∈ ts, t.ok w0) (ht : t.ok w0) : ∀ u ∈ ts.set i t, u.ok w0 := fun u hu => by
  rcases List.mem_or_eq_of_mem_set hu with h1 | h1
  · exact h u h1
  · rw [h1]; exact ht
theorem ptrs_set {ts : List Th} {i : Nat} {t : Th} (h : i < ts.length) (hp : t.p = (ts.getD i th0).p) : ptrs (ts.set i t) = ptrs ts := by
  unfold ptrs
  rw [List.map_set]
  apply List.ext_getElem?
  intro j
  rw [List.getElem?_set]
  by_cases hij : i = j
  · subst hij
    have := ptrs_get h
    unfold ptrs at this
    simp only [List.length_map, h, if_true]
    rw [this]; unfold Th.ptr; rw [hp]
  · rw [if_neg hij]
/-! ### Radars, and the rounds of joining -/
structure Rd where
  x : Nat
  y : Nat
  t : Nat
  a : Option Addr
  c : Nat
  ts : List Tk
def rd0 : Rd := ⟨0, 0, 0, none, 0, []⟩
def Rd.cells (r : Rd) : List Value := [.float .f64 r.x, .float .f64 r.y, .float .f64 r.t, .slice r.a r.ts.length r.c]
def rcs (rs : List Rd) : List Value := rs.flatMap Rd.cells
theorem rcs_len (rs : List Rd) : (rcs rs).length = rs.length * 4 := by
  induction rs with
  | nil => rfl
  | cons r rs ih =>
    show (r.cells ++ rcs rs).length = _
    rw [List.length_append, ih, List.length_cons]
    show 4 + _ = _
    omega
theorem rcs_get : ∀ {rs : List Rd} {i q : Nat} {v : Value}, i < rs.length → (rs.getD i rd0).cells[q]? = some v → (rcs rs)[i * 4 + q]? = some v
  | r :: rs, 0, q, v, _, h => by
    show (r.cells ++ rcs rs)[0 * 4 + q]? = some v
    rw [Nat.zero_mul, Nat.zero_add]
    have hq : q < r.cells.length := (List.getElem?_eq_some_iff.1 h).1
    rw [List.getElem?_append_left hq]; exact h
  | r :: rs, i + 1, q, v, hi, h => by
    show (r.cells ++ rcs rs)[(i + 1) * 4 + q]? = some v
    have hl : r.cells.length = 4 := rfl
    rw [List.getElem?_append_right (by omega), show (i + 1) * 4 + q - r.cells.length = i * 4 + q by omega]
    exact rcs_get (by simpa using hi) h
theorem rd_at {w : World} {a : Option Addr} {rs : List Rd} (h : SlC w a (rcs rs)) {i : Nat} (hi : i < rs.length) : CellsAt w ((aD a).add (i * 4)) (rs.getD i rd0).cells := h.sub fun _ _ hv => rcs_get hi hv
/-- a net as it lies in memory, to be read -/
structure NetAt (w : World) (B far : Nat) (rs : List Rd) : Prop where
  far : w.cell? ⟨B, 0, none⟩ = some (.float .f64 far)
  rads : ∃ a c, w.cell? ⟨B, 1, none⟩ = some (.slice a rs.length c) ∧ SlC w a (rcs rs)
  each : ∀ i, i < rs.length → SlC w (rs.getD i rd0).a (tcs (rs.getD i rd0).ts)
theorem NetAt.old {w0 w : World} {B far : Nat} {rs : List Rd} {L : Bks} (h : NetAt w0 B far rs) (hs : HS w0 w L) (ho : Own w0 L) : NetAt w B far rs := by
  obtain ⟨a, c, h1, h2⟩ := h.rads
  exact ⟨hs.oldcell h.far (ho.notin (World.block_lt_of_cell? w0 _ h.far)), ⟨a, c, hs.oldcell h1 (ho.notin (World.block_lt_of_cell? w0 _ h1)), h2.old hs ho⟩, fun i hi => (h.each i hi).old hs ho⟩
def newS (r : Rd) (i : Nat) (k : Tk) : ST := ⟨mvX r.x r.t k.xx k.yx, mvY r.y r.t k.xx k.yx, mvX 0 r.t k.xv k.yv, mvY 0 r.t k.xv k.yv, [(i : Int)]⟩
def rowS (far : Nat) (S : List ST) (x : ST) : List Int := S.map fun t => costF far x.ax x.ay t.ax t.ay t.seen.length
def mrgS (i : Nat) (t x : ST) : ST := ⟨fop .add t.ax x.ax, fop .add t.ay x.ay, fop .add t.vx x.vx, fop .add t.vy x.vy, t.seen ++ [(i : Int)]⟩
def stp (i : Nat) (S : List ST) (y : ST × Int) : List ST := if 0 ≤ y.2 then S.set y.2.toNat (mrgS i (S.getD y.2.toNat st0) y.1) else S ++ [y.1]
def ownS (rs : List Rd) (i : Nat) : List ST := (rs.getD i rd0).ts.map (newS (rs.getD i rd0) i)
def rowsS (far : Nat) (rs : List Rd) (i : Nat) (S : List ST) : List (List Int) := (ownS rs i).map (rowS far (S.take 256))
inductive FusTo (far : Nat) (rs : List Rd) : Nat → List ST → Prop
  | zero : FusTo far rs 0 []
  | step {i : Nat} {S : List ST} {ms : List Int} {cnt t e : Int} (h : FusTo far rs i S) (hi : i < rs.length) (hm : MostAns (rowsS far rs i S) ms cnt t e) : FusTo far rs (i + 1) (((ownS rs i).zip ms).foldl (stp i) S)
theorem rowsS_len (far : Nat) (rs : List Rd) (i : Nat) (S : List ST) : (rowsS far rs i S).length = (rs.getD i rd0).ts.length := by simp [rowsS, ownS]
theorem rowsS_row {far : Nat} {rs : List Rd} {i : Nat} {S : List ST} {r : List Int} (h : r ∈ rowsS far rs i S) : ∃ x, r = rowS far (S.take 256) x := by
  obtain ⟨x, _, rfl⟩ := List.mem_map.1 h
  exact ⟨x, rfl⟩
theorem rowsS_fine {far : Nat} {rs : List Rd} {i : Nat} {S : List ST} (hf : FarOk far) (hn : (rs.getD i rd0).ts.length ≤ 256) : chk (rowsS far rs i S) = 0 := by
  have hl : ∀ r ∈ rowsS far rs i S, r.length = (S.take 256).length := fun r hr => by
    obtain ⟨x, rfl⟩ := rowsS_row hr
    exact List.length_map ..
  have hl2 : (S.take 256).length ≤ 256 := by rw [List.length_take]; omega
  unfold chk
  rw [if_neg, if_neg, if_neg]
  · simp only [List.any_eq_true, decide_eq_true_eq, not_exists, not_and]
    intro r hr c hc
    obtain ⟨x, rfl⟩ := rowsS_row hr
    obtain ⟨t, _, rfl⟩ := List.mem_map.1 hc
    rcases costF_rng (px := x.ax) (py := x.ay) (ax := t.ax) (ay := t.ay) (n := t.seen.length) hf with h | h <;> omega
  · simp only [List.any_eq_true, decide_eq_true_eq, not_exists, not_and]
    intro r hr h
    cases hR : rowsS far rs i S with
    | nil => rw [hR] at hr; cases hr
    | cons r0 R =>
      rw [hR] at h hl hr
      exact h ((hl r hr).trans (hl r0 (List.mem_cons_self ..)).symm)
  · rw [rowsS_len]
    simp only [Bool.or_eq_true, decide_eq_true_eq, List.any_eq_true, not_or, not_exists, not_and]
    exact ⟨by omega, fun r hr => by rw [hl r hr]; omega⟩
/-- what the mates are, of a round -/
theorem mates_ok {far : Nat} {rs : List Rd} {i : Nat} {S : List ST} {ms : List Int} {cnt t e : Int} (hf : FarOk far) (hn : (rs.getD i rd0).ts.length ≤ 256) (hm : MostAns (rowsS far rs i S) ms cnt t e) :
    ms.length = (rs.getD i rd0).ts.length ∧ ∀ k, k < ms.length → ms.getD k 0 < ((S.take 256).length : Int) ∧ -1 ≤ ms.getD k 0 := by
  have hc := rowsS_fine (i := i) (S := S) hf hn
  rcases hm with ⟨h | h, rfl, _⟩ | ⟨_, h0, f, _, rfl, _⟩
  · exact absurd hc h
  · rw [rowsS_len] at h
    exact ⟨h.symm, fun k hk => absurd hk (Nat.not_lt_zero _)⟩
  · refine ⟨by rw [List.length_map, List.length_range, rowsS_len], fun k hk => ?_⟩
    have hw : wid (rowsS far rs i S) 0 = (S.take 256).length := by
      have hm : (rowsS far rs i S).getD 0 [] ∈ rowsS far rs i S := getD_mem (by omega)
      obtain ⟨x, hx⟩ := rowsS_row hm
      show ((rowsS far rs i S).getD 0 []).length = _
      rw [hx]; exact List.length_map ..
    rw [List.length_map, List.length_range] at hk
    rw [List.getD_eq_getElem?_getD, List.getElem?_map, List.getElem?_range hk]
    show (if f k < _ then _ else _ : Int) < _ ∧ _ ≤ (if f k < _ then _ else _ : Int)
    rw [hw]
    split <;> omega
end Go.Proofs.Ytknpoemkmcdgcaa
