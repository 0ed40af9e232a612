/-
  A part of the proof: what functions that the statement reaches do, or a plain law on what they do. Each theorem holds under its own premises alone.
-/
import Derived.Test.YtknpoemkmcdgcaaTNJ
namespace Go.Proofs.Ytknpoemkmcdgcaa
open Go Go.Lk
/-! ### Small laws for the walk of 'Fused' -/
theorem minI_256 (n : Nat) : (if (256 : Int) < (n : Int) then 256 else (n : Int)) = ((min n 256 : Nat) : Int) := by
  split <;> omega
theorem set_rep {α : Type} (xs : List α) (m k : Nat) (z v : α) (hk : xs.length = k) : (xs ++ List.replicate (m + 1) z).set k v = (xs ++ [v]) ++ List.replicate m z := by
  subst hk
  rw [List.set_append_right _ _ (Nat.le_refl _), Nat.sub_self, List.replicate_succ, List.set_cons_zero, List.append_assoc]; rfl
theorem get_mid {α : Type} (xs ys : List α) (v : α) (k : Nat) (hk : xs.length = k) : (xs ++ v :: ys)[k]? = some v := by
  subst hk
  rw [List.getElem?_append_right (Nat.le_refl _), Nat.sub_self]; rfl
theorem set_mid' {α : Type} (xs ys : List α) (v u : α) (k : Nat) (hk : xs.length = k) : (xs ++ v :: ys).set k u = xs ++ u :: ys := by
  subst hk
  rw [List.set_append_right _ _ (Nat.le_refl _), Nat.sub_self, List.set_cons_zero]
theorem HS.push {w0 w : World} {p : Nat × Obj} {L : Bks} (h : HS w0 w (L ++ [p])) : HS w0 w (p :: L) := h.mem_perm (List.perm_append_comm (l₂ := [_]))
theorem HS.pop {w0 w : World} {p : Nat × Obj} {L : Bks} (h : HS w0 w (p :: L)) (hp : w0.heap.size ≤ p.1) : HS w0 w L := HS.drop1 h hp
theorem HS.re {w0 w : World} {L L' : Bks} (h : HS w0 w L) (hc : ∀ c : Nat × Obj → Nat, (L.map c).sum = (L'.map c).sum) : HS w0 w L' := h.mem_perm (perm_by hc)
theorem thing_cell {w0 w : World} {L : Bks} (hs : HS w0 w L) {t : Th} (hm : t.row ∈ L) {j : Nat} {v : Value} (hv : t.cells[j]? = some v) : w.cell? ⟨t.p, j, none⟩ = some v := Lk.cell_of_row (hs.has _ hm) hv
theorem cellAM {w0 w : World} {L : Bks} (h : HS w0 w L) {b j : Nat} {T : TypeId} {cs : List Value} {v : Value} (hm : (b, Row T cs) ∈ L) (hv : cs[j]? = some v) : w.cell? ((Addr.mk b 0 none).add j) = some v := by
  rw [add_lit0]; exact Lk.cell_of_row (h.has _ hm) hv
theorem thing_at {w0 w : World} {L : Bks} (hs : HS w0 w L) {t : Th} (hm : t.row ∈ L) : CellsAt w ⟨t.p, 0, none⟩ [.float .f64 t.ax, .float .f64 t.ay] := fun q v hv => by
  rw [add_lit0]
  match q, hv with
  | 0, rfl => exact thing_cell hs hm rfl
  | 1, rfl => exact thing_cell hs hm rfl
theorem thing_vel {w0 w : World} {L : Bks} (hs : HS w0 w L) {t : Th} (hm : t.row ∈ L) : CellsAt w ⟨t.p, 2, none⟩ [.float .f64 t.vx, .float .f64 t.vy] := fun q v hv => by
  rw [Addr.add_lit]
  match q, hv with
  | 0, rfl => exact thing_cell hs hm rfl
  | 1, rfl => exact thing_cell hs hm rfl
theorem costG {w0 w : World} {L : Bks} {B far : Nat} {rs : List Rd} (hs : HS w0 w L) (ho : Own w0 L) (hN : NetAt w0 B far rs) (hf : FarOk far) (px py : Nat) {t : Th} {a : Option Addr} {c : Nat} (hv : t.v = .slice a t.seen.length c) (hm : t.row ∈ L) :
    Ret Try.prog 42 [.pointer (some ⟨B, 0, none⟩), .agg #[.float .f64 px, .float .f64 py], .pointer (some ⟨t.p, 0, none⟩)] w fun v w' => SPF (costF far px py t.ax t.ay t.seen.length) 0 42 [.pointer (some ⟨B, 0, none⟩), .agg #[.float .f64 px, .float .f64 py], .pointer (some ⟨t.p, 0, none⟩)].toArray v ∧ HS w0 w' L :=
  Calls.mono (cost_ok B t.p far px py t.ax t.ay t.seen.length c a w hf (hN.old hs ho).far (thing_cell hs hm rfl) (thing_cell hs hm rfl) (thing_cell hs hm (by rw [← hv]; rfl))) fun e w' => by
    rintro ⟨v, rfl, rfl, hs'⟩
    exact ⟨_, rfl, rfl, hs.nil hs'⟩
theorem take_snoc {α : Type} {l : List α} {j : Nat} {x : α} (h : l[j]? = some x) : l.take (j + 1) = l.take j ++ [x] := by
  rw [List.take_add_one, h]; rfl
/-- rows that were made: each with its slice and its blocks -/
structure RR where
  xs : List Int
  v : Value
  M : Bks
def rr0 : RR := ⟨[], .slice none 0 0, []⟩
def RR.ok (w0 : World) (r : RR) : Prop := Bl w0 2 1 r.v r.xs.length (il r.xs) r.M
def rvs (rr : List RR) : List Value := rr.map RR.v
def rbs (rr : List RR) : Bks := rr.flatMap RR.M
theorem rbs_own {w0 : World} {rr : List RR} (h : ∀ r ∈ rr, r.ok w0) : Own w0 (rbs rr) := fun p hp => by
  obtain ⟨r, hr, hp⟩ := List.mem_flatMap.1 hp
  exact (h r hr).own p hp
theorem Bl.slcM {w0 w : World} {E : TypeId} {sz : Nat} {a : Option Addr} {n c k : Nat} {xs : List Value} {L M : Bks} (h : Bl w0 E sz (.slice a n c) k xs M) (hs : HS w0 w L) (hM : ∀ p ∈ M, p ∈ L) : SlC w a xs := by
  have hs' : HS w w ([] ++ M) := HS.named (fun p hp => hs.has p (hM p hp)) (by
    cases h with
    | nil => exact List.nodup_nil
    | row => exact List.nodup_cons.2 ⟨List.not_mem_nil, List.nodup_nil⟩)
  have h' : Bl w E sz (.slice a n c) k xs M ∨ True := .inr trivial
  clear h'
  cases h with
  | nil => exact ⟨fun h => absurd h (Nat.lt_irrefl _), fun j v hv => by simp at hv⟩
  | row => exact SlC.of_row (hs.has _ (hM _ (List.mem_cons_self ..)))
theorem Bl.view {w0 : World} {E : TypeId} {a : Option Addr} {n c k : Nat} {xs ks rest : List Value} {M K : Bks} (h : Bl w0 E 1 (.slice a n c) k xs M) (hx : xs = ks ++ rest) : KV E ks a (M ++ K) := by
  cases h with
  | nil => exact .inl (List.append_eq_nil_iff.1 hx.symm).1
  | @row g n cap xs sp => exact .inr ⟨g, rest ++ sp, rfl, by rw [hx]; simp⟩
theorem tbs_split {ts : List Th} {q : Nat} (h : q < ts.length) : tbs ts = tbs (ts.take q) ++ ((ts.getD q th0).row :: ((ts.getD q th0).M ++ tbs (ts.drop (q + 1)))) := by
  have e := congrArg tbs (split_at (d := th0) h)
  rw [tbs_app] at e
  exact e
theorem tbs_set {ts : List Th} {q : Nat} (h : q < ts.length) (t : Th) : tbs (ts.set q t) = tbs (ts.take q) ++ (t.row :: (t.M ++ tbs (ts.drop (q + 1)))) := by
  rw [List.set_eq_take_append_cons_drop, if_pos h, tbs_app]; rfl
theorem tbs_drop {ts : List Th} {q : Nat} (h : q < ts.length) : tbs (ts.drop q) = (ts.getD q th0).row :: ((ts.getD q th0).M ++ tbs (ts.drop (q + 1))) := by
  have e : ts.drop q = ts.getD q th0 :: ts.drop (q + 1) := by
    rw [List.drop_eq_getElem_cons h, List.getD_eq_getElem?_getD, List.getElem?_eq_getElem h]; rfl
  rw [e]; rfl
theorem get_of_map {α β : Type} {l : List α} {f : α → β} {m : List β} (h : l.map f = m) {k : Nat} {d : α} (hk : k < l.length) : m[k]? = some (f (l.getD k d)) := by
  rw [← h, List.getElem?_map, List.getElem?_eq_getElem hk, List.getD_eq_getElem?_getD, List.getElem?_eq_getElem hk]; rfl
/-- a thing told: its sums divided -/
def prt (s : ST) : ST := ⟨fop .quo s.ax (FloatKind.f64.nearest (s.seen.length : Int)), fop .quo s.ay (FloatKind.f64.nearest (s.seen.length : Int)), fop .quo s.vx (FloatKind.f64.nearest (s.seen.length : Int)), fop .quo s.vy (FloatKind.f64.nearest (s.seen.length : Int)), s.seen⟩
def fcs (fs : List Th) : List Value := fs.flatMap Th.cells
def fms (fs : List Th) : Bks := fs.flatMap Th.M
theorem fms_sub : ∀ (ts : List Th), (fms ts).Sublist (tbs ts)
  | [] => List.Sublist.slnil
  | t :: ts => by
    show (t.M ++ fms ts).Sublist ((t.row :: t.M) ++ tbs ts)
    exact (List.sublist_cons_self ..).append (fms_sub ts)
theorem fms_of {fs ts : List Th} (h : fs.map Th.M = ts.map Th.M) : fms fs = fms ts := by
  have e : ∀ l : List Th, fms l = (l.map Th.M).flatten := fun l => by unfold fms; rw [List.flatMap_def]
  rw [e, e, h]
theorem rowsI_of {w0 w : World} {g n : Nat} {rr : List RR} {L : Bks} (hs : HS w0 w L) (hg : (g, Row 93 (rvs rr)) ∈ L) (hr : ∀ r ∈ rr, r.ok w0) (hm : ∀ p ∈ rbs rr, p ∈ L) (hl : ∀ r ∈ rr, r.xs.length ≤ n) (hn : n ≤ 1000) : RowsI w (some ⟨g, 0, none⟩) (rr.map RR.xs) (rvs rr) := by
  refine ⟨SlC.of_row (sp := []) (by rw [List.append_nil]; exact hs.has _ hg), by simp [rvs], fun i hi => ?_⟩
  rw [List.length_map] at hi
  have hm' : rr.getD i rr0 ∈ rr := getD_mem hi
  have e1 : (rvs rr)[i]? = some (rr.getD i rr0).v := by
    unfold rvs; rw [List.getElem?_map, List.getElem?_eq_getElem hi, List.getD_eq_getElem?_getD, List.getElem?_eq_getElem hi]; rfl
  have e2 : (rr.map RR.xs).getD i [] = (rr.getD i rr0).xs := by
    rw [List.getD_eq_getElem?_getD, List.getElem?_map, List.getElem?_eq_getElem hi, List.getD_eq_getElem?_getD, List.getElem?_eq_getElem hi]; rfl
  have hb := hr _ hm'
  obtain ⟨a, c, hv, hc⟩ := Bl.slice hb
  have hl' := hl _ hm'
  rw [e1, e2, hv]
  refine ⟨a, c, rfl, hc, by omega, ?_⟩
  unfold RR.ok at hb
  rw [hv] at hb
  exact Bl.slcM hb hs (fun p hp => hm _ (List.mem_flatMap.2 ⟨_, hm', hp⟩))
end Go.Proofs.Ytknpoemkmcdgcaa
