/-
  A part of the proof: what functions that the statement reaches do, or a plain law on what they do. Each theorem holds under its own premises alone.
-/
import Derived.Test.YtdllakfojligjaaTCG9
import Derived.Test.YtdllakfojligjaaTCNA
namespace Go.Proofs.Ytdllakfojligjaa
open Go Go.Lk
/-! ### Small laws -/
theorem HS.drop1 {w0 w : World} {p : Nat × Obj} {L : Bks} (h : HS w0 w (p :: L)) (hp : w0.heap.size ≤ p.1) : HS w0 w L :=
 h.sub (fun _ hq => List.mem_cons_of_mem _ hq) (by have := h.nodup; simp only [List.map_cons, List.nodup_cons] at this; exact this.2) (fun q hq => by
  rcases List.mem_cons.1 hq with rfl | hq
  ·
   exact .inr hp
  ·
   exact .inl hq)
theorem getD_mem {α : Type} {l : List α} {i : Nat} {d : α} (h : i < l.length) : l.getD i d ∈ l := by
 rw [List.getD_eq_getElem?_getD, List.getElem?_eq_getElem h]; exact List.getElem_mem h
theorem get_mid {α : Type} (xs ys : List α) (v : α) (k : Nat) (hk : xs.length = k) : (xs ++ v :: ys)[k]? = some v := by
 subst hk
 rw [List.getElem?_append_right (Nat.le_refl _), Nat.sub_self]; rfl
theorem set_mid' {α : Type} (xs ys : List α) (v u : α) (k : Nat) (hk : xs.length = k) : (xs ++ v :: ys).set k u = xs ++ u :: ys := by
 subst hk
 rw [List.set_append_right _ _ (Nat.le_refl _), Nat.sub_self, List.set_cons_zero]
theorem HS.push {w0 w : World} {p : Nat × Obj} {L : Bks} (h : HS w0 w (L ++ [p])) : HS w0 w (p :: L) := h.mem_perm (List.perm_append_comm (l₂ := [_]))
theorem HS.pop {w0 w : World} {p : Nat × Obj} {L : Bks} (h : HS w0 w (p :: L)) (hp : w0.heap.size ≤ p.1) : HS w0 w L := HS.drop1 h hp
theorem HS.re {w0 w : World} {L L' : Bks} (h : HS w0 w L) (hc : ∀ c : Nat × Obj → Nat, (L.map c).sum = (L'.map c).sum) : HS w0 w L' := h.mem_perm (perm_by hc)
theorem cellAM {w0 w : World} {L : Bks} (h : HS w0 w L) {b j : Nat} {T : TypeId} {cs : List Value} {v : Value} (hm : (b, Row T cs) ∈ L) (hv : cs[j]? = some v) : w.cell? ((Addr.mk b 0 none).add j) = some v := by
 rw [add_lit0]; exact Lk.cell_of_row (h.has _ hm) hv
theorem take_snoc {α : Type} {l : List α} {j : Nat} {x : α} (h : l[j]? = some x) : l.take (j + 1) = l.take j ++ [x] := by
 rw [List.take_add_one, h]; rfl
structure RR where
 xs : List Int
 v : Value
 M : Bks
def rr0 : RR := ⟨[], .slice none 0 0, []⟩
def RR.ok (w0 : World) (r : RR) : Prop := Bl w0 2 1 r.v r.xs.length (il r.xs) r.M
def rvs (rr : List RR) : List Value := rr.map RR.v
def rbs (rr : List RR) : Bks := rr.flatMap RR.M
theorem rbs_own {w0 : World} {rr : List RR} (h : ∀ r ∈ rr, r.ok w0) : Own w0 (rbs rr) := fun p hp => by
 obtain ⟨r, hr, hp⟩ := List.mem_flatMap.1 hp
 exact (h r hr).own p hp
theorem Bl.slcM {w0 w : World} {E : TypeId} {sz : Nat} {a : Option Addr} {n c k : Nat} {xs : List Value} {L M : Bks} (h : Bl w0 E sz (.slice a n c) k xs M) (hs : HS w0 w L) (hM : ∀ p ∈ M, p ∈ L) : SlC w a xs := by
 have hs' : HS w w ([] ++ M) := HS.named (fun p hp => hs.has p (hM p hp)) (by
  cases h with
  | nil => exact List.nodup_nil
  | row => exact List.nodup_cons.2 ⟨List.not_mem_nil, List.nodup_nil⟩)
 have h' : Bl w E sz (.slice a n c) k xs M ∨ True := .inr trivial
 clear h'
 cases h with
 | nil => exact ⟨fun h => absurd h (Nat.lt_irrefl _), fun j v hv => by simp at hv⟩
 | row => exact SlC.of_row (hs.has _ (hM _ (List.mem_cons_self ..)))
theorem get_of_map {α β : Type} {l : List α} {f : α → β} {m : List β} (h : l.map f = m) {k : Nat} {d : α} (hk : k < l.length) : m[k]? = some (f (l.getD k d)) := by
 rw [← h, List.getElem?_map, List.getElem?_eq_getElem hk, List.getD_eq_getElem?_getD, List.getElem?_eq_getElem hk]; rfl
theorem cellsAt_part {w : World} {b T j n : Nat} {xs cs : List Value} (h : w.heap[b]? = some (Row T xs)) (hx : (xs.drop j).take n = cs) : CellsAt w ((Addr.mk b 0 none).add j) cs :=
 cellsAt_row cs h fun q v hq => by
  subst hx
  have hlt : q < n := by
   apply Classical.byContradiction
   intro hn
   rw [List.getElem?_take, if_neg hn] at hq; cases hq
  rw [List.getElem?_take_of_lt hlt, List.getElem?_drop] at hq
  exact hq
theorem cellsAt_lit {w : World} {b T j n : Nat} {xs cs : List Value} (h : w.heap[b]? = some (Row T xs)) (hx : (xs.drop j).take n = cs) : CellsAt w ⟨b, j, none⟩ cs := by
 have := cellsAt_part (j := j) h hx
 rwa [add_lit0] at this
structure VB where
 v : Value
 M : Bks
theorem rowsI_sl {w0 w : World} {a : Option Addr} {n : Nat} {rr : List RR} {L : Bks} (hs : HS w0 w L) (hg : SlC w a (rvs rr)) (hr : ∀ r ∈ rr, r.ok w0) (hm : ∀ p ∈ rbs rr, p ∈ L) (hl : ∀ r ∈ rr, r.xs.length ≤ n) (hn : n ≤ 1000) : RowsI w a (rr.map RR.xs) (rvs rr) := by
 refine ⟨hg, by simp [rvs], fun i hi => ?_⟩
 rw [List.length_map] at hi
 have hm' : rr.getD i rr0 ∈ rr := getD_mem hi
 have e1 : (rvs rr)[i]? = some (rr.getD i rr0).v := by
  unfold rvs; rw [List.getElem?_map, List.getElem?_eq_getElem hi, List.getD_eq_getElem?_getD, List.getElem?_eq_getElem hi]; rfl
 have e2 : (rr.map RR.xs).getD i [] = (rr.getD i rr0).xs := by
  rw [List.getD_eq_getElem?_getD, List.getElem?_map, List.getElem?_eq_getElem hi, List.getD_eq_getElem?_getD, List.getElem?_eq_getElem hi]; rfl
 have hb := hr _ hm'
 obtain ⟨a, c, hv, hc⟩ := Bl.slice hb
 have hl' := hl _ hm'
 rw [e1, e2, hv]
 refine ⟨a, c, rfl, hc, by omega, ?_⟩
 unfold RR.ok at hb
 rw [hv] at hb
 exact Bl.slcM hb hs (fun p hp => hm _ (List.mem_flatMap.2 ⟨_, hm', hp⟩))
end Go.Proofs.Ytdllakfojligjaa
