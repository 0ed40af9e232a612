/-
  A part of the proof: what functions that the statement reaches do, or a plain law on what they do. Each theorem holds under its own premises alone.
-/
import Derived.Test.YtdllakfojligjaaTTB5
namespace Go.Proofs.Ytdllakfojligjaa
open Go Go.Lk Go.Pr
/-! ### TopTracks: the first step of an empty book; what is told, in a map -/
theorem news0 {r : Rul} {time : Nat} {ps : List Pq} {s u : NS} (h : NewsTo r time ps s 0 u) : u = s := by
 cases h; rfl
theorem news1 {r : Rul} {time : Nat} {ps : List Pq} {s u : NS} (h : NewsTo r time ps s 1 u) (h0 : s.told = [0]) (h1 : s.os = []) : u.told = [s.next] ∧ u.os.length = 1 := by
 cases h with
 | old h2 h3 =>
  obtain rfl := news0 h2
  exfalso
  rw [h0, h1] at h3
  rcases h3 with h3 | h3
  ·
   exact absurd h3 (by decide)
  ·
   exact absurd h3 (by decide)
 | new h2 _ _ _ _ _ =>
  obtain rfl := news0 h2
  exact ⟨by show _ = _; rw [h0]; rfl, by show (_ ++ [_]).length = 1; rw [h1]; rfl⟩
theorem first1 {k k' : Bok} {time : Nat} {p : Plt} {told : List Int} {os2 : List On} {ps : List Pq} {ms : List Int} {os3 : List On} (hk : k.os = []) (hn : k.next = 1) (h : StepTo k time [p] k' told os2 ps ms os3) : told = [1] ∧ k'.os.length = 1 := by
 have ha := h.ahead
 rw [hk] at ha
 have hos2 : os2 = [] := List.eq_nil_of_length_eq_zero (by rw [ha.len]; rfl)
 subst hos2
 have hos3 : os3 = [] := List.eq_nil_of_length_eq_zero (by rw [h.hits.len]; rfl)
 subst hos3
 obtain ⟨g1, g2⟩ := news1 h.news rfl rfl
 exact ⟨by rw [← hn]; exact g1, g2⟩
/-- the map of what was told so far -/
structure SeenM (told : List Int) (q : Nat) (l : List (Int × Int × Nat)) : Prop where
 rng : ∀ id, 0 ≤ (mget id l).getD 0 ∧ (mget id l).getD 0 ≤ q
 one : ∀ id, id ≠ 0 → (mget id l).getD 0 = if id ∈ told.take q then 1 else 0
theorem seenM_nil (told : List Int) : SeenM told 0 [] := ⟨fun _ => ⟨Int.le_refl _, Int.le_refl _⟩, fun id _ => by simp [mget]⟩
theorem mget_mput {κ ν : Type} [DecidableEq κ] (k k' : κ) (v : ν) (ck : Nat) : ∀ l : List (κ × ν × Nat), mget k' (mput k v ck l) = if k' = k then some v else mget k' l
 | [] => by
  by_cases h : k' = k
  ·
   subst h; simp [mput, mget]
  ·
   have h' : ¬ k = k' := fun e => h e.symm
   simp [mput, mget, h, h']
 | x :: l => by
  have ih := mget_mput k k' v ck l
  by_cases hx : x.1 = k
  ·
   by_cases h : k' = k
   ·
    subst h; simp [mput, mget, hx]
   ·
    have h' : ¬ k = k' := fun e => h e.symm
    simp [mput, mget, hx, h, h']
  ·
   by_cases h : x.1 = k'
   ·
    have h' : ¬ k' = k := fun e => hx (h.trans e)
    simp [mput, mget, hx, h, h']
   ·
    simp [mput, mget, hx, h, ih]
theorem SeenM.step {told : List Int} {q : Nat} {l : List (Int × Int × Nat)} {id : Int} {ck : Nat} (h : SeenM told q l) (hq : q < told.length) (hid : id = told.getD q 0) (hinj : ∀ p, p < q → told.getD p 0 = told.getD q 0 → told.getD q 0 = 0) :
  SeenM told (q + 1) (mput id ((mget id l).getD 0 + 1) ck l) ∧ (0 < id → (mget id (mput id ((mget id l).getD 0 + 1) ck l)).getD 0 ≤ 1) := by
 have ht : told.take (q + 1) = told.take q ++ [id] := take_snoc (by rw [hid, List.getD_eq_getElem?_getD, List.getElem?_eq_getElem hq]; rfl)
 have hnot : id ≠ 0 → id ∉ told.take q := fun h0 hm => by
  obtain ⟨p, hp, he⟩ := List.getElem_of_mem hm
  rw [List.length_take] at hp
  rw [List.getElem_take] at he
  have h1 : told.getD p 0 = id := by rw [List.getD_eq_getElem?_getD, List.getElem?_eq_getElem (by omega)]; exact he
  exact h0 (by rw [hid]; exact hinj p (by omega) (by rw [h1, hid]))
 have key : ∀ k', (mget k' (mput id ((mget id l).getD 0 + 1) ck l)).getD 0 = if k' = id then (mget id l).getD 0 + 1 else (mget k' l).getD 0 := fun k' => by
  rw [mget_mput]
  split <;> rfl
 refine ⟨⟨fun k' => ?_, fun k' hk => ?_⟩, fun h0 => ?_⟩
 ·
  rw [key]
  have h1 := h.rng id
  have h2 := h.rng k'
  split <;> omega
 ·
  rw [key, ht]
  by_cases he : k' = id
  ·
   subst he
   rw [if_pos rfl, h.one _ hk, if_neg (hnot hk), if_pos (by simp)]; rfl
  ·
   rw [if_neg he, h.one _ hk]
   simp [he]
 ·
  rw [key, if_pos rfl, h.one _ (by omega), if_neg (hnot (by omega))]; decide
theorem on_uniq {w0 : World} {n : Nat} {k : Bok} (h : k.ok w0 n) {o u : On} (ho : o ∈ k.os) (hu : u ∈ k.os) (he : o.t.id = u.t.id) : o = u := by
 have h1 : (k.os.map fun o => o.t.id).Nodup := by rw [← k.ids]; exact h.ents.keys
 obtain ⟨i, hi, rfl⟩ := List.getElem_of_mem ho
 obtain ⟨j, hj, rfl⟩ := List.getElem_of_mem hu
 have : i = j := nodup_at h1 (i := i) (j := j) (x := k.os[i].t.id) (by rw [List.getElem?_map, List.getElem?_eq_getElem hi]; rfl) (by rw [List.getElem?_map, List.getElem?_eq_getElem hj, he]; rfl)
 subst this; rfl
end Go.Proofs.Ytdllakfojligjaa
