/-
  A part of the proof: what functions that the statement reaches do, or a plain law on what they do. Each theorem holds under its own premises alone.
-/
import Derived.Test.YtdllakfojligjaaTKP
import Derived.Test.YtdllakfojligjaaTKM
import Derived.Test.YtdllakfojligjaaKitP
namespace Go.Proofs.Ytdllakfojligjaa
open Go Go.Lk Go.Pr
/-! ### What is told, in plain words -/
theorem NewsTo.facts {r : Rul} {time : Nat} {ps : List Pq} {s u : NS} {j : Nat} (h : NewsTo r time ps s j u) (h0 : 1 ≤ s.next) :
  u.told.length = s.told.length ∧ s.next ≤ u.next ∧ u.next ≤ s.next + j ∧ (∀ q, u.told.getD q 0 = s.told.getD q 0 ∨ (¬ 0 < s.told.getD q 0 ∧ s.next ≤ u.told.getD q 0)) ∧ u.os.length ≤ s.os.length + j := by
 induction h with
 | zero => exact ⟨rfl, Int.le_refl _, by omega, fun q => .inl rfl, by omega⟩
 | old h1 _ ih =>
  obtain ⟨a, b, c, d, e⟩ := ih
  exact ⟨a, b, by omega, d, by omega⟩
 | @new j u o h1 h2 _ _ _ _ ih =>
  obtain ⟨a, b, c, d, e⟩ := ih
  refine ⟨by rw [List.length_set, a], by show s.next ≤ u.next + 1; omega, by show u.next + 1 ≤ s.next + ((j + 1 : Nat) : Int); omega, fun q => ?_, by rw [List.length_append, List.length_singleton]; omega⟩
  show (u.told.set j u.next).getD q 0 = _ ∨ (_ ∧ s.next ≤ (u.told.set j u.next).getD q 0)
  by_cases hq : j = q
  ·
   subst hq
   by_cases hl : j < u.told.length
   ·
    have e1 : (u.told.set j u.next).getD j 0 = u.next := by rw [List.getD_eq_getElem?_getD, List.getElem?_set_self hl]; rfl
    rw [e1]
    right
    refine ⟨fun h => h2 (.inl ?_), b⟩
    rcases d j with d | d
    ·
     rw [d]; exact h
    ·
     exact absurd h d.1
   ·
    rw [List.set_eq_of_length_le (by omega)]; exact d j
  ·
   have e1 : (u.told.set j u.next).getD q 0 = u.told.getD q 0 := by rw [List.getD_eq_getElem?_getD, List.getElem?_set_ne hq, List.getD_eq_getElem?_getD]
   rw [e1]; exact d q
/-- what the mates were told: each point its track's number, or nought -/
theorem hits_told' {n : Nat} (q : Nat) (hq : q < n) : ∀ (zs : List (On × Int)) (told : List Int), told.length = n →
  (∃ z ∈ zs, z.2 = (q : Int) ∧ (zs.foldl hitT told).getD q 0 = z.1.t.id) ∨ ((∀ z ∈ zs, z.2 ≠ (q : Int)) ∧ (zs.foldl hitT told).getD q 0 = told.getD q 0)
 | [], told, _ => .inr ⟨fun z hz => (by cases hz), rfl⟩
 | z :: zs, told, hl => by
  rw [List.foldl_cons]
  rcases hits_told' q hq zs (hitT told z) (by rw [hitT_len, hl]) with ⟨x, hx, h1, h2⟩ | ⟨h1, h2⟩
  ·
   exact .inl ⟨x, List.mem_cons_of_mem _ hx, h1, h2⟩
  ·
   by_cases hp : z.2 = (q : Int)
   ·
    left
    refine ⟨z, List.mem_cons_self .., hp, ?_⟩
    rw [h2]
    unfold hitT
    rw [if_pos (by omega), hp]
    show (told.set q z.1.t.id).getD q 0 = _
    rw [List.getD_eq_getElem?_getD, List.getElem?_set_self (by omega)]; rfl
   ·
    have e : (hitT told z).getD q 0 = told.getD q 0 := by
     unfold hitT
     split
     ·
      rw [List.getD_eq_getElem?_getD, List.getElem?_set_ne (by omega), List.getD_eq_getElem?_getD]
     ·
      rfl
    refine .inr ⟨fun x hx => ?_, by rw [h2, e]⟩
    rcases List.mem_cons.1 hx with rfl | hx
    ·
     exact hp
    ·
     exact h1 x hx
theorem hits_told {n : Nat} (zs : List (On × Int)) (q : Nat) (hq : q < n) :
  (∃ z ∈ zs, z.2 = (q : Int) ∧ (zs.foldl hitT (List.replicate n 0)).getD q 0 = z.1.t.id) ∨ ((∀ z ∈ zs, z.2 ≠ (q : Int)) ∧ (zs.foldl hitT (List.replicate n 0)).getD q 0 = 0) := by
 rcases hits_told' q hq zs (List.replicate n 0) (List.length_replicate ..) with h | ⟨h1, h2⟩
 ·
  exact .inl h
 ·
  exact .inr ⟨h1, by rw [h2, List.getD_eq_getElem?_getD, List.getElem?_replicate, if_pos hq]; rfl⟩
theorem MostAns.inj {rows : List (List Int)} {ms : List Int} {c t e : Int} (h : MostAns rows ms c t e) {i j : Nat} (hi : i < ms.length) (hj : j < ms.length) (h0 : 0 ≤ ms.getD i 0) (he : ms.getD i 0 = ms.getD j 0) : i = j := by
 rcases h with ⟨_, rfl, _⟩ | ⟨_, _, f, hf, rfl, _⟩
 ·
  simp at hi
 ·
  rw [List.length_map, List.length_range] at hi hj
  have e1 : ∀ q, q < rows.length → ((List.range rows.length).map (fun i => if f i < wid rows 0 then (f i : Int) else -1)).getD q 0 = if f q < wid rows 0 then (f q : Int) else -1 := fun q hq => by
   rw [List.getD_eq_getElem?_getD, List.getElem?_map, List.getElem?_range hq]; rfl
  rw [e1 i hi, e1 j hj] at he
  rw [e1 i hi] at h0
  have hfi : f i = f j := by
   split at he
   ·
    split at he
    ·
     omega
    ·
     omega
   ·
    next hh => rw [if_neg hh] at h0; omega
  exact hf.bij.inj _ _ (by omega) (by omega) hfi
structure Least (k : Bok) (told : List Int) (os2 : List On) (ms : List Int) : Prop where
 mate : ∀ i, i < os2.length → 0 ≤ ms.getD i 0 → told.getD (ms.getD i 0).toNat 0 = (os2.getD i on0).t.id
 told : ∀ i q, i < os2.length → q < told.length → told.getD q 0 = (os2.getD i on0).t.id → ms.getD i 0 = q
theorem AheadR.tid {time q : Nat} {o o' : On} (h : AheadR time q o o') : o'.t.id = o.t.id := congrArg Prod.fst h.ent
end Go.Proofs.Ytdllakfojligjaa
