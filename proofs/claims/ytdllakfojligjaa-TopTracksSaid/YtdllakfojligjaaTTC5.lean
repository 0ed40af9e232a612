/-
  A part of the proof: what functions that the statement reaches do, or a plain law on what they do. Each theorem holds under its own premises alone.
-/
import Derived.Test.YtdllakfojligjaaTTC4
namespace Go.Proofs.Ytdllakfojligjaa
open Go Go.Lk Go.Pr
/-! ### What is told names each track once -/
theorem All2.left {α β : Type} {R : α → β → Prop} : ∀ {l : List α} {m : List β}, All2 R l m → ∀ a ∈ l, ∃ b ∈ m, R a b
 | _, _, .nil, a, h => by cases h
 | _, _, .cons h1 h, a, ha => by
  rcases List.mem_cons.1 ha with rfl | ha
  ·
   exact ⟨_, List.mem_cons_self .., h1⟩
  ·
   obtain ⟨b, hb, hr⟩ := All2.left h a ha
   exact ⟨b, List.mem_cons_of_mem _ hb, hr⟩
/-- what is told names each track once, and tracks that are there -/
structure Once (k k' : Bok) (n : Nat) (told : List Int) : Prop where
 len : told.length = n
 ex : ∀ q, told.getD q 0 ≠ 0 → ∃ o ∈ k'.os, o.t.id = told.getD q 0 ∧ o.t.seen % 2 = 1
 inj : ∀ p q, p < q → told.getD p 0 = told.getD q 0 → told.getD q 0 = 0
 nw : ∀ q, told.getD q 0 ≠ 0 → (∀ o ∈ k.os, o.t.id ≠ told.getD q 0) → k.next ≤ told.getD q 0
 asc : ∀ p q, p < q → k.next ≤ told.getD p 0 → k.next ≤ told.getD q 0 → told.getD p 0 < told.getD q 0
 low : ∀ q, told.getD q 0 < k'.next
theorem NewsTo.once {r : Rul} {time : Nat} {ps : List Pq} {s u : NS} {j : Nat} (h : NewsTo r time ps s j u) (h0 : 1 ≤ s.next) (hlow : ∀ q, s.told.getD q 0 < s.next) :
  s.next ≤ u.next ∧ (∀ q, u.told.getD q 0 < u.next) ∧ (∀ q, u.told.getD q 0 = s.told.getD q 0 ∨ (q < j ∧ s.next ≤ u.told.getD q 0 ∧ ∃ o ∈ u.os, o.t.id = u.told.getD q 0 ∧ o.t.seen = 1)) ∧ (∀ o ∈ s.os, o ∈ u.os) ∧
  (∀ p q, p < q → s.next ≤ u.told.getD p 0 → s.next ≤ u.told.getD q 0 → u.told.getD p 0 < u.told.getD q 0) := by
 induction h with
 | zero => exact ⟨Int.le_refl _, hlow, fun _ => .inl rfl, fun _ h => h, fun p q _ h _ => by have := hlow p; omega⟩
 | old h1 _ ih =>
  obtain ⟨a, b, c, d, e⟩ := ih
  exact ⟨a, b, fun q => (c q).imp id fun ⟨x, y⟩ => ⟨by omega, y⟩, d, e⟩
 | @new j u o h1 h2 _ h4 _ _ ih =>
  obtain ⟨a, b, c, d, e⟩ := ih
  have hoid : o.t.id = u.next := by rw [h4]; rfl
  have hose : o.t.seen = 1 := by rw [h4]; rfl
  have g : ∀ q, (q = j ∧ (u.told.set j u.next).getD q 0 = u.next) ∨ (u.told.set j u.next).getD q 0 = u.told.getD q 0 := fun q => by
   by_cases hq : j = q
   ·
    subst hq
    by_cases hl : j < u.told.length
    ·
     left; refine ⟨rfl, ?_⟩; rw [List.getD_eq_getElem?_getD, List.getElem?_set_self hl]; rfl
    ·
     right; rw [List.set_eq_of_length_le (by omega)]
   ·
    right; rw [List.getD_eq_getElem?_getD, List.getElem?_set_ne hq, List.getD_eq_getElem?_getD]
  refine ⟨by show s.next ≤ u.next + 1; omega, fun q => ?_, fun q => ?_, fun x hx => List.mem_append_left _ (d x hx), fun p q hpq hp hq => ?_⟩
  ·
   show (u.told.set j u.next).getD q 0 < u.next + 1
   rcases g q with ⟨_, g⟩ | g
   ·
    rw [g]; omega
   ·
    rw [g]; have := b q; omega
  ·
   show (u.told.set j u.next).getD q 0 = _ ∨ (q < j + 1 ∧ s.next ≤ (u.told.set j u.next).getD q 0 ∧ ∃ x ∈ u.os ++ [o], x.t.id = (u.told.set j u.next).getD q 0 ∧ x.t.seen = 1)
   rcases g q with ⟨rfl, g⟩ | g
   ·
    rw [g]
    exact .inr ⟨by omega, a, o, List.mem_append_right _ (List.mem_singleton.2 rfl), hoid, hose⟩
   ·
    rw [g]
    rcases c q with c | ⟨c1, c2, x, hx, c3⟩
    ·
     exact .inl c
    ·
     exact .inr ⟨by omega, c2, x, List.mem_append_left _ hx, c3⟩
  ·
   show (u.told.set j u.next).getD p 0 < (u.told.set j u.next).getD q 0
   have hp' : s.next ≤ (u.told.set j u.next).getD p 0 := hp
   have hq' : s.next ≤ (u.told.set j u.next).getD q 0 := hq
   rcases g q with ⟨rfl, g1⟩ | g1
   ·
    rw [g1]
    rcases g p with ⟨rfl, _⟩ | g2
    ·
     omega
    ·
     rw [g2]; exact b p
   ·
    rw [g1] at hq' ⊢
    rcases g p with ⟨rfl, g2⟩ | g2
    ·
     exfalso
     rcases c q with c | ⟨c1, _⟩
     ·
      have := hlow q; omega
     ·
      omega
    ·
     rw [g2] at hp' ⊢
     exact e p q hpq hp' hq'
theorem or16_odd (s : Nat) : or16 s % 2 = 1 := by
 unfold or16
 rw [Nat.mod_two_eq_one_iff_testBit_zero, Nat.testBit_or]
 simp
theorem step_once {w0 : World} {N : Nat} {k k' : Bok} {time : Nat} {l : List Plt} {told : List Int} {os2 : List On} {ps : List Pq} {ms : List Int} {os3 : List On} (hk : k.ok w0 N) (hl : l.length ≤ 256) (h : StepTo k time l k' told os2 ps ms os3) : Once k k' l.length told := by
 have hps := h.pts.len
 obtain ⟨cnt, tt, hm⟩ := h.most
 have hal := h.ahead.len
 have hsub : ∀ o ∈ k.os.filter aliveB, o ∈ k.os := fun o ho => (List.mem_filter.1 ho).1
 have hle : os2.length ≤ 256 := by rw [hal]; exact Nat.le_trans (List.length_filter_le ..) hk.cnt
 obtain ⟨_, hml, hmr⟩ := most_len hk.rul.gate (by omega) hle hm
 have hids : (os2.map fun o => o.t.id) = (k.os.filter aliveB).map fun o => o.t.id := h.ahead.map_eq (f := fun o => o.t.id) fun _ _ hr => hr.tid
 have hnd : (os2.map fun o => o.t.id).Nodup := by
  rw [hids]
  have h1 : (k.os.map fun o => o.t.id).Nodup := by rw [← k.ids]; exact hk.ents.keys
  exact h1.sublist ((List.filter_sublist (p := aliveB)).map _)
 have hin : ∀ i, i < os2.length → ∃ o ∈ k.os, o.t.id = (os2.getD i on0).t.id := fun i hi => by
  have h1 : (os2.getD i on0).t.id ∈ os2.map fun o => o.t.id := List.mem_map.2 ⟨_, getD_mem hi, rfl⟩
  rw [hids] at h1
  obtain ⟨o, ho, he⟩ := List.mem_map.1 h1
  exact ⟨o, hsub o ho, he⟩
 have hid_inj : ∀ i j, i < os2.length → j < os2.length → (os2.getD i on0).t.id = (os2.getD j on0).t.id → i = j := fun i j hi hj he => by
  refine nodup_at hnd (i := i) (j := j) (x := (os2.getD i on0).t.id) (get_of_map rfl hi) ?_
  rw [he]; exact get_of_map rfl hj
 have hzi : ∀ z ∈ os2.zip ms, ∃ i, i < os2.length ∧ z = (os2.getD i on0, ms.getD i 0) := fun z hz => by
  obtain ⟨i, hi, rfl⟩ := List.getElem_of_mem hz
  rw [List.length_zip] at hi
  refine ⟨i, by omega, ?_⟩
  have h1 := zip_get (a := os2) (b := ms) (i := i) (da := on0) (db := 0) (by omega) (by omega)
  rw [List.getElem?_eq_getElem (by rw [List.length_zip]; omega)] at h1
  exact Option.some.inj h1
 obtain ⟨H, hHe⟩ : ∃ H, H = (os2.zip ms).foldl hitT (List.replicate l.length 0) := ⟨_, rfl⟩
 have hHl : H.length = l.length := by rw [hHe, hitsT_len, List.length_replicate]
 have hnews := h.news
 rw [← hHe] at hnews
 have hH : ∀ q, H.getD q 0 = 0 ∨ (q < l.length ∧ ∃ i, i < os2.length ∧ ms.getD i 0 = (q : Int) ∧ H.getD q 0 = (os2.getD i on0).t.id) := fun q => by
  by_cases hq : q < l.length
  ·
   rcases hits_told (n := l.length) (os2.zip ms) q hq with ⟨z, hz1, hz2, hz3⟩ | ⟨_, hz⟩
   ·
    obtain ⟨i, hi, rfl⟩ := hzi z hz1
    exact .inr ⟨hq, i, hi, hz2, by rw [hHe]; exact hz3⟩
   ·
    exact .inl (by rw [hHe]; exact hz)
  ·
   left
   rw [List.getD_eq_getElem?_getD, List.getElem?_eq_none (by omega)]; rfl
 have hHlow : ∀ q, H.getD q 0 < k.next := fun q => by
  have := hk.next1
  rcases hH q with h0 | ⟨_, i, hi, _, h0⟩
  ·
   omega
  ·
   obtain ⟨o, ho, he⟩ := hin i hi
   have := (hk.low o ho).2
   omega
 have htl : told.length = l.length := by
  have := (hnews.facts hk.next1).1
  have e : told.length = H.length := this
  omega
 obtain ⟨f1, f2, f3, f4, f5⟩ := hnews.once hk.next1 hHlow
 have f2 : ∀ q, told.getD q 0 < k'.next := f2
 have f3 : ∀ q, told.getD q 0 = H.getD q 0 ∨ (q < l.length ∧ k.next ≤ told.getD q 0 ∧ ∃ o ∈ k'.os, o.t.id = told.getD q 0 ∧ o.t.seen = 1) := f3
 have f5 : ∀ p q, p < q → k.next ≤ told.getD p 0 → k.next ≤ told.getD q 0 → told.getD p 0 < told.getD q 0 := f5
 have f4 : ∀ o ∈ os3, o ∈ k'.os := f4
 refine ⟨htl, fun q hq => ?_, fun p q hpq he => ?_, fun q hq hno => ?_, f5, f2⟩
 ·
  rcases f3 q with f | ⟨_, _, o, ho, h1, h2⟩
  ·
   rcases hH q with h0 | ⟨_, i, hi, hmi, h0⟩
   ·
    exact absurd (f.trans h0) hq
   ·
    have hz : (os2.getD i on0, ms.getD i 0) ∈ os2.zip ms := List.mem_of_getElem? (zip_get (a := os2) (b := ms) (i := i) (by omega) (by omega))
    obtain ⟨o, ho, t, ht, _, _, hot, _⟩ := h.hits.left _ hz
    rw [if_pos (by show 0 ≤ ms.getD i 0; omega)] at ht
    obtain ⟨x, y, _, _, rfl⟩ := ht
    refine ⟨o, f4 o ho, ?_, ?_⟩
    ·
     rw [hot, f, h0]; rfl
    ·
     rw [hot]; exact or16_odd _
  ·
   exact ⟨o, ho, h1, by rw [h2]⟩
 ·
  have hn1 := hk.next1
  rcases f3 q with f | ⟨_, f, _⟩
  ·
   rcases f3 p with g | ⟨_, g, _⟩
   ·
    rcases hH q with h0 | ⟨_, i, hi, hmi, h0⟩
    ·
     rw [f, h0]
    ·
     rcases hH p with h1 | ⟨_, j, hj, hmj, h1⟩
     ·
      rw [← he, g, h1]
     ·
      exfalso
      have : i = j := hid_inj i j hi hj (by rw [← h0, ← h1, ← f, ← g, he])
      subst this
      omega
   ·
    have := hHlow q; omega
  ·
   rcases f3 p with g | ⟨_, g, _⟩
   ·
    have := hHlow p; omega
   ·
    have := f5 p q hpq g f; omega
 ·
  rcases f3 q with f | ⟨_, f, _⟩
  ·
   rcases hH q with h0 | ⟨_, i, hi, hmi, h0⟩
   ·
    exact absurd (f.trans h0) hq
   ·
    obtain ⟨o, ho, he⟩ := hin i hi
    exact absurd (by rw [he, f, h0]) (hno o ho)
  ·
   exact f

/-- the bit and the map agree -/
theorem seen_bit {w0 : World} {N n c : Nat} {NN : Int} {k k' : Bok} {told : List Int} {l : List (Int × Int × Nat)} (hk : k'.ok w0 N) (hO : Once k k' n told) (hM : SeenM told told.length l) {o : On} (ho : o ∈ k'.os) (hS : o.t.seen % 2 = 1 → Seen1 c NN told o) :
  (o.t.seen % 2 = 1 ∧ (mget o.t.id l).getD 0 = 1) ∨ (o.t.seen % 2 = 0 ∧ (mget o.t.id l).getD 0 = 0) := by
 have hid := (hk.low o ho).1
 have h1 := hM.one o.t.id (by omega)
 rw [List.take_length] at h1
 by_cases hb : o.t.seen % 2 = 1
 ·
  left
  obtain ⟨⟨q, hq⟩, _, _⟩ := hS hb
  refine ⟨hb, ?_⟩
  rw [h1, if_pos]
  rw [← hq]
  by_cases hl : q < told.length
  ·
   exact getD_mem hl
  ·
   rw [List.getD_eq_getElem?_getD, List.getElem?_eq_none (by omega)] at hq
   exfalso
   have : (0 : Int) = o.t.id := hq
   omega
 ·
  right
  refine ⟨by omega, ?_⟩
  rw [h1, if_neg]
  intro hm
  obtain ⟨q, hq, he⟩ := List.getElem_of_mem hm
  have hq2 : told.getD q 0 = o.t.id := by rw [List.getD_eq_getElem?_getD, List.getElem?_eq_getElem hq]; exact he
  obtain ⟨u, hu, e1, e2⟩ := hO.ex q (by rw [hq2]; omega)
  rw [on_uniq hk ho hu (by rw [e1, hq2])] at hb
  exact hb e2
end Go.Proofs.Ytdllakfojligjaa
