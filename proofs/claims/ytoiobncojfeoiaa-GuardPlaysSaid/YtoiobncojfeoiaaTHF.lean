/-
  A part of the proof: what functions that the statement reaches do, or a plain law on what they do. Each theorem holds under its own premises alone.
-/
import Derived.Test.YtoiobncojfeoiaaTHE
import Derived.Test.YtoiobncojfeoiaaTUW3
namespace Go.Proofs.Ytoiobncojfeoiaa
open Go Go.Lk
/-! ### What the two guards know is the same -/
structure KInv (es : List KE) (ks : List Kn) : Prop where
  ord : ks.Pairwise fun a b => a.zone = b.zone → a.id < b.id
  mem : ∀ k, k ∈ ks ↔ (k.inn = true ∧ k.told = false ∧ val es (k.zone, k.id) = 2) ∨ (k.inn = false ∧ k.told = true ∧ val es (k.zone, k.id) = 1)
theorem kinv_nil : KInv [] [] := ⟨List.Pairwise.nil, fun k => by simp [val, mget]⟩
theorem ofK_val {es : List KE} {ks : List Kn} (h : KInv es ks) (z id : Int) : ofK ks z id = ⟨z, id, decide (val es (z, id) = 2), decide (val es (z, id) = 1)⟩ := by
  unfold ofK
  cases hf : ks.find? (fun k => decide (k.zone = z) && decide (k.id = id)) with
  | some k =>
    have hm := List.mem_of_find?_eq_some hf
    have hp := List.find?_some hf
    simp only [Bool.and_eq_true, decide_eq_true_eq] at hp
    have hk := (h.mem k).1 hm
    rw [hp.1, hp.2] at hk
    obtain ⟨a, b, c, d⟩ := k
    simp only at hp hk
    obtain ⟨rfl, rfl⟩ := hp
    rcases hk with ⟨rfl, rfl, hv⟩ | ⟨rfl, rfl, hv⟩ <;> simp [hv]
  | none =>
    rw [List.find?_eq_none] at hf
    have h2 : val es (z, id) ≠ 2 := fun hv => by
      have := hf ⟨z, id, true, false⟩ ((h.mem _).2 (.inl ⟨rfl, rfl, hv⟩))
      simp at this
    have h1 : val es (z, id) ≠ 1 := fun hv => by
      have := hf ⟨z, id, false, true⟩ ((h.mem _).2 (.inr ⟨rfl, rfl, hv⟩))
      simp at this
    simp [h1, h2]
theorem rin_same {es : List KE} {ks : List Kn} (h : KInv es ks) (hn : (es.map (·.1)).Nodup) (q : Int) : rinL ks q = isort (inL es q) := by
  refine lt_ext ?_ (inS_lt hn q) fun id => ?_
  · unfold rinL
    refine List.pairwise_map.2 (List.Pairwise.imp_of_mem ?_ (h.ord.filter _))
    intro a b ha hb hab
    have h1 := (List.mem_filter.1 ha).2
    have h2 := (List.mem_filter.1 hb).2
    simp only [Bool.and_eq_true, decide_eq_true_eq] at h1 h2
    exact hab (h1.1.trans h2.1.symm)
  · rw [inS_mem hn]
    unfold rinL
    constructor
    · intro hi
      obtain ⟨k, hk, rfl⟩ := List.mem_map.1 hi
      obtain ⟨hk, hp⟩ := List.mem_filter.1 hk
      simp only [Bool.and_eq_true, decide_eq_true_eq] at hp
      rcases (h.mem k).1 hk with h1 | h1
      · rw [← hp.1]; exact h1.2.2
      · rw [h1.1] at hp; cases hp.2
    · intro hv
      exact List.mem_map.2 ⟨⟨q, id, true, false⟩, List.mem_filter.2 ⟨(h.mem _).2 (.inl ⟨rfl, rfl, hv⟩), by simp⟩, rfl⟩
theorem val_drop {es : List KE} (hn : (es.map (·.1)).Nodup) (q : Int) (p : Int × Int) : val (dropE es q) p = if p.1 = q then 0 else val es p := by
  unfold dropE
  cases hg : mget p es with
  | none =>
    have h2 : mget p (es.filter fun x => !dropB q x) = none := mget_notin fun hm => by
      obtain ⟨y, hy, rfl⟩ := List.mem_map.1 hm
      rw [mget_mem hn (List.mem_filter.1 hy).1] at hg; cases hg
    unfold val
    rw [h2, hg]
    simp
  | some v =>
    obtain ⟨x, hx, hk, hv⟩ := mget_some hg
    unfold val
    rw [mget_filter hn _ p hx hk, hg]
    unfold dropB
    rw [hk, hv]
    by_cases h2 : p.1 = q <;> simp [h2]
theorem kinv_drop {es : List KE} {ks : List Kn} (h : KInv es ks) (hn : (es.map (·.1)).Nodup) (q : Int) : KInv (dropE es q) (dropK ks q) := by
  refine ⟨h.ord.filter _, fun k => ?_⟩
  unfold dropK
  rw [List.mem_filter, h.mem, val_drop hn]
  by_cases hq : k.zone = q
  · simp [hq]
  · simp [hq]
theorem key_len {es : List KE} {ks : List Kn} (h : KInv es ks) (hn : (es.map (·.1)).Nodup) (hV : VOk es) : ks.length = es.length := by
  have hp : (ks.map fun k => (k.zone, k.id)).Perm (es.map (·.1)) := by
    refine perm_nodup ?_ hn fun p => ?_
    · refine List.pairwise_map.2 (h.ord.imp fun {a b} hab e => ?_)
      rw [Prod.mk.injEq] at e
      have := hab e.1
      omega
    · constructor
      · intro hp
        obtain ⟨k, hk, rfl⟩ := List.mem_map.1 hp
        have hne : val es (k.zone, k.id) ≠ 0 := by rcases (h.mem k).1 hk with h1 | h1 <;> omega
        obtain ⟨x, hx, hxk, _⟩ := val_ex hne
        exact List.mem_map.2 ⟨x, hx, hxk⟩
      · intro hp
        obtain ⟨x, hx, rfl⟩ := List.mem_map.1 hp
        have hv := val_of hn hx
        rcases hV x hx with h1 | h1
        · exact List.mem_map.2 ⟨⟨x.1.1, x.1.2, false, true⟩, (h.mem _).2 (.inr ⟨rfl, rfl, by show val es x.1 = 1; omega⟩), rfl⟩
        · exact List.mem_map.2 ⟨⟨x.1.1, x.1.2, true, false⟩, (h.mem _).2 (.inl ⟨rfl, rfl, by show val es x.1 = 2; omega⟩), rfl⟩
  have := hp.length_eq
  rwa [List.length_map, List.length_map] at this
theorem putT_lt {l : List Int} (h : l.Pairwise (· < ·)) (t : Tk) : (putT l t).Pairwise (· < ·) := by
  unfold putT
  split
  · exact putL_lt _ h
  · exact h
theorem rids_lt (ks : List Kn) (ts : List Tk) (z : Int) : (rids ks ts z).Pairwise (· < ·) := by
  have h1 : ∀ (ts : List Tk) (l : List Int), l.Pairwise (· < ·) → (ts.foldl putT l).Pairwise (· < ·) := by
    intro ts
    induction ts with
    | nil => intro l h; exact h
    | cons t ts ih => intro l h; exact ih _ (putT_lt h t)
  have h2 : ∀ (ks : List Kn) (l : List Int), l.Pairwise (· < ·) → (ks.foldl (putK z) l).Pairwise (· < ·) := by
    intro ks
    induction ks with
    | nil => intro l h; exact h
    | cons k ks ih =>
      intro l h
      refine ih _ ?_
      unfold putK; split
      · exact putL_lt _ h
      · exact h
  exact h2 ks _ (h1 ts [] List.Pairwise.nil)
theorem rids_mem (ks : List Kn) (ts : List Tk) (z i : Int) : i ∈ rids ks ts z ↔ (∃ t ∈ ts, t.id = i ∧ t.kind = 1) ∨ ∃ k ∈ ks, k.zone = z ∧ k.inn = true ∧ k.id = i := by
  have h1 : ∀ (ts : List Tk) (l : List Int), i ∈ ts.foldl putT l ↔ i ∈ l ∨ ∃ t ∈ ts, t.id = i ∧ t.kind = 1 := by
    intro ts
    induction ts with
    | nil => intro l; simp
    | cons t ts ih =>
      intro l
      rw [List.foldl_cons, ih]
      unfold putT
      by_cases hk : t.kind = 1
      · rw [if_pos hk, putL_mem]
        simp only [List.mem_cons, exists_eq_or_imp, hk, and_true]
        constructor
        · rintro ((h | h) | h)
          · exact .inr (.inl h.symm)
          · exact .inl h
          · exact .inr (.inr h)
        · rintro (h | h | h)
          · exact .inl (.inr h)
          · exact .inl (.inl h.symm)
          · exact .inr h
      · rw [if_neg hk]
        simp only [List.mem_cons, exists_eq_or_imp, hk, and_false, false_or]
  have h2 : ∀ (ks : List Kn) (l : List Int), i ∈ ks.foldl (putK z) l ↔ i ∈ l ∨ ∃ k ∈ ks, k.zone = z ∧ k.inn = true ∧ k.id = i := by
    intro ks
    induction ks with
    | nil => intro l; simp
    | cons k ks ih =>
      intro l
      rw [List.foldl_cons, ih]
      unfold putK
      by_cases hk : k.zone = z ∧ k.inn = true
      · rw [if_pos hk, putL_mem]
        simp only [List.mem_cons, exists_eq_or_imp, hk, true_and]
        constructor
        · rintro ((h | h) | h)
          · exact .inr (.inl h.symm)
          · exact .inl h
          · exact .inr (.inr h)
        · rintro (h | h | h)
          · exact .inl (.inr h)
          · exact .inl (.inl h.symm)
          · exact .inr h
      · rw [if_neg hk]
        simp only [List.mem_cons, exists_eq_or_imp]
        constructor
        · rintro (h | h)
          · exact .inl h
          · exact .inr (.inr h)
        · rintro (h | h | h)
          · exact .inl h
          · exact absurd ⟨h.1, h.2.1⟩ hk
          · exact .inr h
  unfold rids ridsT
  rw [h2, h1]
  simp
def kEnt (z id u : Int) : List Kn := if u = 2 then [⟨z, id, true, false⟩] else if u = 1 then [⟨z, id, false, true⟩] else []
theorem mem_kEnt {z id u : Int} {k : Kn} : k ∈ kEnt z id u ↔ (k = ⟨z, id, true, false⟩ ∧ u = 2) ∨ (k = ⟨z, id, false, true⟩ ∧ u = 1) := by
  unfold kEnt
  split
  · next h => simp [h]
  · split
    · next h => simp [h]
    · next h1 h2 => simp [h1, h2]
section
variable {far time : Nat} {zs : List Zn} {es : List KE} {ck : Nat} {ts : List Tk} {ks : List Kn}
theorem rids_same (h : KInv es ks) (hn : (es.map (·.1)).Nodup) (z : Int) : rids ks ts z = idsOf (firmE ts).1 es z := by
  refine lt_ext (rids_lt ks ts z) (idsOf_lt (firmE_ok ts) hn z) fun i => ?_
  rw [rids_mem, idsOf_mem hn, firm_get]
  constructor
  · rintro (⟨t, ht, h1, h2⟩ | ⟨k, hk, h1, h2, h3⟩)
    · left
      rw [List.find?_isSome]
      exact ⟨t, ht, by simp [h1, h2]⟩
    · right
      rcases (h.mem k).1 hk with h4 | h4
      · rw [← h1, ← h3]; exact h4.2.2
      · rw [h4.1] at h2; cases h2
  · rintro (hs | hv)
    · left
      rw [List.find?_isSome] at hs
      obtain ⟨t, ht, hp⟩ := hs
      simp only [Bool.and_eq_true, decide_eq_true_eq] at hp
      exact ⟨t, ht, hp.1, hp.2⟩
    · right
      exact ⟨⟨z, i, true, false⟩, (h.mem _).2 (.inl ⟨rfl, rfl, hv⟩), rfl, rfl, rfl⟩
theorem one_same (h : KInv es ks) (hV : VOk es) (z : Zn) (id : Int) (hid : (mget id (firmE ts).1).isSome = true ∨ val es (z.num, id) = 2) :
    rA1 far time ks ts z id = alm time z.num id (val es (z.num, id)) (isNow far z.ps (firmE ts).1 id) ∧ rK1 far ks ts z id = kEnt z.num id (newV (val es (z.num, id)) (isNow far z.ps (firmE ts).1 id)) := by
  unfold rA1 rK1
  rw [ofK_val h]
  have hv := val_or hV (z.num, id)
  obtain ⟨v, hvd⟩ : ∃ v, v = val es (z.num, id) := ⟨_, rfl⟩
  rw [← hvd] at hv hid ⊢
  have hg : mget id (firmE ts).1 = rTrk ts id := firm_get ts id
  have hnow : isNow far z.ps (firmE ts).1 id = match rTrk ts id with
    | some t => nowF far z.ps t
    | none => 0 := by
    unfold isNow; rw [hg]
    cases rTrk ts id <;> rfl
  rw [hnow]
  rw [hg] at hid
  cases ho : rTrk ts id with
  | none =>
    rw [ho] at hid
    have h2 : v = 2 := by
      rcases hid with h | h
      · cases h
      · exact h
    subst h2
    refine ⟨?_, ?_⟩
    · simp [rAl, rIn, alm, kindOf]
    · simp [rKs, rKn, rIn, kEnt, newV]
  | some t =>
    simp only [rIn, rCm]
    unfold nowF
    cases hi : insF z.ps t.xx t.yx with
    | true =>
      simp only [if_true]
      rcases hv with rfl | rfl | rfl <;> exact ⟨by simp [rAl, alm, kindOf], by simp [rKs, rKn, kEnt, newV]⟩
    | false =>
      cases hw : (whenF z.ps (t.xx, t.yx) (t.xv, t.yv) far).2 with
      | true => rcases hv with rfl | rfl | rfl <;> exact ⟨by simp [rAl, alm, kindOf], by simp [rKs, rKn, kEnt, newV]⟩
      | false => rcases hv with rfl | rfl | rfl <;> exact ⟨by simp [rAl, alm, kindOf], by simp [rKs, rKn, kEnt, newV]⟩
theorem flat_congr {β : Type} {f : Zn → List β} (hf : ∀ y z : Zn, y.num = z.num → y.ps = z.ps → f y = f z) : ∀ {zsA zs : List Zn}, zsA.map (fun z => (z.num, z.ps)) = zs.map (fun z => (z.num, z.ps)) → zsA.flatMap f = zs.flatMap f
  | [], [], _ => rfl
  | [], _ :: _, h => by cases h
  | _ :: _, [], h => by cases h
  | y :: zsA, z :: zs, h => by
    rw [List.map_cons, List.map_cons, List.cons.injEq, Prod.mk.injEq] at h
    rw [List.flatMap_cons, List.flatMap_cons, hf y z h.1.1 h.1.2, flat_congr hf h.2]
theorem watch_same {zsA : List Zn} (hmap : zsA.map (fun z => (z.num, z.ps)) = zs.map (fun z => (z.num, z.ps))) (h : KInv es ks) (hn : (zs.map (·.num)).Nodup) (hK : KOk es ck) (hV : VOk es) (hZ : ∀ x ∈ es, ∃ z ∈ zs, z.num = x.1.1) :
    rTold far time zsA ks ts = (watchF far time zs es ck ts).told ∧ KInv (watchF far time zs es ck ts).es (rKnown far zsA ks ts) := by
  obtain ⟨a1, a2, a3, a4, a5⟩ := watch_closed far time zs es ck ts hn hK hV hZ
  have e1 : rTold far time zsA ks ts = rTold far time zs ks ts := flat_congr (fun y z h1 h2 => by unfold rA1; rw [h1, h2]) hmap
  have e2 : rKnown far zsA ks ts = rKnown far zs ks ts := flat_congr (fun y z h1 h2 => by unfold rK1; rw [h1, h2]) hmap
  have hk2 : rKnown far zs ks ts = zs.flatMap fun z => (idsOf (firmE ts).1 es z.num).flatMap fun id => kEnt z.num id (newV (val es (z.num, id)) (isNow far z.ps (firmE ts).1 id)) := by
    unfold rKnown
    refine flatMap_congr' fun z _ => ?_
    rw [rids_same h hK.keys]
    exact flatMap_congr' fun id hid => (one_same (far := far) (time := time) h hV z id ((idsOf_mem hK.keys _ _).1 hid)).2
  refine ⟨?_, ?_⟩
  · rw [e1, a1]
    unfold rTold
    refine flatMap_congr' fun z _ => ?_
    rw [rids_same h hK.keys]
    exact flatMap_congr' fun id hid => (one_same (far := far) (time := time) h hV z id ((idsOf_mem hK.keys _ _).1 hid)).1
  · rw [e2, hk2]
    refine ⟨?_, fun k => ?_⟩
    · rw [List.pairwise_flatMap]
      refine ⟨fun z _ => ?_, (List.pairwise_map.1 hn).imp fun {y z} hyz a ha b hb hab => ?_⟩
      · rw [List.pairwise_flatMap]
        refine ⟨fun id _ => by unfold kEnt; split <;> (try split) <;> simp, (idsOf_lt (firmE_ok ts) hK.keys z.num).imp fun {i j} hij a ha b hb _ => ?_⟩
        have h1 : a.id = i := by rcases mem_kEnt.1 ha with ⟨rfl, _⟩ | ⟨rfl, _⟩ <;> rfl
        have h2 : b.id = j := by rcases mem_kEnt.1 hb with ⟨rfl, _⟩ | ⟨rfl, _⟩ <;> rfl
        omega
      · obtain ⟨i, _, ha⟩ := List.mem_flatMap.1 ha
        obtain ⟨j, _, hb⟩ := List.mem_flatMap.1 hb
        have h1 : a.zone = y.num := by rcases mem_kEnt.1 ha with ⟨rfl, _⟩ | ⟨rfl, _⟩ <;> rfl
        have h2 : b.zone = z.num := by rcases mem_kEnt.1 hb with ⟨rfl, _⟩ | ⟨rfl, _⟩ <;> rfl
        exact absurd (h1.symm.trans (hab.trans h2)) hyz
    · rw [List.mem_flatMap]
      constructor
      · rintro ⟨z, hz, hk⟩
        obtain ⟨id, hid, hk⟩ := List.mem_flatMap.1 hk
        have hv := a2 z hz id
        rcases mem_kEnt.1 hk with ⟨rfl, hu⟩ | ⟨rfl, hu⟩
        · exact .inl ⟨rfl, rfl, hv.trans hu⟩
        · exact .inr ⟨rfl, rfl, hv.trans hu⟩
      · intro hk
        have hne : val (watchF far time zs es ck ts).es (k.zone, k.id) ≠ 0 := by rcases hk with h1 | h1 <;> omega
        obtain ⟨x, hx, hxk, _⟩ := val_ex hne
        obtain ⟨z, hz, hzn⟩ := a5 x hx
        have hzk : z.num = k.zone := by rw [hzn, hxk]
        have hv := a2 z hz k.id
        rw [hzk] at hv
        refine ⟨z, hz, List.mem_flatMap.2 ⟨k.id, ?_, ?_⟩⟩
        · rw [idsOf_mem hK.keys]
          apply Classical.byContradiction
          intro hno
          rw [not_or] at hno
          have h0 : mget k.id (firmE ts).1 = none := by
            cases hg : mget k.id (firmE ts).1 with
            | none => rfl
            | some t => rw [hg] at hno; exact absurd rfl hno.1
          have hi0 : isNow far z.ps (firmE ts).1 k.id = 0 := by unfold isNow; rw [h0]
          rw [hi0] at hv
          apply hne
          rw [hv]
          unfold newV; split <;> rfl
        · rw [mem_kEnt, hzk, ← hv]
          obtain ⟨a, b, c, d⟩ := k
          rcases hk with ⟨h1, h2, h3⟩ | ⟨h1, h2, h3⟩
          · simp only at h1 h2 h3; subst h1 h2; exact .inl ⟨rfl, h3⟩
          · simp only at h1 h2 h3; subst h1 h2; exact .inr ⟨rfl, h3⟩
end
end Go.Proofs.Ytoiobncojfeoiaa
