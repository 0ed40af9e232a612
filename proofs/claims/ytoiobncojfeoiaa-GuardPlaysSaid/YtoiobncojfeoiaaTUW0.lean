/-
  A part of the proof: what functions that the statement reaches do, or a plain law on what they do. Each theorem holds under its own premises alone.
-/
import Derived.Test.YtoiobncojfeoiaaTUK
import Derived.Test.YtoiobncojfeoiaaTUP0
namespace Go.Proofs.Ytoiobncojfeoiaa
open Go Go.Lk
/-! ### Watch in closed form -/
theorem mget_mput {κ ν : Type} [DecidableEq κ] (k k' : κ) (v : ν) (ck : Nat) : ∀ l : List (κ × ν × Nat), mget k' (mput k v ck l) = if k' = k then some v else mget k' l
  | [] => by
    by_cases h : k' = k
    · subst h; simp [mput, mget]
    · have h' : ¬ k = k' := fun e => h e.symm
      simp [mput, mget, h, h']
  | x :: l => by
    have ih := mget_mput k k' v ck l
    by_cases hx : x.1 = k
    · by_cases h : k' = k
      · subst h; simp [mput, mget, hx]
      · have h' : ¬ k = k' := fun e => h e.symm
        simp [mput, mget, hx, h, h']
    · by_cases h : x.1 = k'
      · have h' : ¬ k' = k := fun e => hx (h.trans e)
        simp [mput, mget, hx, h, h']
      · simp [mput, mget, hx, h, ih]
theorem mget_notin {κ ν : Type} [DecidableEq κ] {k : κ} : ∀ {l : List (κ × ν × Nat)}, k ∉ l.map (·.1) → mget k l = none
  | [], _ => rfl
  | x :: l, h => by
    rw [List.map_cons, List.mem_cons, not_or] at h
    unfold mget
    rw [if_neg (fun e => h.1 e.symm)]
    exact mget_notin h.2
theorem mget_some {κ ν : Type} [DecidableEq κ] {k : κ} {v : ν} : ∀ {l : List (κ × ν × Nat)}, mget k l = some v → ∃ x ∈ l, x.1 = k ∧ x.2.1 = v
  | [], h => by cases h
  | x :: l, h => by
    unfold mget at h
    split at h
    · next hx => injection h with h; exact ⟨x, List.mem_cons_self .., hx, h⟩
    · obtain ⟨y, hy, h1, h2⟩ := mget_some h
      exact ⟨y, List.mem_cons_of_mem _ hy, h1, h2⟩
theorem mget_mem {κ ν : Type} [DecidableEq κ] : ∀ {l : List (κ × ν × Nat)}, (l.map (·.1)).Nodup → ∀ {x}, x ∈ l → mget x.1 l = some x.2.1
  | [], _, _, h => by cases h
  | y :: l, hn, x, h => by
    rw [List.map_cons, List.nodup_cons] at hn
    unfold mget
    rcases List.mem_cons.1 h with rfl | h
    · rw [if_pos rfl]
    · rw [if_neg (fun e => hn.1 (List.mem_map.2 ⟨x, h, e.symm⟩))]
      exact mget_mem hn.2 h
theorem mget_filter {κ ν : Type} [DecidableEq κ] {l : List (κ × ν × Nat)} (hn : (l.map (·.1)).Nodup) (q : κ × ν × Nat → Bool) (k : κ) {x : κ × ν × Nat} (hx : x ∈ l) (hk : x.1 = k) : mget k (l.filter q) = if q x = true then some x.2.1 else none := by
  have hn2 : ((l.filter q).map (·.1)).Nodup := (List.filter_sublist.map _).nodup hn
  split
  · next h =>
    rw [← hk]; exact mget_mem hn2 (List.mem_filter.2 ⟨hx, h⟩)
  · next h =>
    refine mget_notin fun hm => ?_
    obtain ⟨y, hy, hyk⟩ := List.mem_map.1 hm
    have hy' := List.mem_filter.1 hy
    have h1 := mget_mem hn hx
    have : y = x := by
      obtain ⟨i, hi, rfl⟩ := List.getElem_of_mem hy'.1
      obtain ⟨j, hj, rfl⟩ := List.getElem_of_mem hx
      have : i = j := nodup_at hn (i := i) (j := j) (x := l[i].1) (by simp [hi]) (by simp [hj]; rw [hk]; exact hyk.symm)
      subst this; rfl
    rw [this] at hy'
    exact h hy'.2
theorem mget_mdel {κ ν : Type} [DecidableEq κ] (k k' : κ) {l : List (κ × ν × Nat)} (hn : (l.map (·.1)).Nodup) : mget k' (mdel k l) = if k' = k then none else mget k' l := by
  rw [mdel_filter k hn]
  cases hg : mget k' l with
  | none =>
    have h2 : mget k' (l.filter fun y => !decide (y.1 = k)) = none := mget_notin fun hm => by
      obtain ⟨y, hy, rfl⟩ := List.mem_map.1 hm
      rw [mget_mem hn (List.mem_filter.1 hy).1] at hg; cases hg
    rw [h2]; split <;> rfl
  | some v =>
    obtain ⟨x, hx, hxk, hv⟩ := mget_some hg
    rw [mget_filter hn _ k' hx hxk, hxk, hv]
    by_cases h : k' = k <;> simp [h]
theorem mem_mput {κ ν : Type} [DecidableEq κ] {k : κ} {v : ν} {ck : Nat} : ∀ {l : List (κ × ν × Nat)} {x}, x ∈ mput k v ck l → x ∈ l ∨ (x.1 = k ∧ x.2.1 = v)
  | [], x, h => by simp [mput] at h; right; rw [h]; exact ⟨rfl, rfl⟩
  | y :: l, x, h => by
    unfold mput at h
    split at h
    · next hy =>
      rcases List.mem_cons.1 h with rfl | h
      · exact .inr ⟨by first | exact hy | rfl, rfl⟩
      · exact .inl (List.mem_cons_of_mem _ h)
    · rcases List.mem_cons.1 h with rfl | h
      · exact .inl (List.mem_cons_self ..)
      · rcases mem_mput h with h | h
        · exact .inl (List.mem_cons_of_mem _ h)
        · exact .inr h
/-- what a map tells of a key -/
def val (es : List KE) (p : Int × Int) : Int := (mget p es).getD 0
def VOk (es : List KE) : Prop := ∀ x ∈ es, x.2.1 = 1 ∨ x.2.1 = 2
def newV (v n : Int) : Int := if v = 2 ∧ n ≠ 2 then 0 else n
def alm (time : Nat) (z id v n : Int) : List Al := match kindOf v n with
  | some k => [⟨k, z, id, time⟩]
  | none => []
theorem val_or {es : List KE} (h : VOk es) (p : Int × Int) : val es p = 0 ∨ val es p = 1 ∨ val es p = 2 := by
  unfold val
  cases hg : mget p es with
  | none => exact .inl rfl
  | some v =>
    obtain ⟨x, hx, _, rfl⟩ := mget_some hg
    exact .inr (h x hx)
theorem val_ex {es : List KE} {p : Int × Int} (h : val es p ≠ 0) : ∃ x ∈ es, x.1 = p ∧ x.2.1 = val es p := by
  unfold val at h ⊢
  cases hg : mget p es with
  | none => rw [hg] at h; exact absurd rfl h
  | some v => exact mget_some hg
theorem val_of {es : List KE} (hn : (es.map (·.1)).Nodup) {x : KE} (hx : x ∈ es) : val es x.1 = x.2.1 := by unfold val; rw [mget_mem hn hx]; rfl
theorem nowF_or (far : Nat) (ps : List Pt) (t : Tk) : nowF far ps t = 0 ∨ nowF far ps t = 1 ∨ nowF far ps t = 2 := by
  unfold nowF; split
  · exact .inr (.inr rfl)
  · split
    · exact .inr (.inl rfl)
    · exact .inl rfl
theorem isNow_or (far : Nat) (ps : List Pt) (fe : List FE) (id : Int) : isNow far ps fe id = 0 ∨ isNow far ps fe id = 1 ∨ isNow far ps fe id = 2 := by
  unfold isNow; split
  · exact nowF_or ..
  · exact .inl rfl
structure SOk (s : WS) : Prop where
  K : KOk s.es s.ck
  V : VOk s.es
theorem idStep_es (far time : Nat) (fe : List FE) (z : Zn) (s : WS) (id : Int) : (idStep far time fe z s id).es = if newV (val s.es (z.num, id)) (isNow far z.ps fe id) = 0 then mdel (z.num, id) (mput (z.num, id) (newV (val s.es (z.num, id)) (isNow far z.ps fe id)) s.ck s.es) else mput (z.num, id) (newV (val s.es (z.num, id)) (isNow far z.ps fe id)) s.ck s.es := rfl
theorem idStep_ck (far time : Nat) (fe : List FE) (z : Zn) (s : WS) (id : Int) : (idStep far time fe z s id).ck = mclk (z.num, id) s.ck s.es := rfl
theorem newV_or {v n : Int} (h : n = 0 ∨ n = 1 ∨ n = 2) (h0 : newV v n ≠ 0) : newV v n = 1 ∨ newV v n = 2 := by
  unfold newV at h0 ⊢
  split at h0
  · exact absurd rfl h0
  · next hc => rw [if_neg hc]; omega
theorem idStep_ok (far time : Nat) (fe : List FE) (z : Zn) {s : WS} (h : SOk s) (id : Int) : SOk (idStep far time fe z s id) := by
  refine ⟨?_, ?_⟩
  · rw [idStep_es, idStep_ck]
    split
    · exact mdel_ok (mput_ok h.K _ _) _
    · exact mput_ok h.K _ _
  · rw [idStep_es]
    split
    · intro x hx
      rw [mdel_mput, mdel_filter _ h.K.keys] at hx
      exact h.V x (List.mem_filter.1 hx).1
    · next h0 =>
      intro x hx
      rcases mem_mput hx with hx | ⟨_, hx⟩
      · exact h.V x hx
      · rw [hx]; exact newV_or (isNow_or far z.ps fe id) h0
theorem idStep_val (far time : Nat) (fe : List FE) (z : Zn) {s : WS} (h : SOk s) (id : Int) (p : Int × Int) : val (idStep far time fe z s id).es p = if p = (z.num, id) then newV (val s.es p) (isNow far z.ps fe id) else val s.es p := by
  rw [idStep_es]
  split
  · next h0 =>
    show (mget p _).getD 0 = _
    rw [mdel_mput, mget_mdel _ _ h.K.keys]
    split
    · next hp => rw [hp, h0]; rfl
    · rfl
  · show (mget p _).getD 0 = _
    rw [mget_mput]
    split
    · next hp => rw [hp]; rfl
    · rfl
theorem idStep_told (far time : Nat) (fe : List FE) (z : Zn) (s : WS) (id : Int) : (idStep far time fe z s id).told = s.told ++ alm time z.num id (val s.es (z.num, id)) (isNow far z.ps fe id) := rfl
theorem idStep_key (far time : Nat) (fe : List FE) (z : Zn) {s : WS} (h : SOk s) (id : Int) {x : KE} (hx : x ∈ (idStep far time fe z s id).es) : x.1.1 = z.num ∨ ∃ y ∈ s.es, y.1 = x.1 := by
  rw [idStep_es] at hx
  split at hx
  · next h0 =>
    rw [mdel_mput, mdel_filter _ h.K.keys] at hx
    exact .inr ⟨x, (List.mem_filter.1 hx).1, rfl⟩
  · rcases mem_mput hx with hx | ⟨hx, _⟩
    · exact .inr ⟨x, hx, rfl⟩
    · left; rw [hx]
theorem flatMap_congr' {α β : Type} {l : List α} {f g : α → List β} (h : ∀ x ∈ l, f x = g x) : l.flatMap f = l.flatMap g := by
  induction l with
  | nil => rfl
  | cons x l ih => rw [List.flatMap_cons, List.flatMap_cons, h x (List.mem_cons_self ..), ih fun y hy => h y (List.mem_cons_of_mem _ hy)]
theorem ids_fold (far time : Nat) (fe : List FE) (z : Zn) : ∀ (ids : List Int) (s : WS), ids.Nodup → SOk s →
    SOk (ids.foldl (idStep far time fe z) s) ∧
    (∀ p, val (ids.foldl (idStep far time fe z) s).es p = if p.1 = z.num ∧ p.2 ∈ ids then newV (val s.es p) (isNow far z.ps fe p.2) else val s.es p) ∧
    (ids.foldl (idStep far time fe z) s).told = s.told ++ ids.flatMap (fun id => alm time z.num id (val s.es (z.num, id)) (isNow far z.ps fe id)) ∧
    ∀ x ∈ (ids.foldl (idStep far time fe z) s).es, x.1.1 = z.num ∨ ∃ y ∈ s.es, y.1 = x.1
  | [], s, _, h => ⟨h, fun p => (by simp), (by simp), fun x hx => .inr ⟨x, hx, rfl⟩⟩
  | id :: ids, s, hn, h => by
    rw [List.nodup_cons] at hn
    obtain ⟨h1, h2, h3, h4⟩ := ids_fold far time fe z ids (idStep far time fe z s id) hn.2 (idStep_ok far time fe z h id)
    rw [List.foldl_cons]
    refine ⟨h1, fun p => ?_, ?_, fun x hx => ?_⟩
    · rw [h2, idStep_val far time fe z h]
      by_cases hp : p = (z.num, id)
      · subst hp
        rw [if_neg (fun hh => hn.1 hh.2), if_pos rfl, if_pos ⟨rfl, List.mem_cons_self ..⟩]
      · rw [if_neg hp]
        by_cases hq : p.1 = z.num
        · have hq2 : p.2 ≠ id := fun e => hp (Prod.ext hq e)
          simp only [hq, List.mem_cons, hq2, true_and, false_or]
        · simp only [hq, false_and, if_false]
    · rw [h3, idStep_told, List.flatMap_cons, List.append_assoc]
      congr 2
      refine flatMap_congr' fun i hi => ?_
      rw [idStep_val far time fe z h, if_neg (fun e => hn.1 (by rw [← (Prod.mk.inj e).2]; exact hi))]
    · rcases h4 x hx with h | ⟨y, hy, he⟩
      · exact .inl h
      · rcases idStep_key far time fe z h id hy with h5 | ⟨u, hu, he2⟩
        · left; rw [← he]; exact h5
        · exact .inr ⟨u, hu, he2.trans he⟩
theorem lt_ext {l m : List Int} (hl : l.Pairwise (· < ·)) (hm : m.Pairwise (· < ·)) (h : ∀ x, x ∈ l ↔ x ∈ m) : l = m := by
  have nl : l.Nodup := hl.imp fun h => by omega
  have nm : m.Nodup := hm.imp fun h => by omega
  exact List.Perm.eq_of_pairwise (fun a b _ _ h1 h2 => Int.le_antisymm h1 h2) (hl.imp Int.le_of_lt) (hm.imp Int.le_of_lt) (perm_nodup nl nm h)
theorem mget_isSome {κ ν : Type} [DecidableEq κ] {k : κ} {l : List (κ × ν × Nat)} : (mget k l).isSome = true ↔ k ∈ l.map (·.1) := by
  constructor
  · intro h
    obtain ⟨v, hv⟩ := Option.isSome_iff_exists.1 h
    obtain ⟨x, hx, hk, _⟩ := mget_some hv
    exact List.mem_map.2 ⟨x, hx, hk⟩
  · intro h
    cases hg : mget k l with
    | some v => rfl
    | none =>
      obtain ⟨x, hx, hk⟩ := List.mem_map.1 h
      exact absurd hk (mget_none hg x hx)
theorem idsOf_mem {fe : List FE} {es : List KE} (hn : (es.map (·.1)).Nodup) (z id : Int) : id ∈ idsOf fe es z ↔ (mget id fe).isSome = true ∨ val es (z, id) = 2 := by
  unfold idsOf
  rw [(isort_perm _).mem_iff, List.mem_append, ← mget_isSome]
  constructor
  · rintro (h | h)
    · exact .inl h
    · obtain ⟨x, hx, rfl⟩ := List.mem_map.1 h
      obtain ⟨hx, hg⟩ := List.mem_filter.1 hx
      unfold goneB at hg
      simp only [Bool.and_eq_true, decide_eq_true_eq] at hg
      right
      rw [← hg.1.1]
      exact (val_of hn hx).trans hg.1.2
  · rintro (h | h)
    · exact .inl h
    · cases hg : mget id fe with
      | some t => exact .inl rfl
      | none =>
        right
        obtain ⟨x, hx, hk, hv⟩ := val_ex (es := es) (p := (z, id)) (by rw [h]; decide)
        refine List.mem_map.2 ⟨x, List.mem_filter.2 ⟨hx, ?_⟩, by rw [hk]⟩
        unfold goneB
        rw [hk, hv, h, hg]; simp
theorem idsOf_lt {fe : List FE} {fk : Nat} (hf : MOk fe fk) {es : List KE} (hn : (es.map (·.1)).Nodup) (z : Int) : (idsOf fe es z).Pairwise (· < ·) := by
  have hd : (fe.map (·.1) ++ (es.filter (goneB fe z)).map (·.1.2)).Nodup := by
    rw [List.nodup_append]
    refine ⟨hf.keys, ?_, ?_⟩
    · have : (es.filter (goneB fe z)).Pairwise fun x y => x.1 ≠ y.1 := by
        have h1 : (es.filter (goneB fe z)).map (·.1) |>.Nodup := (List.filter_sublist.map _).nodup hn
        exact List.pairwise_map.1 h1
      refine List.pairwise_map.2 ?_
      refine List.Pairwise.imp_of_mem ?_ this
      intro x y hx hy hxy hz
      have h1 := (List.mem_filter.1 hx).2
      have h2 := (List.mem_filter.1 hy).2
      unfold goneB at h1 h2
      simp only [Bool.and_eq_true, decide_eq_true_eq] at h1 h2
      exact hxy (Prod.ext (h1.1.1.trans h2.1.1.symm) hz)
    · intro a ha b hb hab
      obtain ⟨x, hx, rfl⟩ := List.mem_map.1 hb
      have h1 := (List.mem_filter.1 hx).2
      unfold goneB at h1
      simp only [Bool.and_eq_true] at h1
      rw [hab] at ha
      have := mget_isSome.2 ha
      cases hg : mget x.1.2 fe with
      | none => rw [hg] at this; cases this
      | some t => rw [hg] at h1; cases h1.2
  have h1 := isort_sorted (fe.map (·.1) ++ (es.filter (goneB fe z)).map (·.1.2))
  have h2 : (isort (fe.map (·.1) ++ (es.filter (goneB fe z)).map (·.1.2))).Nodup := (isort_perm _).nodup_iff.2 hd
  exact (h1.and h2).imp fun ⟨a, b⟩ => by omega
theorem idsOf_congr {fe : List FE} {fk : Nat} (hf : MOk fe fk) {es es' : List KE} (hn : (es.map (·.1)).Nodup) (hn' : (es'.map (·.1)).Nodup) (z : Int) (h : ∀ id, val es (z, id) = 2 ↔ val es' (z, id) = 2) : idsOf fe es z = idsOf fe es' z :=
  lt_ext (idsOf_lt hf hn z) (idsOf_lt hf hn' z) fun id => by rw [idsOf_mem hn, idsOf_mem hn', h]
theorem zs_fold (far time : Nat) (fe : List FE) (fk : Nat) (hf : MOk fe fk) : ∀ (zs : List Zn) (s : WS), (zs.map (·.num)).Nodup → SOk s →
    SOk (zs.foldl (zoneStep far time fe) s) ∧
    (∀ p, (∀ z ∈ zs, z.num ≠ p.1) → val (zs.foldl (zoneStep far time fe) s).es p = val s.es p) ∧
    (∀ z ∈ zs, ∀ id, val (zs.foldl (zoneStep far time fe) s).es (z.num, id) = if id ∈ idsOf fe s.es z.num then newV (val s.es (z.num, id)) (isNow far z.ps fe id) else val s.es (z.num, id)) ∧
    (zs.foldl (zoneStep far time fe) s).told = s.told ++ zs.flatMap (fun z => (idsOf fe s.es z.num).flatMap fun id => alm time z.num id (val s.es (z.num, id)) (isNow far z.ps fe id)) ∧
    ∀ x ∈ (zs.foldl (zoneStep far time fe) s).es, (∃ z ∈ zs, z.num = x.1.1) ∨ ∃ y ∈ s.es, y.1 = x.1
  | [], s, _, h => ⟨h, fun p _ => rfl, fun z hz => (by cases hz), (by simp), fun x hx => .inr ⟨x, hx, rfl⟩⟩
  | z :: zs, s, hn, h => by
    rw [List.map_cons, List.nodup_cons] at hn
    have hz : ∀ y ∈ zs, y.num ≠ z.num := fun y hy e => hn.1 (List.mem_map.2 ⟨y, hy, e⟩)
    obtain ⟨a1, a2, a3, a4⟩ := ids_fold far time fe z (idsOf fe s.es z.num) s ((idsOf_lt hf h.K.keys z.num).imp fun h => by omega) h
    obtain ⟨s1, hs1⟩ : ∃ s1, s1 = zoneStep far time fe s z := ⟨_, rfl⟩
    have e1 : (idsOf fe s.es z.num).foldl (idStep far time fe z) s = s1 := hs1.symm
    rw [e1] at a1 a2 a3 a4
    obtain ⟨b1, b2, b3, b4, b5⟩ := zs_fold far time fe fk hf zs s1 hn.2 a1
    rw [List.foldl_cons, ← hs1]
    have hval : ∀ y ∈ zs, ∀ id, val s1.es (y.num, id) = val s.es (y.num, id) := fun y hy id => by
      rw [a2, if_neg (fun hh => hz y hy hh.1)]
    have hids : ∀ y ∈ zs, idsOf fe s1.es y.num = idsOf fe s.es y.num := fun y hy => idsOf_congr hf a1.K.keys h.K.keys _ fun id => by rw [hval y hy]
    refine ⟨b1, fun p hp => ?_, fun y hy id => ?_, ?_, fun x hx => ?_⟩
    · rw [b2 p fun y hy => hp y (List.mem_cons_of_mem _ hy), a2, if_neg (fun hh => hp z (List.mem_cons_self ..) hh.1.symm)]
    · rcases List.mem_cons.1 hy with rfl | hy
      · rw [b2 _ fun y hy => hz y hy, a2]
        simp only [true_and]
      · rw [b3 y hy, hval y hy, hids y hy]
    · rw [b4, a3, List.flatMap_cons, List.append_assoc]
      congr 2
      refine flatMap_congr' fun y hy => ?_
      rw [hids y hy]
      refine flatMap_congr' fun i _ => ?_
      rw [hval y hy]
    · rcases b5 x hx with ⟨y, hy, he⟩ | ⟨y, hy, he⟩
      · exact .inl ⟨y, List.mem_cons_of_mem _ hy, he⟩
      · rcases a4 y hy with h5 | ⟨u, hu, he2⟩
        · exact .inl ⟨z, List.mem_cons_self .., by rw [← he]; exact h5.symm⟩
        · exact .inr ⟨u, hu, he2.trans he⟩
theorem val_near {fe : List FE} {es : List KE} (hn : (es.map (·.1)).Nodup) (p : Int × Int) : val (nearE fe es) p = if val es p = 1 ∧ (mget p.2 fe).isNone = true then 0 else val es p := by
  unfold nearE
  cases hg : mget p es with
  | none =>
    have h2 : mget p (es.filter fun x => !awayB fe x) = none := mget_notin fun hm => by
      obtain ⟨y, hy, rfl⟩ := List.mem_map.1 hm
      rw [mget_mem hn (List.mem_filter.1 hy).1] at hg; cases hg
    unfold val
    rw [h2, hg]
    simp
  | some v =>
    obtain ⟨x, hx, hk, hv⟩ := mget_some hg
    unfold val
    rw [mget_filter hn _ p hx hk, hg]
    unfold awayB
    rw [hk, hv]
    cases h1 : (mget p.2 fe).isNone <;> by_cases h2 : v = 1 <;> simp [h2]
theorem watch_closed (far time : Nat) (zs : List Zn) (es : List KE) (ck : Nat) (ts : List Tk) (hn : (zs.map (·.num)).Nodup) (hK : KOk es ck) (hV : VOk es) (hZ : ∀ x ∈ es, ∃ z ∈ zs, z.num = x.1.1) :
    (watchF far time zs es ck ts).told = zs.flatMap (fun z => (idsOf (firmE ts).1 es z.num).flatMap fun id => alm time z.num id (val es (z.num, id)) (isNow far z.ps (firmE ts).1 id)) ∧
    (∀ z ∈ zs, ∀ id, val (watchF far time zs es ck ts).es (z.num, id) = newV (val es (z.num, id)) (isNow far z.ps (firmE ts).1 id)) ∧
    KOk (watchF far time zs es ck ts).es (watchF far time zs es ck ts).ck ∧ VOk (watchF far time zs es ck ts).es ∧ ∀ x ∈ (watchF far time zs es ck ts).es, ∃ z ∈ zs, z.num = x.1.1 := by
  have hf := firmE_ok ts
  obtain ⟨fe, hfe⟩ : ∃ fe, fe = (firmE ts).1 := ⟨_, rfl⟩
  unfold watchF
  rw [← hfe] at hf ⊢
  have hKn : KOk (nearE fe es) ck := hK.sub _
  have hVn : VOk (nearE fe es) := fun x hx => hV x (List.mem_filter.1 hx).1
  obtain ⟨b1, _, b3, b4, b5⟩ := zs_fold far time fe _ hf zs ⟨[], nearE fe es, ck⟩ hn ⟨hKn, hVn⟩
  have hids : ∀ z, idsOf fe (nearE fe es) z = idsOf fe es z := fun z => idsOf_congr hf hKn.keys hK.keys _ fun id => by
    rw [val_near hK.keys]
    split
    · next h => rw [h.1]; decide
    · rfl
  have hin : ∀ z id, id ∈ idsOf fe es z → val (nearE fe es) (z, id) = val es (z, id) := fun z id hi => by
    rw [val_near hK.keys]
    rw [idsOf_mem hK.keys] at hi
    rw [if_neg]
    rintro ⟨h1, h2⟩
    rcases hi with hi | hi
    · rw [Option.isNone_iff_eq_none.1 h2] at hi; cases hi
    · rw [hi] at h1; cases h1
  refine ⟨?_, fun z hz id => ?_, b1.K, b1.V, fun x hx => ?_⟩
  · rw [b4, List.nil_append]
    refine flatMap_congr' fun z _ => ?_
    rw [hids]
    exact flatMap_congr' fun id hid => by rw [hin _ _ hid]
  · rw [b3 z hz, hids]
    split
    · next hi => rw [hin _ _ hi]
    · next hi =>
      rw [idsOf_mem hK.keys, not_or] at hi
      have h0 : mget id fe = none := by
        cases hg : mget id fe with
        | none => rfl
        | some t => rw [hg] at hi; exact absurd rfl hi.1
      have hnow : isNow far z.ps fe id = 0 := by unfold isNow; rw [h0]
      rw [val_near hK.keys, hnow]
      have := val_or hV (z.num, id)
      simp only [h0, Option.isNone_none, and_true]
      rw [show newV (val es (z.num, id)) 0 = 0 by unfold newV; split <;> rfl]
      split <;> omega
  · rcases b5 x hx with h | ⟨y, hy, he⟩
    · exact h
    · rw [← he]; exact hZ y (List.mem_filter.1 hy).1
end Go.Proofs.Ytoiobncojfeoiaa
