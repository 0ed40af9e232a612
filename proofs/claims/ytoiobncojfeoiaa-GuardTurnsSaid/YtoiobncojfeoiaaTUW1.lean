/-
  A part of the proof: what functions that the statement reaches do, or a plain law on what they do. Each theorem holds under its own premises alone.
-/
import Derived.Test.YtoiobncojfeoiaaTUW0
namespace Go.Proofs.Ytoiobncojfeoiaa
open Go Go.Lk
/-! ### What is told, and who is in -/
def keyA (x : Al) : Int × Int := (x.zone, x.track)
/-- what is now of a zone and an Id -/
def nowZ (far : Nat) (fe : List FE) (zs : List Zn) (p : Int × Int) : Int := match zs.find? (fun z => decide (z.num = p.1)) with
  | some z => isNow far z.ps fe p.2
  | none => 0
theorem nowZ_at {far : Nat} {fe : List FE} {zs : List Zn} (hn : (zs.map (·.num)).Nodup) {z : Zn} (hz : z ∈ zs) (id : Int) : nowZ far fe zs (z.num, id) = isNow far z.ps fe id := by
  unfold nowZ
  have h : zs.find? (fun y => decide (y.num = z.num)) = some z := by
    induction zs with
    | nil => cases hz
    | cons y zs ih =>
      rw [List.map_cons, List.nodup_cons] at hn
      rcases List.mem_cons.1 hz with rfl | hz
      · rw [List.find?_cons_of_pos (by simp)]
      · rw [List.find?_cons_of_neg (by simp; intro e; exact hn.1 (List.mem_map.2 ⟨z, hz, e.symm⟩))]
        exact ih hn.2 hz
  rw [h]
theorem nowZ_none {far : Nat} {fe : List FE} {zs : List Zn} {p : Int × Int} (h : ∀ z ∈ zs, z.num ≠ p.1) : nowZ far fe zs p = 0 := by
  unfold nowZ
  rw [List.find?_eq_none.2 (fun z hz => by simp; exact h z hz)]
theorem kind_some {v n k : Int} (h : kindOf v n = some k) : (k = 0 ∧ v ≠ 2 ∧ n = 2) ∨ (k = 1 ∧ v = 2 ∧ n ≠ 2) ∨ (k = 2 ∧ v = 0 ∧ n = 1) := by
  unfold kindOf at h
  split at h
  · next h1 => injection h with h; omega
  · split at h
    · next h1 => injection h with h; omega
    · split at h
      · next h1 => injection h with h; omega
      · cases h
theorem kind_none {v n : Int} (h : kindOf v n = none) : v = 2 ↔ n = 2 := by
  unfold kindOf at h
  split at h
  · cases h
  · next h1 =>
    split at h
    · cases h
    · next h2 =>
      constructor
      · intro h3
        apply Classical.byContradiction
        intro h4; exact h2 ⟨h3, h4⟩
      · intro h3
        apply Classical.byContradiction
        intro h4; exact h1 ⟨h4, h3⟩
theorem kind_same (n : Int) : kindOf n n = none := by
  unfold kindOf
  rw [if_neg (fun h => h.1 h.2), if_neg (fun h => h.2 h.1), if_neg (by omega)]
theorem mem_alm {time : Nat} {z id v n : Int} {x : Al} : x ∈ alm time z id v n ↔ kindOf v n = some x.kind ∧ x.zone = z ∧ x.track = id ∧ x.time = time := by
  unfold alm
  cases h : kindOf v n with
  | none => simp
  | some k =>
    simp only [List.mem_singleton]
    constructor
    · rintro rfl; exact ⟨rfl, rfl, rfl, rfl⟩
    · rintro ⟨h1, h2, h3, h4⟩
      obtain ⟨a, b, c, d⟩ := x
      simp only at h1 h2 h3 h4
      rw [← Option.some.inj h1, h2, h3, h4]
/-- a list of alarms, by what was and what is -/
structure TOk (T : List Al) (v n : Int × Int → Int) : Prop where
  keys : (T.map keyA).Nodup
  kind : ∀ x ∈ T, kindOf (v (keyA x)) (n (keyA x)) = some x.kind
  all : ∀ p, kindOf (v p) (n p) ≠ none → ∃ x ∈ T, keyA x = p
theorem nodup_of_pair {T : List Al} (h : T.Pairwise fun a b => keyA a ≠ keyA b) : (T.map keyA).Nodup := List.pairwise_map.2 h
section
variable {far time : Nat} {zs : List Zn} {es : List KE} {ck : Nat} {ts : List Tk}
theorem told_ok (hn : (zs.map (·.num)).Nodup) (hK : KOk es ck) (hV : VOk es) (hZ : ∀ x ∈ es, ∃ z ∈ zs, z.num = x.1.1) : TOk (watchF far time zs es ck ts).told (val es) (nowZ far (firmE ts).1 zs) := by
  obtain ⟨hT, -⟩ := watch_closed far time zs es ck ts hn hK hV hZ
  rw [hT]
  refine ⟨nodup_of_pair ?_, fun x hx => ?_, fun p hp => ?_⟩
  · rw [List.pairwise_flatMap]
    refine ⟨fun z _ => ?_, ?_⟩
    · rw [List.pairwise_flatMap]
      refine ⟨fun id _ => ?_, ?_⟩
      · unfold alm; split <;> simp
      · refine (idsOf_lt (firmE_ok ts) hK.keys z.num).imp fun {a b} hab x hx y hy => ?_
        intro e
        have e2 := congrArg Prod.snd e
        simp only [keyA] at e2
        rw [(mem_alm.1 hx).2.2.1, (mem_alm.1 hy).2.2.1] at e2
        omega
    · refine (List.pairwise_map.1 hn).imp fun {a b} hab x hx y hy => ?_
      obtain ⟨i, _, hx⟩ := List.mem_flatMap.1 hx
      obtain ⟨j, _, hy⟩ := List.mem_flatMap.1 hy
      intro e
      have e2 := congrArg Prod.fst e
      simp only [keyA] at e2
      rw [(mem_alm.1 hx).2.1, (mem_alm.1 hy).2.1] at e2
      exact hab e2
  · obtain ⟨z, hz, hx⟩ := List.mem_flatMap.1 hx
    obtain ⟨id, hid, hx⟩ := List.mem_flatMap.1 hx
    obtain ⟨h1, h2, h3, _⟩ := mem_alm.1 hx
    have : keyA x = (z.num, id) := Prod.ext h2 h3
    rw [this, nowZ_at hn hz]
    exact h1
  · by_cases hz : ∃ z ∈ zs, z.num = p.1
    · obtain ⟨z, hz, hzp⟩ := hz
      have hp' : p = (z.num, p.2) := Prod.ext hzp.symm rfl
      rw [hp', nowZ_at hn hz] at hp
      cases hk : kindOf (val es (z.num, p.2)) (isNow far z.ps (firmE ts).1 p.2) with
      | none => exact absurd hk hp
      | some k =>
        have hid : p.2 ∈ idsOf (firmE ts).1 es z.num := by
          rw [idsOf_mem hK.keys]
          rcases kind_some hk with h | h | h
          · left
            have h2 := h.2.2
            unfold isNow at h2
            cases hg : mget p.2 (firmE ts).1 with
            | none => rw [hg] at h2; exact absurd h2 (show (0 : Int) ≠ 2 by decide)
            | some t => rfl
          · exact .inr h.2.1
          · left
            have h2 := h.2.2
            unfold isNow at h2
            cases hg : mget p.2 (firmE ts).1 with
            | none => rw [hg] at h2; exact absurd h2 (show (0 : Int) ≠ 1 by decide)
            | some t => rfl
        refine ⟨⟨k, z.num, p.2, time⟩, List.mem_flatMap.2 ⟨z, hz, List.mem_flatMap.2 ⟨p.2, hid, mem_alm.2 ⟨hk, rfl, rfl, rfl⟩⟩⟩, hp'.symm⟩
    · exfalso
      apply hp
      rw [nowZ_none (fun z h e => hz ⟨z, h, e⟩)]
      have : val es p = 0 := by
        rcases val_or hV p with h | h
        · exact h
        · obtain ⟨x, hx, hxp, _⟩ := val_ex (es := es) (p := p) (by omega)
          obtain ⟨z, h1, h2⟩ := hZ x hx
          exact absurd ⟨z, h1, by rw [h2, hxp]⟩ hz
      rw [this]
      exact kind_same 0
theorem watch_val (hn : (zs.map (·.num)).Nodup) (hK : KOk es ck) (hV : VOk es) (hZ : ∀ x ∈ es, ∃ z ∈ zs, z.num = x.1.1) (p : Int × Int) : val (watchF far time zs es ck ts).es p = newV (val es p) (nowZ far (firmE ts).1 zs p) := by
  obtain ⟨_, hv, _, hV', hZ'⟩ := watch_closed far time zs es ck ts hn hK hV hZ
  by_cases hz : ∃ z ∈ zs, z.num = p.1
  · obtain ⟨z, hz, hzp⟩ := hz
    have hp' : p = (z.num, p.2) := Prod.ext hzp.symm rfl
    rw [hp', nowZ_at hn hz]
    exact hv z hz p.2
  · have key : ∀ l : List KE, VOk l → (∀ x ∈ l, ∃ z ∈ zs, z.num = x.1.1) → val l p = 0 := fun l h1 h2 => by
      rcases val_or h1 p with h | h
      · exact h
      · obtain ⟨x, hx, hxp, _⟩ := val_ex (es := l) (p := p) (by omega)
        obtain ⟨z, h1, h3⟩ := h2 x hx
        exact absurd ⟨z, h1, by rw [h3, hxp]⟩ hz
    rw [key _ hV' hZ', key _ hV hZ, nowZ_none (fun z h e => hz ⟨z, h, e⟩)]
    rfl
end
/-- who is in after some alarms -/
def inS (T : List Al) (v : Int × Int → Int) (p : Int × Int) : Prop := (∃ x ∈ T, keyA x = p ∧ x.kind = 0) ∨ ((∀ x ∈ T, keyA x ≠ p) ∧ v p = 2)
theorem inS_nil (v : Int × Int → Int) (p : Int × Int) : inS [] v p ↔ v p = 2 := by simp [inS]
theorem inS_snoc {T : List Al} {x : Al} {v : Int × Int → Int} (h : ∀ y ∈ T, keyA y ≠ keyA x) (p : Int × Int) : inS (T ++ [x]) v p ↔ if p = keyA x then x.kind = 0 else inS T v p := by
  unfold inS
  by_cases hp : p = keyA x
  · rw [if_pos hp]
    subst hp
    constructor
    · rintro (⟨y, hy, hk, h0⟩ | ⟨hall, _⟩)
      · rcases List.mem_append.1 hy with hy | hy
        · exact absurd hk (h y hy)
        · rw [List.mem_singleton.1 hy] at h0; exact h0
      · exact absurd rfl (hall x (List.mem_append_right _ (List.mem_singleton.2 rfl)))
    · intro h0
      exact .inl ⟨x, List.mem_append_right _ (List.mem_singleton.2 rfl), rfl, h0⟩
  · rw [if_neg hp]
    have hx : keyA x ≠ p := fun e => hp e.symm
    constructor
    · rintro (⟨y, hy, hk, h0⟩ | ⟨hall, hv⟩)
      · rcases List.mem_append.1 hy with hy | hy
        · exact .inl ⟨y, hy, hk, h0⟩
        · rw [List.mem_singleton.1 hy] at hk; exact absurd hk hx
      · exact .inr ⟨fun y hy => hall y (List.mem_append_left _ hy), hv⟩
    · rintro (⟨y, hy, hk, h0⟩ | ⟨hall, hv⟩)
      · exact .inl ⟨y, List.mem_append_left _ hy, hk, h0⟩
      · refine .inr ⟨fun y hy => ?_, hv⟩
        rcases List.mem_append.1 hy with hy | hy
        · exact hall y hy
        · rw [List.mem_singleton.1 hy]; exact hx
theorem inS_fresh {T : List Al} {q : Int × Int} {v : Int × Int → Int} (h : ∀ y ∈ T, keyA y ≠ q) : inS T v q ↔ v q = 2 := by
  unfold inS
  constructor
  · rintro (⟨y, hy, hk, _⟩ | ⟨_, hv⟩)
    · exact absurd hk (h y hy)
    · exact hv
  · intro hv; exact .inr ⟨h, hv⟩
theorem inS_end {T : List Al} {v n : Int × Int → Int} (h : TOk T v n) (p : Int × Int) : inS T v p ↔ n p = 2 := by
  constructor
  · rintro (⟨x, hx, rfl, h0⟩ | ⟨hall, hv⟩)
    · rcases kind_some (h.kind x hx) with h1 | h1 | h1 <;> omega
    · have : kindOf (v p) (n p) = none := by
        apply Classical.byContradiction
        intro hk
        obtain ⟨x, hx, hxp⟩ := h.all p hk
        exact hall x hx hxp
      exact (kind_none this).1 hv
  · intro hp
    by_cases hk : kindOf (v p) (n p) = none
    · by_cases hex : ∃ x ∈ T, keyA x = p
      · obtain ⟨x, hx, hxp⟩ := hex
        have := h.kind x hx
        rw [hxp, hk] at this; cases this
      · exact .inr ⟨fun x hx e => hex ⟨x, hx, e⟩, (kind_none hk).2 hp⟩
    · obtain ⟨x, hx, hxp⟩ := h.all p hk
      have h1 := h.kind x hx
      rw [hxp] at h1
      refine .inl ⟨x, hx, hxp, ?_⟩
      rcases kind_some h1 with h2 | h2 | h2 <;> omega
/-- who left -/
def leftL (T : List Al) : List (Int × Int) := (T.filter fun x => decide (x.kind = 1)).map keyA
theorem leftL_snoc (T : List Al) (x : Al) : leftL (T ++ [x]) = leftL T ++ (if x.kind = 1 then [keyA x] else []) := by
  unfold leftL
  rw [List.filter_append, List.map_append]
  congr 1
  by_cases h : x.kind = 1 <;> simp [h]
theorem leftL_nodup {T : List Al} (h : (T.map keyA).Nodup) : (leftL T).Nodup := (List.filter_sublist.map _).nodup h
theorem leftL_mem {T : List Al} {v n : Int × Int → Int} (h : TOk T v n) (p : Int × Int) : p ∈ leftL T ↔ v p = 2 ∧ n p ≠ 2 := by
  unfold leftL
  constructor
  · intro hp
    obtain ⟨x, hx, rfl⟩ := List.mem_map.1 hp
    obtain ⟨hx, hk⟩ := List.mem_filter.1 hx
    have hk := of_decide_eq_true hk
    rcases kind_some (h.kind x hx) with h2 | h2 | h2 <;> omega
  · rintro ⟨h1, h2⟩
    have hk : kindOf (v p) (n p) ≠ none := fun e => h2 ((kind_none e).1 h1)
    obtain ⟨x, hx, hxp⟩ := h.all p hk
    have h3 := h.kind x hx
    rw [hxp] at h3
    refine List.mem_map.2 ⟨x, List.mem_filter.2 ⟨hx, decide_eq_true ?_⟩, hxp⟩
    rcases kind_some h3 with h4 | h4 | h4 <;> omega
/-- the second time: none but who left, coming -/
theorem second {T : List Al} {v n : Int × Int → Int} (h : TOk T (fun p => newV (v p) (n p)) n) {x : Al} (hx : x ∈ T) : x.kind = 2 ∧ v (keyA x) = 2 ∧ n (keyA x) ≠ 2 := by
  have h1 := h.kind x hx
  unfold newV at h1
  split at h1
  · next hc =>
    rcases kind_some h1 with h2 | h2 | h2 <;> omega
  · rw [kind_same] at h1; cases h1
theorem newV2 (v n : Int) : newV (newV v n) n = n := by
  unfold newV
  split
  · split <;> omega
  · split <;> omega
theorem third {T : List Al} {v n : Int × Int → Int} (h : TOk T (fun p => newV (newV (v p) (n p)) (n p)) n) : T = [] := by
  cases T with
  | nil => rfl
  | cons x T =>
    have h1 := h.kind x (List.mem_cons_self ..)
    simp only [newV2, kind_same] at h1
    cases h1
/-- one that is taken out, the last in its place -/
def swapRem (P : List (Int × Int)) (i : Nat) : List (Int × Int) := (P.set i (P.getD (P.length - 1) (0, 0))).take (P.length - 1)
theorem swapRem_perm {P : List (Int × Int)} {i : Nat} (hi : i < P.length) : (swapRem P i).Perm (P.eraseIdx i) := by
  unfold swapRem
  obtain ⟨Q, l, rfl⟩ : ∃ Q l, P = Q ++ [l] := by
    rcases List.eq_nil_or_concat P with rfl | ⟨Q, l, rfl⟩
    · exact absurd hi (by simp)
    · exact ⟨Q, l, by simp⟩
  have hlen : (Q ++ [l]).length = Q.length + 1 := by simp
  have hg : (Q ++ [l]).getD ((Q ++ [l]).length - 1) (0, 0) = l := by rw [hlen]; simp
  rw [hg, hlen, Nat.add_sub_cancel]
  by_cases hq : i < Q.length
  · rw [List.set_append_left _ _ hq, List.take_append_of_le_length (by simp), List.take_of_length_le (by simp), List.eraseIdx_append_of_lt_length hq]
    have h1 : Q.set i l = Q.take i ++ l :: Q.drop (i + 1) := List.set_eq_take_append_cons_drop ▸ by simp [hq]
    have h2 : Q.eraseIdx i = Q.take i ++ Q.drop (i + 1) := List.eraseIdx_eq_take_drop_succ ..
    rw [h1, h2]
    refine List.perm_middle.trans ?_
    exact (List.perm_append_comm (l₁ := [l]))
  · obtain rfl : i = Q.length := by omega
    rw [List.set_append_right _ _ (Nat.le_refl _), Nat.sub_self, List.eraseIdx_append_of_length_le (Nat.le_refl _)]
    simp
theorem swapRem_spec {P : List (Int × Int)} (hn : P.Nodup) {i : Nat} (hi : i < P.length) : (swapRem P i).Nodup ∧ ∀ p, p ∈ swapRem P i ↔ p ∈ P ∧ p ≠ P.getD i (0, 0) := by
  have hp := swapRem_perm hi
  refine ⟨hp.nodup_iff.2 (hn.sublist (List.eraseIdx_sublist ..)), fun p => ?_⟩
  rw [hp.mem_iff, List.mem_eraseIdx_iff_getElem?]
  have hg : P.getD i (0, 0) = P[i] := by rw [List.getD_eq_getElem?_getD, List.getElem?_eq_getElem hi]; rfl
  rw [hg]
  constructor
  · rintro ⟨j, hj, h⟩
    obtain ⟨h1, rfl⟩ := List.getElem?_eq_some_iff.1 h
    exact ⟨List.getElem_mem h1, fun e => hj (nodup_at hn (x := P[j]) h (by rw [e]; exact List.getElem?_eq_getElem hi))⟩
  · rintro ⟨h1, h2⟩
    obtain ⟨j, hj, rfl⟩ := List.getElem_of_mem h1
    exact ⟨j, fun e => h2 (by subst e; rfl), List.getElem?_eq_getElem hj⟩
theorem swapRem_len {P : List (Int × Int)} {i : Nat} : (swapRem P i).length = P.length - 1 := by unfold swapRem; simp
theorem inL_mem {es : List KE} (hn : (es.map (·.1)).Nodup) (q id : Int) : id ∈ inL es q ↔ val es (q, id) = 2 := by
  unfold inL
  constructor
  · intro h
    obtain ⟨x, hx, rfl⟩ := List.mem_map.1 h
    obtain ⟨hx, hc⟩ := List.mem_filter.1 hx
    simp only [Bool.and_eq_true, decide_eq_true_eq] at hc
    rw [← hc.1]
    exact (val_of hn hx).trans hc.2
  · intro h
    obtain ⟨x, hx, hk, hv⟩ := val_ex (es := es) (p := (q, id)) (by rw [h]; decide)
    refine List.mem_map.2 ⟨x, List.mem_filter.2 ⟨hx, ?_⟩, by rw [hk]⟩
    rw [hk, hv, h]; simp
theorem inL_nodup {es : List KE} (hn : (es.map (·.1)).Nodup) (q : Int) : (inL es q).Nodup := by
  unfold inL
  have h1 : (es.filter fun x => decide (x.1.1 = q) && decide (x.2.1 = 2)).Pairwise fun x y => x.1 ≠ y.1 := List.pairwise_map.1 ((List.filter_sublist.map _).nodup hn)
  refine List.pairwise_map.2 (List.Pairwise.imp_of_mem ?_ h1)
  intro x y hx hy hxy hz
  have h1 := (List.mem_filter.1 hx).2
  have h2 := (List.mem_filter.1 hy).2
  simp only [Bool.and_eq_true, decide_eq_true_eq] at h1 h2
  exact hxy (Prod.ext (h1.1.trans h2.1.symm) hz)
theorem inS_mem {es : List KE} (hn : (es.map (·.1)).Nodup) (q id : Int) : id ∈ isort (inL es q) ↔ val es (q, id) = 2 := by rw [(isort_perm _).mem_iff, inL_mem hn]
theorem inS_lt {es : List KE} (hn : (es.map (·.1)).Nodup) (q : Int) : (isort (inL es q)).Pairwise (· < ·) :=
  ((isort_sorted _).and ((isort_perm _).nodup_iff.2 (inL_nodup hn q))).imp fun ⟨a, b⟩ => by omega
/-- how many are in, zone by zone -/
def cntN (es : List KE) (nums : List Int) : Nat := (nums.map fun n => (isort (inL es n)).length).sum
theorem cntN_all {es : List KE} (hn : (es.map (·.1)).Nodup) {nums : List Int} (hd : nums.Nodup) {P : List (Int × Int)} (hP : P.Nodup) (h : ∀ p, p ∈ P ↔ val es p = 2) (hz : ∀ p, val es p = 2 → p.1 ∈ nums) : cntN es nums = P.length := by
  have hQ : (nums.flatMap fun n => (isort (inL es n)).map fun id => (n, id)).Perm P := by
    refine perm_nodup ?_ hP fun p => ?_
    · show List.Pairwise _ _
      rw [List.pairwise_flatMap]
      refine ⟨fun n _ => List.pairwise_map.2 ((inS_lt hn n).imp fun h e => ?_), hd.imp fun {a b} hab x hx y hy e => ?_⟩
      · have := congrArg Prod.snd e
        simp only at this; omega
      · obtain ⟨i, _, rfl⟩ := List.mem_map.1 hx
        obtain ⟨j, _, rfl⟩ := List.mem_map.1 hy
        exact hab (congrArg Prod.fst e)
    · rw [h, List.mem_flatMap]
      constructor
      · rintro ⟨n, _, hp⟩
        obtain ⟨id, hid, rfl⟩ := List.mem_map.1 hp
        exact (inS_mem hn n id).1 hid
      · intro hv
        exact ⟨p.1, hz p hv, List.mem_map.2 ⟨p.2, (inS_mem hn p.1 p.2).2 hv, rfl⟩⟩
  rw [← hQ.length_eq, List.length_flatMap]
  unfold cntN
  congr 1
  apply List.map_congr_left
  intro n _
  rw [List.length_map]
theorem cntN_snoc (es : List KE) (nums : List Int) (n : Int) : cntN es (nums ++ [n]) = cntN es nums + (isort (inL es n)).length := by unfold cntN; simp
theorem cntN_le (es : List KE) (nums : List Int) : cntN es nums ≤ nums.length * es.length := by
  unfold cntN
  induction nums with
  | nil => simp
  | cons n nums ih =>
    rw [List.map_cons, List.sum_cons, List.length_cons, Nat.add_mul, isort_len]
    have := inL_len es n
    omega
theorem sum_le {α : Type} (f : α → Nat) (k : Nat) : ∀ l : List α, (∀ x ∈ l, f x ≤ k) → (l.map f).sum ≤ l.length * k
  | [], _ => by simp
  | x :: l, h => by
    rw [List.map_cons, List.sum_cons, List.length_cons, Nat.add_mul]
    have h1 := h x (List.mem_cons_self ..)
    have h2 := sum_le f k l fun y hy => h y (List.mem_cons_of_mem _ hy)
    omega
theorem told_len {far time : Nat} {zs : List Zn} {es : List KE} {ck : Nat} {ts : List Tk} (hn : (zs.map (·.num)).Nodup) (hK : KOk es ck) (hV : VOk es) (hZ : ∀ x ∈ es, ∃ z ∈ zs, z.num = x.1.1) : (watchF far time zs es ck ts).told.length ≤ zs.length * (ts.length + es.length) := by
  obtain ⟨hT, -⟩ := watch_closed far time zs es ck ts hn hK hV hZ
  rw [hT, List.length_flatMap]
  refine sum_le _ _ _ fun z _ => ?_
  rw [List.length_flatMap]
  refine Nat.le_trans (sum_le _ 1 _ fun id _ => ?_) ?_
  · unfold alm; split <;> simp
  · unfold idsOf
    rw [Nat.mul_one, isort_len, List.length_append, List.length_map, List.length_map]
    have h1 := firmE_len ts
    have h2 : (es.filter (goneB (firmE ts).1 z.num)).length ≤ es.length := List.length_filter_le ..
    omega
theorem firm_get (ts : List Tk) (id : Int) : mget id (firmE ts).1 = ts.find? (fun t => decide (t.id = id) && decide (t.kind = 1)) := by
  have key : ∀ (ts : List Tk) (s : List FE × Nat), mget id (ts.foldl firmStep s).1 = if (mget id s.1).isSome then mget id s.1 else ts.find? (fun t => decide (t.id = id) && decide (t.kind = 1)) := by
    intro ts
    induction ts with
    | nil => intro s; cases h : mget id s.1 <;> simp [h]
    | cons t ts ih =>
      intro s
      rw [List.foldl_cons, ih (firmStep s t)]
      have hst : mget id (firmStep s t).1 = if (mget id s.1).isSome then mget id s.1 else if t.id = id ∧ t.kind = 1 then some t else none := by
        unfold firmStep
        split
        · next hc =>
          show mget id (mput t.id t s.2 s.1) = _
          rw [mget_mput]
          by_cases hid : id = t.id
          · subst hid
            rw [if_pos rfl]
            have : (mget t.id s.1).isSome = false := by cases h : mget t.id s.1 <;> simp [h] at hc ⊢
            rw [this, if_neg (by decide), if_pos ⟨rfl, hc.1⟩]
          · rw [if_neg hid, if_neg (c := t.id = id ∧ t.kind = 1) (fun h => hid h.1.symm)]
            cases h : mget id s.1 <;> simp
        · next hc =>
          by_cases hid : t.id = id ∧ t.kind = 1
          · rw [if_pos hid]
            have : (mget id s.1).isSome = true := by
              cases h : mget id s.1 with
              | some y => rfl
              | none => exact absurd ⟨hid.2, by rw [hid.1, h]; rfl⟩ hc
            rw [if_pos this]
          · rw [if_neg hid]
            cases h : mget id s.1 <;> simp
      rw [hst]
      cases h : mget id s.1 with
      | some y => simp
      | none =>
        by_cases hid : t.id = id ∧ t.kind = 1
        · rw [List.find?_cons_of_pos (by simp [hid])]
          simp [hid]
        · rw [List.find?_cons_of_neg (by simpa using hid)]
          simp [hid]
  have := key ts ([], 0)
  unfold firmE
  simpa [mget] using this
theorem firm_first {ts : List Tk} {m : Nat} (hm : m < ts.length) {id : Int} (h1 : (ts.getD m tk0).id = id ∧ (ts.getD m tk0).kind = 1) (h2 : ∀ q, q < m → ¬ ((ts.getD q tk0).id = id ∧ (ts.getD q tk0).kind = 1)) : mget id (firmE ts).1 = some (ts.getD m tk0) := by
  rw [firm_get]
  have hs : ts = ts.take m ++ ts.getD m tk0 :: ts.drop (m + 1) := by
    rw [List.getD_eq_getElem?_getD, List.getElem?_eq_getElem hm, Option.getD_some, List.getElem_cons_drop, List.take_append_drop]
  have hnone : (ts.take m).find? (fun t => decide (t.id = id) && decide (t.kind = 1)) = none := by
    rw [List.find?_eq_none]
    intro t ht
    obtain ⟨q, hq, rfl⟩ := List.getElem_of_mem ht
    rw [List.length_take] at hq
    have := h2 q (by omega)
    rw [List.getD_eq_getElem?_getD, List.getElem?_eq_getElem (by omega), Option.getD_some] at this
    rw [List.getElem_take]
    simpa using this
  generalize ts.getD m tk0 = t at h1 hs
  rw [hs, List.find?_append, hnone, Option.none_or, List.find?_cons_of_pos (by simp [h1])]
end Go.Proofs.Ytoiobncojfeoiaa
