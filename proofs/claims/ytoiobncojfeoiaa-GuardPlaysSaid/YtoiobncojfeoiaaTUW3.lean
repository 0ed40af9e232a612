/-
  A part of the proof: what functions that the statement reaches do, or a plain law on what they do. Each theorem holds under its own premises alone.
-/
import Derived.Test.YtoiobncojfeoiaaTUW2
namespace Go.Proofs.Ytoiobncojfeoiaa
open Go Go.Lk
/-! ### Zones and tracks know nothing of one another -/
section
variable {far time : Nat} {zs : List Zn} {es : List KE} {ck : Nat} {ts : List Tk}
/-- a guard that is told of one Id alone -/
def RelA (es esA : List KE) (id : Int) : Prop := ∀ p, val esA p = if p.2 = id then val es p else 0
theorem firm_mine (id i : Int) : mget i (firmE (ts.filter fun t => decide (t.id = id))).1 = if i = id then mget i (firmE ts).1 else none := by
  rw [firm_get, firm_get, List.find?_filter]
  by_cases h : i = id
  · rw [if_pos h]
    congr 1
    funext t
    subst h
    by_cases h1 : t.id = i <;> simp [h1]
  · rw [if_neg h, List.find?_eq_none]
    intro t _
    by_cases h1 : t.id = i
    · simp [h1, h]
    · simp [h1]
theorem isNow_mine (id i : Int) (ps : List Pt) : isNow far ps (firmE (ts.filter fun t => decide (t.id = id))).1 i = if i = id then isNow far ps (firmE ts).1 i else 0 := by
  unfold isNow
  rw [firm_mine]
  by_cases h : i = id
  · rw [if_pos h, if_pos h]
  · rw [if_neg h, if_neg h]
theorem find_congr {q : Zn → Bool} (hq : ∀ y z : Zn, y.num = z.num → q y = q z) : ∀ {zs zsA : List Zn}, zsA.map (fun z => (z.num, z.ps)) = zs.map (fun z => (z.num, z.ps)) → (zsA.find? q).map (fun z => (z.num, z.ps)) = (zs.find? q).map (fun z => (z.num, z.ps))
  | [], [], _ => rfl
  | [], _ :: _, h => by cases h
  | _ :: _, [], h => by cases h
  | z :: zs, y :: zsA, h => by
    rw [List.map_cons, List.map_cons, List.cons.injEq, Prod.mk.injEq] at h
    cases hz : q z with
    | true =>
      have hy : q y = true := by rw [hq y z h.1.1]; exact hz
      rw [List.find?_cons_of_pos hz, List.find?_cons_of_pos hy]
      simp [h.1]
    | false =>
      have hy : q y = false := by rw [hq y z h.1.1]; exact hz
      rw [List.find?_cons_of_neg (by rw [hy]; decide), List.find?_cons_of_neg (by rw [hz]; decide)]
      exact find_congr hq h.2
theorem nowZ_congr {fe : List FE} {zsA : List Zn} (h : zsA.map (fun z => (z.num, z.ps)) = zs.map (fun z => (z.num, z.ps))) (p : Int × Int) : nowZ far fe zsA p = nowZ far fe zs p := by
  have := find_congr (q := fun z => decide (z.num = p.1)) (fun y z hyz => by rw [hyz]) h
  unfold nowZ
  cases h1 : zsA.find? (fun z => decide (z.num = p.1)) with
  | none =>
    rw [h1] at this
    cases h2 : zs.find? (fun z => decide (z.num = p.1)) with
    | none => rfl
    | some z => rw [h2] at this; cases this
  | some y =>
    rw [h1] at this
    cases h2 : zs.find? (fun z => decide (z.num = p.1)) with
    | none => rw [h2] at this; cases this
    | some z =>
      rw [h2] at this
      have := Option.some.inj this
      rw [Prod.mk.injEq] at this
      show isNow far y.ps fe p.2 = isNow far z.ps fe p.2
      rw [this.2]
theorem nowZ_mine (id : Int) (p : Int × Int) : nowZ far (firmE (ts.filter fun t => decide (t.id = id))).1 zs p = if p.2 = id then nowZ far (firmE ts).1 zs p else 0 := by
  unfold nowZ
  cases zs.find? (fun z => decide (z.num = p.1)) with
  | none => simp
  | some z => exact isNow_mine id p.2 z.ps
theorem flat_filter {h : Int → List Al} (hh : ∀ i, ∀ x ∈ h i, x.track = i) (id : Int) : ∀ ids : List Int, (ids.flatMap h).filter (fun x => decide (x.track = id)) = (ids.filter fun i => decide (i = id)).flatMap h
  | [] => rfl
  | i :: ids => by
    rw [List.flatMap_cons, List.filter_append, flat_filter hh id ids]
    by_cases hi : i = id
    · rw [List.filter_cons_of_pos (by simp [hi]), List.flatMap_cons, List.filter_eq_self.2]
      intro x hx
      rw [hh i x hx]; simp [hi]
    · rw [List.filter_cons_of_neg (by simp [hi]), List.filter_eq_nil_iff.2, List.nil_append]
      intro x hx
      rw [hh i x hx]; simp [hi]
theorem filter_flat {α β : Type} (p : β → Bool) (g : α → List β) : ∀ l : List α, (l.flatMap g).filter p = l.flatMap fun x => (g x).filter p
  | [] => rfl
  | x :: l => by rw [List.flatMap_cons, List.filter_append, filter_flat p g l, List.flatMap_cons]
theorem flat_map' {α β γ : Type} (f : α → β) (G : β → List γ) : ∀ l : List α, (l.flatMap fun x => G (f x)) = (l.map f).flatMap G
  | [] => rfl
  | x :: l => by rw [List.flatMap_cons, flat_map' f G l, List.map_cons, List.flatMap_cons]
theorem alone {zsA : List Zn} (hmap : zsA.map (fun z => (z.num, z.ps)) = zs.map (fun z => (z.num, z.ps))) (hn : (zs.map (·.num)).Nodup) (hK : KOk es ck) (hV : VOk es) (hZ : ∀ x ∈ es, ∃ z ∈ zs, z.num = x.1.1)
    {esA : List KE} {ckA : Nat} (hKA : KOk esA ckA) (hVA : VOk esA) (hZA : ∀ x ∈ esA, ∃ z ∈ zsA, z.num = x.1.1) (id : Int) (hR : RelA es esA id) :
    (watchF far time zsA esA ckA (ts.filter fun t => decide (t.id = id))).told = (watchF far time zs es ck ts).told.filter (fun x => decide (x.track = id)) ∧
    RelA (watchF far time zs es ck ts).es (watchF far time zsA esA ckA (ts.filter fun t => decide (t.id = id))).es id := by
  have hnA : (zsA.map (·.num)).Nodup := by
    have := congrArg (List.map Prod.fst) hmap
    rw [List.map_map, List.map_map] at this
    rw [show zsA.map (·.num) = zs.map (·.num) from this]; exact hn
  refine ⟨?_, fun p => ?_⟩
  · obtain ⟨a1, -⟩ := watch_closed far time zs es ck ts hn hK hV hZ
    obtain ⟨b1, -⟩ := watch_closed far time zsA esA ckA (ts.filter fun t => decide (t.id = id)) hnA hKA hVA hZA
    rw [a1, b1, filter_flat]
    have e1 := flat_map' (fun z : Zn => (z.num, z.ps)) (fun q : Int × List Pt => (idsOf (firmE (ts.filter fun t => decide (t.id = id))).1 esA q.1).flatMap fun i => alm time q.1 i (val esA (q.1, i)) (isNow far q.2 (firmE (ts.filter fun t => decide (t.id = id))).1 i)) zsA
    have e2 := flat_map' (fun z : Zn => (z.num, z.ps)) (fun q : Int × List Pt => ((idsOf (firmE ts).1 es q.1).flatMap fun i => alm time q.1 i (val es (q.1, i)) (isNow far q.2 (firmE ts).1 i)).filter fun x => decide (x.track = id)) zs
    refine e1.trans (Eq.trans ?_ e2.symm)
    rw [hmap]
    refine flatMap_congr' fun q _ => ?_
    rw [flat_filter (h := fun i => alm time q.1 i (val es (q.1, i)) (isNow far q.2 (firmE ts).1 i)) (fun i x hx => (mem_alm.1 hx).2.2.1)]
    have hids : idsOf (firmE (ts.filter fun t => decide (t.id = id))).1 esA q.1 = (idsOf (firmE ts).1 es q.1).filter fun i => decide (i = id) := by
      refine lt_ext (idsOf_lt (firmE_ok _) hKA.keys _) ((idsOf_lt (firmE_ok ts) hK.keys _).filter _) fun i => ?_
      rw [idsOf_mem hKA.keys, List.mem_filter, idsOf_mem hK.keys, firm_mine, hR]
      by_cases hi : i = id
      · simp [hi]
      · simp [hi]
    rw [hids]
    refine flatMap_congr' fun i hi => ?_
    have hi : i = id := by simpa using (List.mem_filter.1 hi).2
    rw [hR, isNow_mine, if_pos hi, if_pos hi]
  · rw [watch_val hnA hKA hVA hZA, watch_val hn hK hV hZ, hR, nowZ_congr hmap, nowZ_mine]
    by_cases hp : p.2 = id
    · rw [if_pos hp, if_pos hp, if_pos hp]
    · rw [if_neg hp, if_neg hp, if_neg hp]; rfl
end
theorem alB_self (x : Al) : alB x x = true := by unfold alB; simp; unfold sfB; cases nnB x.time <;> simp
theorem alsB_self (xs : List Al) : alsB xs xs = true := by
  unfold alsB
  rw [decide_eq_true rfl, Bool.true_and, List.all_eq_true]
  intro q _
  exact alB_self _
end Go.Proofs.Ytoiobncojfeoiaa
