/-
  A part of the proof: what functions that the statement reaches do, or a plain law on what they do. Each theorem holds under its own premises alone.
-/
import Derived.Test.YtoiobncojfeoiaaTUW0
namespace Go.Proofs.Ytoiobncojfeoiaa
open Go Go.Lk
/-! ### What is told, and who is in -/
def keyA (x : Al) : Int × Int := (x.zone, x.track)
/-- what is now of a zone and an Id -/
def nowZ (far : Nat) (fe : List FE) (zs : List Zn) (p : Int × Int) : Int := match zs.find? (fun z => decide (z.num = p.1)) with
  | some z => isNow far z.ps fe p.2
  | none => 0
theorem nowZ_at {far : Nat} {fe : List FE} {zs : List Zn} (hn : (zs.map (·.num)).Nodup) {z : Zn} (hz : z ∈ zs) (id : Int) : nowZ far fe zs (z.num, id) = isNow far z.ps fe id := by
  unfold nowZ
  have h : zs.find? (fun y => decide (y.num = z.num)) = some z := by
    induction zs with
    | nil => cases hz
    | cons y zs ih =>
      rw [List.map_cons, List.nodup_cons] at hn
      rcases List.mem_cons.1 hz with rfl | hz
      · rw [List.find?_cons_of_pos (by simp)]
      · rw [List.find?_cons_of_neg (by simp; intro e; exact hn.1 (List.mem_map.2 ⟨z, hz, e.symm⟩))]
        exact ih hn.2 hz
  rw [h]
theorem nowZ_none {far : Nat} {fe : List FE} {zs : List Zn} {p : Int × Int} (h : ∀ z ∈ zs, z.num ≠ p.1) : nowZ far fe zs p = 0 := by
  unfold nowZ
  rw [List.find?_eq_none.2 (fun z hz => by simp; exact h z hz)]
theorem mem_alm {time : Nat} {z id v n : Int} {x : Al} : x ∈ alm time z id v n ↔ kindOf v n = some x.kind ∧ x.zone = z ∧ x.track = id ∧ x.time = time := by
  unfold alm
  cases h : kindOf v n with
  | none => simp
  | some k =>
    simp only [List.mem_singleton]
    constructor
    · rintro rfl; exact ⟨rfl, rfl, rfl, rfl⟩
    · rintro ⟨h1, h2, h3, h4⟩
      obtain ⟨a, b, c, d⟩ := x
      simp only at h1 h2 h3 h4
      rw [← Option.some.inj h1, h2, h3, h4]
/-- a list of alarms, by what was and what is -/
structure TOk (T : List Al) (v n : Int × Int → Int) : Prop where
  keys : (T.map keyA).Nodup
  kind : ∀ x ∈ T, kindOf (v (keyA x)) (n (keyA x)) = some x.kind
  all : ∀ p, kindOf (v p) (n p) ≠ none → ∃ x ∈ T, keyA x = p
section
variable {far time : Nat} {zs : List Zn} {es : List KE} {ck : Nat} {ts : List Tk}
theorem watch_val (hn : (zs.map (·.num)).Nodup) (hK : KOk es ck) (hV : VOk es) (hZ : ∀ x ∈ es, ∃ z ∈ zs, z.num = x.1.1) (p : Int × Int) : val (watchF far time zs es ck ts).es p = newV (val es p) (nowZ far (firmE ts).1 zs p) := by
  obtain ⟨_, hv, _, hV', hZ'⟩ := watch_closed far time zs es ck ts hn hK hV hZ
  by_cases hz : ∃ z ∈ zs, z.num = p.1
  · obtain ⟨z, hz, hzp⟩ := hz
    have hp' : p = (z.num, p.2) := Prod.ext hzp.symm rfl
    rw [hp', nowZ_at hn hz]
    exact hv z hz p.2
  · have key : ∀ l : List KE, VOk l → (∀ x ∈ l, ∃ z ∈ zs, z.num = x.1.1) → val l p = 0 := fun l h1 h2 => by
      rcases val_or h1 p with h | h
      · exact h
      · obtain ⟨x, hx, hxp, _⟩ := val_ex (es := l) (p := p) (by omega)
        obtain ⟨z, h1, h3⟩ := h2 x hx
        exact absurd ⟨z, h1, by rw [h3, hxp]⟩ hz
    rw [key _ hV' hZ', key _ hV hZ, nowZ_none (fun z h e => hz ⟨z, h, e⟩)]
    rfl
end
theorem inL_mem {es : List KE} (hn : (es.map (·.1)).Nodup) (q id : Int) : id ∈ inL es q ↔ val es (q, id) = 2 := by
  unfold inL
  constructor
  · intro h
    obtain ⟨x, hx, rfl⟩ := List.mem_map.1 h
    obtain ⟨hx, hc⟩ := List.mem_filter.1 hx
    simp only [Bool.and_eq_true, decide_eq_true_eq] at hc
    rw [← hc.1]
    exact (val_of hn hx).trans hc.2
  · intro h
    obtain ⟨x, hx, hk, hv⟩ := val_ex (es := es) (p := (q, id)) (by rw [h]; decide)
    refine List.mem_map.2 ⟨x, List.mem_filter.2 ⟨hx, ?_⟩, by rw [hk]⟩
    rw [hk, hv, h]; simp
theorem inL_nodup {es : List KE} (hn : (es.map (·.1)).Nodup) (q : Int) : (inL es q).Nodup := by
  unfold inL
  have h1 : (es.filter fun x => decide (x.1.1 = q) && decide (x.2.1 = 2)).Pairwise fun x y => x.1 ≠ y.1 := List.pairwise_map.1 ((List.filter_sublist.map _).nodup hn)
  refine List.pairwise_map.2 (List.Pairwise.imp_of_mem ?_ h1)
  intro x y hx hy hxy hz
  have h1 := (List.mem_filter.1 hx).2
  have h2 := (List.mem_filter.1 hy).2
  simp only [Bool.and_eq_true, decide_eq_true_eq] at h1 h2
  exact hxy (Prod.ext (h1.1.trans h2.1.symm) hz)
theorem inS_mem {es : List KE} (hn : (es.map (·.1)).Nodup) (q id : Int) : id ∈ isort (inL es q) ↔ val es (q, id) = 2 := by rw [(isort_perm _).mem_iff, inL_mem hn]
theorem inS_lt {es : List KE} (hn : (es.map (·.1)).Nodup) (q : Int) : (isort (inL es q)).Pairwise (· < ·) :=
  ((isort_sorted _).and ((isort_perm _).nodup_iff.2 (inL_nodup hn q))).imp fun ⟨a, b⟩ => by omega
theorem sum_le {α : Type} (f : α → Nat) (k : Nat) : ∀ l : List α, (∀ x ∈ l, f x ≤ k) → (l.map f).sum ≤ l.length * k
  | [], _ => by simp
  | x :: l, h => by
    rw [List.map_cons, List.sum_cons, List.length_cons, Nat.add_mul]
    have h1 := h x (List.mem_cons_self ..)
    have h2 := sum_le f k l fun y hy => h y (List.mem_cons_of_mem _ hy)
    omega
theorem told_len {far time : Nat} {zs : List Zn} {es : List KE} {ck : Nat} {ts : List Tk} (hn : (zs.map (·.num)).Nodup) (hK : KOk es ck) (hV : VOk es) (hZ : ∀ x ∈ es, ∃ z ∈ zs, z.num = x.1.1) : (watchF far time zs es ck ts).told.length ≤ zs.length * (ts.length + es.length) := by
  obtain ⟨hT, -⟩ := watch_closed far time zs es ck ts hn hK hV hZ
  rw [hT, List.length_flatMap]
  refine sum_le _ _ _ fun z _ => ?_
  rw [List.length_flatMap]
  refine Nat.le_trans (sum_le _ 1 _ fun id _ => ?_) ?_
  · unfold alm; split <;> simp
  · unfold idsOf
    rw [Nat.mul_one, isort_len, List.length_append, List.length_map, List.length_map]
    have h1 := firmE_len ts
    have h2 : (es.filter (goneB (firmE ts).1 z.num)).length ≤ es.length := List.length_filter_le ..
    omega
theorem firm_get (ts : List Tk) (id : Int) : mget id (firmE ts).1 = ts.find? (fun t => decide (t.id = id) && decide (t.kind = 1)) := by
  have key : ∀ (ts : List Tk) (s : List FE × Nat), mget id (ts.foldl firmStep s).1 = if (mget id s.1).isSome then mget id s.1 else ts.find? (fun t => decide (t.id = id) && decide (t.kind = 1)) := by
    intro ts
    induction ts with
    | nil => intro s; cases h : mget id s.1 <;> simp [h]
    | cons t ts ih =>
      intro s
      rw [List.foldl_cons, ih (firmStep s t)]
      have hst : mget id (firmStep s t).1 = if (mget id s.1).isSome then mget id s.1 else if t.id = id ∧ t.kind = 1 then some t else none := by
        unfold firmStep
        split
        · next hc =>
          show mget id (mput t.id t s.2 s.1) = _
          rw [mget_mput]
          by_cases hid : id = t.id
          · subst hid
            rw [if_pos rfl]
            have : (mget t.id s.1).isSome = false := by cases h : mget t.id s.1 <;> simp [h] at hc ⊢
            rw [this, if_neg (by decide), if_pos ⟨rfl, hc.1⟩]
          · rw [if_neg hid, if_neg (c := t.id = id ∧ t.kind = 1) (fun h => hid h.1.symm)]
            cases h : mget id s.1 <;> simp
        · next hc =>
          by_cases hid : t.id = id ∧ t.kind = 1
          · rw [if_pos hid]
            have : (mget id s.1).isSome = true := by
              cases h : mget id s.1 with
              | some y => rfl
              | none => exact absurd ⟨hid.2, by rw [hid.1, h]; rfl⟩ hc
            rw [if_pos this]
          · rw [if_neg hid]
            cases h : mget id s.1 <;> simp
      rw [hst]
      cases h : mget id s.1 with
      | some y => simp
      | none =>
        by_cases hid : t.id = id ∧ t.kind = 1
        · rw [List.find?_cons_of_pos (by simp [hid])]
          simp [hid]
        · rw [List.find?_cons_of_neg (by simpa using hid)]
          simp [hid]
  have := key ts ([], 0)
  unfold firmE
  simpa [mget] using this
end Go.Proofs.Ytoiobncojfeoiaa
