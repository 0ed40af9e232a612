/-
  A part of the proof: what functions that the statement reaches do, or a plain law on what they do. Each theorem holds under its own premises alone.
-/
import Derived.Test.YtknpoemkmcdgcaaTNQ
namespace Go.Proofs.Ytknpoemkmcdgcaa
open Go Go.Lk Go.Pr
/-! ### Each track is in one thing: the plain law -/
def cntS (r : Int) (S : List ST) : Nat := (S.map fun t => t.seen.count r).sum
theorem cntS_app (r : Int) (S T : List ST) : cntS r (S ++ T) = cntS r S + cntS r T := by
  unfold cntS; rw [List.map_append, List.sum_append]
theorem cntS_one (r : Int) (t : ST) : cntS r [t] = t.seen.count r := by simp [cntS]
theorem cntS_cons (r : Int) (t : ST) (S : List ST) : cntS r (t :: S) = t.seen.count r + cntS r S := by simp [cntS]
theorem cntS_set {S : List ST} {q : Nat} (r : Int) (h : q < S.length) (t : ST) : cntS r (S.set q t) + (S.getD q st0).seen.count r = cntS r S + t.seen.count r := by
  have e := congrArg (cntS r) (split_at (d := st0) h)
  rw [cntS_app, cntS_cons] at e
  rw [List.set_eq_take_append_cons_drop, if_pos h, cntS_app, cntS_cons, e]
  omega
theorem cntS_none {r : Int} {S : List ST} (h : ∀ t ∈ S, ∀ x ∈ t.seen, x < r) : cntS r S = 0 := by
  induction S with
  | nil => rfl
  | cons t S ih =>
    rw [cntS_cons, ih (fun u hu => h u (List.mem_cons_of_mem _ hu)), List.count_eq_zero.2 (fun hm => by have := h t (List.mem_cons_self ..) r hm; omega)]
theorem count_snoc (l : List Int) (i r : Int) : (l ++ [i]).count r = l.count r + (if i = r then 1 else 0) := by
  rw [List.count_append, List.count_singleton]
  simp
/-- a thing's radars: some, rising, up to one -/
structure Seen (b : Int) (t : ST) : Prop where
  some : t.seen ≠ []
  rise : t.seen.Pairwise (· < ·)
  rng : ∀ x ∈ t.seen, 0 ≤ x ∧ x < b
structure PK (i : Nat) (S0 : List ST) (ms : List Int) (k : Nat) (S : List ST) : Prop where
  len : S0.length ≤ S.length
  seen : ∀ t ∈ S, Seen (i + 1) t
  was : ∀ q, q < S0.length → (i : Int) ∈ (S.getD q st0).seen → ∃ j, j < k ∧ ms.getD j 0 = (q : Int)
  old : ∀ r : Int, r < i → cntS r S = cntS r S0
  new : cntS i S = k
theorem PK.step {i k : Nat} {S0 S : List ST} {ms : List Int} {x : ST} {m : Int} (h : PK i S0 ms k S) (hx : x.seen = [(i : Int)]) (hm : ms.getD k 0 = m) (hlt : m < S0.length) (hne : 0 ≤ m → ∀ j, j < k → ms.getD j 0 ≠ m) : PK i S0 ms (k + 1) (stp i S (x, m)) := by
  unfold stp
  have hl := h.len
  by_cases h0 : 0 ≤ m
  · rw [if_pos h0]
    obtain ⟨q, rfl⟩ : ∃ q : Nat, m = (q : Int) := ⟨m.toNat, by omega⟩
    show PK i S0 ms (k + 1) (S.set q (mrgS i (S.getD q st0) x))
    have hq : q < S.length := by omega
    obtain ⟨t, ht⟩ : ∃ t, t = S.getD q st0 := ⟨_, rfl⟩
    have hts := h.seen t (by rw [ht]; exact getD_mem hq)
    have hni : (i : Int) ∉ t.seen := fun hi => by
      rw [ht] at hi
      obtain ⟨j, hj, hjq⟩ := h.was q (by omega) hi
      exact hne h0 j hj hjq
    have hlt2 : ∀ y ∈ t.seen, 0 ≤ y ∧ y < (i : Int) := fun y hy => by
      have h1 := hts.rng y hy
      have : y ≠ i := fun e => hni (e ▸ hy)
      omega
    have hnew : (mrgS i t x).seen = t.seen ++ [(i : Int)] := rfl
    rw [← ht]
    refine ⟨by rw [List.length_set]; exact hl, fun u hu => ?_, fun q' hq' hi => ?_, fun r hr => ?_, ?_⟩
    · rcases List.mem_or_eq_of_mem_set hu with h1 | h1
      · exact h.seen u h1
      · rw [h1]
        refine ⟨by rw [hnew]; simp, ?_, fun y hy => ?_⟩
        · rw [hnew, List.pairwise_append]
          exact ⟨hts.rise, List.pairwise_singleton .., fun a ha b hb => by rw [List.mem_singleton.1 hb]; exact (hlt2 a ha).2⟩
        · rw [hnew] at hy
          rcases List.mem_append.1 hy with h2 | h2
          · have := hlt2 y h2; omega
          · rw [List.mem_singleton.1 h2]; omega
    · by_cases hqq : q' = q
      · exact ⟨k, Nat.lt_succ_self _, by rw [hqq]; exact hm⟩
      · rw [List.getD_eq_getElem?_getD, List.getElem?_set_ne (fun e => hqq e.symm), ← List.getD_eq_getElem?_getD] at hi
        obtain ⟨j, hj, hjq⟩ := h.was q' hq' hi
        exact ⟨j, by omega, hjq⟩
    · have h1 := cntS_set r hq (mrgS i t x)
      rw [hnew, count_snoc, if_neg (by omega), ← ht] at h1
      have := h.old r hr
      omega
    · have h1 := cntS_set i hq (mrgS i t x)
      rw [hnew, count_snoc, if_pos rfl, ← ht] at h1
      have := h.new
      omega
  · rw [if_neg h0]
    have hxs : Seen (i + 1) x := ⟨by rw [hx]; simp, by rw [hx]; exact List.pairwise_singleton .., fun y hy => by rw [hx] at hy; rw [List.mem_singleton.1 hy]; omega⟩
    refine ⟨by rw [List.length_append]; omega, fun u hu => (List.mem_append.1 hu).elim (h.seen u) fun h1 => by rw [List.mem_singleton.1 h1]; exact hxs, fun q' hq' hi => ?_, fun r hr => ?_, ?_⟩
    · rw [List.getD_eq_getElem?_getD, List.getElem?_append_left (by omega), ← List.getD_eq_getElem?_getD] at hi
      obtain ⟨j, hj, hjq⟩ := h.was q' hq' hi
      exact ⟨j, by omega, hjq⟩
    · show cntS r (S ++ [x]) = _
      rw [cntS_app, cntS_one, hx, h.old r hr, List.count_singleton]
      simp; omega
    · show cntS i (S ++ [x]) = _
      rw [cntS_app, cntS_one, hx, h.new, List.count_singleton]
      simp
/-- no two tracks of a radar have one mate -/
theorem mates_inj {rows : List (List Int)} {ms : List Int} {cnt t e : Int} (h : MostAns rows ms cnt t e) {j k : Nat} (hj : j < ms.length) (hk : k < ms.length) (h0 : 0 ≤ ms.getD k 0) (he : ms.getD j 0 = ms.getD k 0) : j = k := by
  rcases h with ⟨_, rfl, _⟩ | ⟨_, _, f, hB, rfl, _⟩
  · exact absurd hj (Nat.not_lt_zero _)
  · rw [List.length_map, List.length_range] at hj hk
    have ev : ∀ i, i < rows.length → ((List.range rows.length).map (fun i => if f i < wid rows 0 then (f i : Int) else -1)).getD i 0 = if f i < wid rows 0 then (f i : Int) else -1 := fun i hi => by
      rw [List.getD_eq_getElem?_getD, List.getElem?_map, List.getElem?_range hi]; rfl
    rw [ev k hk] at h0 he
    rw [ev j hj] at he
    split at h0
    · next hfk =>
      rw [if_pos hfk] at he
      split at he
      · exact hB.bij.inj j k (by omega) (by omega) (by omega)
      · omega
    · omega
theorem once_round {far : Nat} {rs : List Rd} {i : Nat} {S : List ST} {ms : List Int} {cnt t e : Int} (hf : FarOk far) (hn : (rs.getD i rd0).ts.length ≤ 256) (hs : ∀ u ∈ S, Seen i u) (hm : MostAns (rowsS far rs i S) ms cnt t e) :
    PK i S ms ms.length (((ownS rs i).zip ms).foldl (stp i) S) := by
  obtain ⟨hml, hmr⟩ := mates_ok hf hn hm
  have hol : (ownS rs i).length = ms.length := by rw [hml]; simp [ownS]
  have key : ∀ k, k ≤ ms.length → PK i S ms k ((((ownS rs i).zip ms).take k).foldl (stp i) S) := by
    intro k
    induction k with
    | zero =>
      intro _
      refine ⟨Nat.le_refl _, fun u hu => ?_, fun q hq hi => ?_, fun _ _ => rfl, cntS_none fun u hu x hx => ((hs u hu).rng x hx).2⟩
      · have := hs u hu
        exact ⟨this.some, this.rise, fun x hx => by have := this.rng x hx; omega⟩
      · have := ((hs (S.getD q st0) (getD_mem hq)).rng _ hi).2
        omega
    | succ k ih =>
      intro hk
      obtain ⟨x, hx⟩ : ∃ x, x = (ownS rs i).getD k st0 := ⟨_, rfl⟩
      have hxk : (ownS rs i)[k]? = some x := by rw [hx, List.getD_eq_getElem?_getD, List.getElem?_eq_getElem (by omega)]; rfl
      have hmk : ms[k]? = some (ms.getD k 0) := by rw [List.getD_eq_getElem?_getD, List.getElem?_eq_getElem (by omega)]; rfl
      have hz : ((ownS rs i).zip ms)[k]? = some (x, ms.getD k 0) := by rw [List.getElem?_zip_eq_some]; exact ⟨hxk, hmk⟩
      rw [take_snoc hz, List.foldl_append]
      have hxs : x.seen = [(i : Int)] := by
        obtain ⟨y, _, hy⟩ := List.mem_map.1 (List.mem_of_getElem? hxk)
        rw [← hy]; rfl
      refine (ih (by omega)).step hxs rfl ?_ fun h0 j hj he => ?_
      · have := (hmr k (by omega)).1
        rw [List.length_take] at this
        omega
      · have := mates_inj hm (show j < ms.length by omega) (show k < ms.length by omega) h0 he
        omega
  have := key ms.length (Nat.le_refl _)
  rwa [List.take_of_length_le (by rw [List.length_zip]; omega)] at this
theorem once {far : Nat} {rs : List Rd} (hf : FarOk far) (hn : ∀ i, i < rs.length → (rs.getD i rd0).ts.length ≤ 256) {i : Nat} {S : List ST} (h : FusTo far rs i S) : (∀ u ∈ S, Seen i u) ∧ ∀ r, r < i → cntS r S = (rs.getD r rd0).ts.length := by
  induction h with
  | zero => exact ⟨fun _ h => absurd h List.not_mem_nil, fun r hr => absurd hr (Nat.not_lt_zero _)⟩
  | @step i S ms cnt t e hF hi hm ih =>
    have hp := once_round hf (hn i hi) ih.1 hm
    refine ⟨fun u hu => ?_, fun r hr => ?_⟩
    · have := hp.seen u hu
      exact ⟨this.some, this.rise, fun x hx => by have := this.rng x hx; omega⟩
    · by_cases hri : r = i
      · rw [hri, hp.new]; exact (mates_ok hf (hn i hi) hm).1
      · rw [hp.old r (by omega)]; exact ih.2 r (by omega)
end Go.Proofs.Ytknpoemkmcdgcaa
