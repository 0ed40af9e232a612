/-
  A part of the proof: what functions that the statement reaches do, or a plain law on what they do. Each theorem holds under its own premises alone.
-/
import Derived.Test.YtcfdmenmlemahaaTG15
namespace Go.Proofs.Ytcfdmenmlemahaa
open Go Go.Lk Go.Pr
/-- What both calls tell of a table that may be. -/
structure Told (rows : List (List Int)) (A : List Int) (cnt u : Int) (ms : List Int) (t e : Int) : Prop where
  len : A.length = rows.length
  ent : ∀ i, i < rows.length → A.getD i 0 = -1 ∨ ∃ j : Nat, A.getD i 0 = (j : Int) ∧ j < 256 ∧ j < wid rows i ∧ 0 ≤ el rows i j
  cnt' : cnt = tot rows.length (fun i => if A.getD i 0 < 0 then 0 else 1)
  uu : u = tot rows.length (fun i => if A.getD i 0 = -1 then 0 else el rows i (A.getD i 0).toNat)
  inj : ∀ i q, i < rows.length → q < rows.length → A.getD i 0 = A.getD q 0 → A.getD i 0 ≠ -1 → i = q
  er : e = 0 ∨ e = 170
  ok : e = 0 → t = u ∧ cnt = rows.length ∧ ms = A
  no : e = 170 → cnt ≠ rows.length
  free : ∀ i j : Nat, i < rows.length → j < wid rows i → 0 ≤ el rows i j → (∀ q, q < rows.length → A.getD q 0 ≠ (j : Int)) → ∃ c : Nat, A.getD i 0 = (c : Int) ∧ c < wid rows i ∧ el rows i c ≤ el rows i j ∧ (el rows i j = el rows i c → c < j)
  pair : ∀ i q c d : Nat, i < rows.length → q < i → A.getD i 0 = (c : Int) → A.getD q 0 = (d : Int) → 0 ≤ el rows i d → 0 ≤ el rows q c → el rows i c + el rows q d ≤ el rows i d + el rows q c ∧ (el rows i c + el rows q d = el rows i d + el rows q c → d < c)
theorem tot_ones {n : Nat} {h : Nat → Int} (h1 : ∀ r, r < n → h r = 1) : tot n h = n := by
  induction n with
  | zero => rfl
  | succ n ih => simp only [tot]; rw [ih (fun r hr => h1 r (by omega)), h1 n (by omega)]; omega
theorem told_of {rows : List (List Int)} {ms A : List Int} {t e cnt u f0 : Int} (hF : Fine rows) (hl : LeastAns rows ms t e) (hm : MostAns rows A cnt u f0) : Told rows A cnt u ms t e ∧ f0 = 0 := by
  have hc := chk_fine hF
  rcases hm with ⟨h1 | h1, rfl, rfl, rfl, h2⟩ | ⟨_, h0, f, hf, hA, hcnt, hu, hf0⟩
  · exact absurd hc h1
  · have he : e = 0 ∧ t = 0 ∧ ms = [] := by
      rcases hl with ⟨_, h3, h4, h5⟩ | ⟨_, h3, _⟩ | ⟨_, h3, _⟩
      · exact ⟨by rw [h5, hc], h4, h3⟩
      · exact absurd h1 h3
      · exact absurd h1 h3
    refine ⟨⟨by simp [h1], fun i hi => by omega, by rw [h1]; rfl, by rw [h1]; rfl, fun i _ hi => by omega, .inl he.1, fun _ => ⟨he.2.1, by rw [h1]; rfl, he.2.2⟩, fun h => by omega, fun i _ hi => by omega, fun i _ _ _ hi => by omega⟩, by rw [h2, hc]⟩
  · obtain ⟨n, hn⟩ : ∃ n, n = wid rows 0 := ⟨_, rfl⟩
    rw [← hn] at hf hA hcnt hu
    have hn256 : n ≤ 256 := by rw [hn]; exact hF.wid 0 (by omega)
    have hcost : ∀ r j, r < rows.length → j < n → el rows r j ≤ 1099511627776 := fun r j hr hj => hF.cost r j hr (by rw [hF.same r hr, ← hn]; exact hj)
    have hreal := fun i hi => most_real (rows := rows) hcost hf (i := i) hi
    have hAg : ∀ i, i < rows.length → A.getD i 0 = if f i < n then (f i : Int) else -1 := fun i hi => by rw [hA]; simp [List.getD, hi]
    have hwn : ∀ i, i < rows.length → wid rows i = n := fun i hi => by rw [hF.same i hi, hn]
    have hnat : ∀ i (c : Nat), i < rows.length → A.getD i 0 = (c : Int) → f i = c ∧ c < n := fun i c hi h => by
      rw [hAg i hi] at h
      split at h
      · omega
      · omega
    refine ⟨⟨by rw [hA]; simp, fun i hi => ?_, ?_, ?_, fun i q hi hq h1 h2 => ?_, ?_, fun he => ?_, fun he hck => ?_, fun i j hi hj hc0 hu0 => ?_, fun i q c d hi hq h1 h2 h3 h4 => ?_⟩, hf0⟩
    · rw [hAg i hi]
      by_cases h1 : f i < n
      · rw [if_pos h1]; exact .inr ⟨f i, rfl, by omega, by rw [hwn i hi]; exact h1, (hreal i hi).1 h1⟩
      · rw [if_neg h1]; exact .inl rfl
    · rw [hcnt]
      refine tot_congr fun i hi => ?_
      rw [hAg i hi]
      by_cases h1 : f i < n
      · rw [if_pos h1, if_pos h1, if_neg (by omega)]
      · rw [if_neg h1, if_neg h1, if_pos (by omega)]
    · rw [hu]
      refine tot_congr fun i hi => ?_
      rw [hAg i hi]
      by_cases h1 : f i < n
      · rw [if_pos h1, if_pos h1, if_neg (by omega), Int.toNat_natCast]
      · rw [if_neg h1, if_neg h1, if_pos rfl]
    · rw [hAg i hi] at h1 h2
      rw [hAg q hq] at h1
      by_cases h3 : f i < n
      · rw [if_pos h3] at h1
        by_cases h4 : f q < n
        · rw [if_pos h4] at h1
          exact hf.bij.inj i q (by omega) (by omega) (by omega)
        · rw [if_neg h4] at h1; omega
      · rw [if_neg h3] at h2; exact absurd rfl h2
    · rcases hl with ⟨_, _, _, h5⟩ | ⟨_, _, _, _, _, h5⟩ | ⟨_, _, _, g, _, ⟨_, _, _, h5⟩ | ⟨_, _, _, h5⟩⟩
      · exact .inl (by rw [h5, hc])
      · exact .inr h5
      · exact .inr h5
      · exact .inl h5
    · rcases hl with ⟨h5 | h5, _⟩ | ⟨_, _, _, _, _, h5⟩ | ⟨_, _, hk, g, hg, ⟨_, _, _, h5⟩ | ⟨hp, hms, ht, _⟩⟩
      · exact absurd hc h5
      · exact absurd h5 h0
      · omega
      · omega
      · rw [← hn] at hg hk
        obtain ⟨m1, m2⟩ := tells_match hF hn hk hf hg
        have hall := m1.2 hp
        have heq := m2 hall
        refine ⟨?_, ?_, ?_⟩
        · rw [ht, hu]
          exact tot_congr fun i hi => by rw [if_pos (hall i hi), heq i hi]
        · rw [hcnt]
          exact tot_ones fun i hi => if_pos (hall i hi)
        · rw [hms, hA]
          exact List.map_congr_left fun i hi => by rw [if_pos (hall i (List.mem_range.1 hi)), heq i (List.mem_range.1 hi)]
    · have hall : ∀ i, i < rows.length → f i < n := fun i hi => by
        have h1 := tot_lt (n := rows.length) (f := fun i => if f i < n then (1 : Int) else 0) (g := fun _ => 1) (fun i _ => by split <;> omega) (by rw [tot_ones (fun _ _ => rfl), ← hcnt, hck]; exact Int.le_refl _) i hi
        apply Classical.byContradiction
        intro h2
        simp only [h2, if_false] at h1
        omega
      rcases hl with ⟨_, _, _, h5⟩ | ⟨_, _, hlt, _⟩ | ⟨_, _, hk, g, hg, ⟨⟨i, hi, hneg⟩, _⟩ | ⟨_, _, _, h5⟩⟩
      · omega
      · rw [← hn] at hlt
        have := php n rows.length f hall (fun a b ha hb => hf.bij.inj a b (by omega) (by omega))
        omega
      · rw [← hn] at hg hk
        have := (tells_match hF hn hk hf hg).1.1 hall i hi
        omega
      · omega
    · rw [hwn i hi] at hj ⊢
      obtain ⟨h1, h2, h3⟩ := tells_free hF hn hf hi hj hc0 (fun q hq he => hu0 q hq (by rw [hAg q hq, if_pos (by omega), he]))
      exact ⟨f i, by rw [hAg i hi, if_pos h1], h1, h2, h3⟩
    · obtain ⟨e1, l1⟩ := hnat i c hi h1
      obtain ⟨e2, l2⟩ := hnat q d (by omega) h2
      have := tells_pair hF hn hf hi hq (by omega) (by omega) (by rw [e2]; exact h3) (by rw [e1]; exact h4)
      rw [e1, e2] at this
      exact this
theorem total_of_told {rows : List (List Int)} {A ms : List Int} {cnt u t e tt ee : Int} (hF : Fine rows) (h : Told rows A cnt u ms t e) (hT : TotalAns rows A tt ee) : tt = u ∧ ee = 0 := by
  have hc := chk_fine hF
  rcases hT with ⟨h1, _⟩ | ⟨_, h1, _⟩ | ⟨_, _, ⟨i, hi, hb, h1⟩, _⟩ | ⟨_, _, _, h1, h2⟩
  · exact absurd hc h1
  · exact absurd h.len h1
  · exfalso
    rcases h.ent i hi with h2 | ⟨j, h2, _, h3, h4⟩
    · exact hb h2
    · rw [h2, Int.toNat_natCast] at h1
      rcases h1 with h1 | h1 | h1 | ⟨q, hq, h1⟩
      · omega
      · omega
      · omega
      · have := h.inj q i (by omega) hi (by rw [h1, h2]) (by rw [h1]; omega)
        omega
  · exact ⟨by rw [h1, h.uu], h2⟩
end Go.Proofs.Ytcfdmenmlemahaa
