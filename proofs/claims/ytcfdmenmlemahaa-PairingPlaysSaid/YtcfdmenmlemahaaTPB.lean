/-
  A part of the proof: what functions that the statement reaches do, or a plain law on what they do. Each theorem holds under its own premises alone.
-/
import Derived.Test.YtcfdmenmlemahaaTPA
namespace Go.Pr
/-! ### A row more, by the cheapest way to a free column -/
/-- Columns' rows: some of the first i rows, each once. -/
structure Mat (n i : Nat) (of : Nat → Int) : Prop where
  ran : ∀ j, j < n → of j = -1 ∨ (0 ≤ of j ∧ of j < i)
  inj : ∀ j k, j < n → k < n → of j = of k → of j ≠ -1 → j = k
  cov : ∀ r, r < i → ∃ j, j < n ∧ of j = (r : Int)
structure Sq (n : Nat) (C : Nat → Nat → Int) (i : Nat) (of U V : Nat → Int) : Prop where
  mat : Mat n i of
  feas : ∀ r, r < i → ∀ j, j < n → U r + V j ≤ C r j
  vle : ∀ j, j < n → V j ≤ 0
  free : ∀ j, j < n → of j = -1 → V j = 0
  tight : ∀ j, j < n → 0 ≤ of j → U (of j).toNat + V j = C (of j).toNat j
  uz : ∀ r, i ≤ r → U r = 0
/-- the row that leads on from a column (-1: the new row) -/
def ro (i : Nat) (of : Nat → Int) (b : Int) : Nat := if b < 0 then i else (of b.toNat).toNat
def isT (n : Nat) (done : Nat → Bool) (b : Int) : Prop := b = -1 ∨ (0 ≤ b ∧ b.toNat < n ∧ done b.toNat = true)
structure Tr (n : Nat) (C : Nat → Nat → Int) (i : Nat) (of U V slack back : Nat → Int) (done : Nat → Bool) (pos : Nat → Nat) (t : Nat) (last : Int) : Prop where
  mat : Mat n i of
  feas : ∀ r, r ≤ i → ∀ j, j < n → U r + V j ≤ C r j
  vle : ∀ j, j < n → V j ≤ 0
  free : ∀ j, j < n → of j = -1 → V j = 0
  tight : ∀ j, j < n → 0 ≤ of j → U (of j).toNat + V j = C (of j).toNat j
  uz : ∀ r, i < r → U r = 0
  ui : 0 ≤ U i
  lastr : (last = -1 ∧ ∀ j, j < n → done j = false) ∨ (0 ≤ last ∧ last.toNat < n ∧ done last.toNat = true ∧ ∀ j, j < n → done j = true → j ≠ last.toNat → pos j < pos last.toNat)
  dn : ∀ j, j < n → done j = true → (j : Int) ≠ last → 0 ≤ of j
  tree : ∀ j, j < n → done j = true → isT n done (back j) ∧ (0 ≤ back j → pos (back j).toNat < pos j) ∧ U (ro i of (back j)) + V j = C (ro i of (back j)) j
  sl : ∀ j, j < n → done j = false → (slack j = 4611686018427387904 ∧ last = -1) ∨ (isT n done (back j) ∧ back j ≠ last ∧ slack j = C (ro i of (back j)) j - U (ro i of (back j)) - V j)
  lo : ∀ j, j < n → done j = false → ∀ b, isT n done b → b ≠ last → slack j ≤ C (ro i of b) j - U (ro i of b) - V j
  post : ∀ j, j < n → done j = true → pos j < t
  onto : ∀ s, s < t → ∃ j, j < n ∧ done j = true ∧ pos j = s
section
variable {n i t : Nat} {C : Nat → Nat → Int} {of U V slack back : Nat → Int} {done : Nat → Bool} {pos : Nat → Nat} {last : Int}
theorem Mat.some_free (h : Mat n i of) (hi : i < n) : ∃ j, j < n ∧ of j = -1 := by
  apply Classical.byContradiction
  intro hne
  have h1 : ∀ j, j < n → 0 ≤ of j ∧ of j < i := fun j hj => by
    rcases h.ran j hj with h2 | h2
    · exact absurd ⟨j, hj, h2⟩ hne
    · exact h2
  have := php i n (fun j => (of j).toNat) (fun j hj => by have := h1 j hj; omega) (fun a b ha hb hab => by
    have h2 := h1 a ha
    have h3 := h1 b hb
    exact h.inj a b ha hb (by omega) (by omega))
  omega
theorem Tr.tn (h : Tr n C i of U V slack back done pos t last) : t ≤ n := by
  have hc : ∀ s, ∃ j, s < t → j < n ∧ done j = true ∧ pos j = s := fun s => by
    by_cases hs : s < t
    · obtain ⟨j, hj⟩ := h.onto s hs
      exact ⟨j, fun _ => hj⟩
    · exact ⟨0, fun h => absurd h hs⟩
  refine php n t (fun s => Classical.choose (hc s)) (fun s hs => (Classical.choose_spec (hc s) hs).1) (fun a b ha hb hab => ?_)
  have h1 := Classical.choose_spec (hc a) ha
  have h2 := Classical.choose_spec (hc b) hb
  have hab' : Classical.choose (hc a) = Classical.choose (hc b) := hab
  rw [hab'] at h1
  omega
theorem Tr.ro_le (h : Tr n C i of U V slack back done pos t last) {b : Int} (hb : isT n done b) : ro i of b ≤ i := by
  unfold ro
  rcases hb with rfl | ⟨h1, h2, h3⟩
  · simp
  · rw [if_neg (by omega)]
    rcases h.mat.ran _ h2 with h4 | h4 <;> omega
/-- The bounds of prices. -/
theorem Tr.bounds (h : Tr n C i of U V slack back done pos t last) (hi : i < n) {B : Int} (hC : ∀ r j, r < n → j < n → 0 ≤ C r j ∧ C r j ≤ B) :
    (∀ r, r < n → 0 ≤ U r ∧ U r ≤ B) ∧ ∀ j, j < n → -B ≤ V j ∧ V j ≤ 0 := by
  obtain ⟨f, hf, hf1⟩ := h.mat.some_free hi
  have hB : 0 ≤ B := by have := hC i f hi hf; omega
  have hup : ∀ r, r < n → U r ≤ B := fun r hr => by
    by_cases hri : r ≤ i
    · have h1 := h.feas r hri f hf
      have h2 := h.free f hf hf1
      have h3 := hC r f hr hf
      omega
    · have := h.uz r (by omega); omega
  refine ⟨fun r hr => ⟨?_, hup r hr⟩, fun j hj => ⟨?_, h.vle j hj⟩⟩
  · by_cases hri : r < i
    · obtain ⟨j, hj, hj1⟩ := h.mat.cov r hri
      have h1 := h.tight j hj (by omega)
      have h2 := h.vle j hj
      have h3 := hC r j hr hj
      rw [hj1, Int.toNat_natCast] at h1
      omega
    · by_cases hre : r = i
      · rw [hre]; exact h.ui
      · have := h.uz r (by omega); omega
  · rcases h.mat.ran j hj with h1 | h1
    · have := h.free j hj h1; omega
    · have h2 := h.tight j hj h1.1
      have h3 := hup (of j).toNat (by omega)
      have h4 := hC (of j).toNat j (by omega) hj
      omega
theorem Tr.some_undone (h : Tr n C i of U V slack back done pos t last) (hi : i < n) (hl : last = -1 ∨ 0 ≤ of last.toNat) : ∃ j, j < n ∧ done j = false := by
  obtain ⟨f, hf, hf1⟩ := h.mat.some_free hi
  refine ⟨f, hf, ?_⟩
  cases hd : done f with
  | false => rfl
  | true =>
    exfalso
    have h1 : (f : Int) = last := Classical.byContradiction fun hne => by have := h.dn f hf hd hne; omega
    rcases hl with h2 | h2
    · omega
    · rw [← h1, Int.toNat_natCast] at h2; omega
/-- One round: the newest row is looked through, the nearest column is done, the prices follow. -/
theorem Tr.step (h : Tr n C i of U V slack back done pos t last) (hi : i < n) (hl : last = -1 ∨ 0 ≤ of last.toNat)
    {slack' back' U' V' slack'' : Nat → Int} {best : Nat} {by' : Int}
    (h1 : ∀ j, j < n → done j = false → slack' j = if C (ro i of last) j - U (ro i of last) - V j < slack j then C (ro i of last) j - U (ro i of last) - V j else slack j)
    (h2 : ∀ j, j < n → done j = false → back' j = if C (ro i of last) j - U (ro i of last) - V j < slack j then last else back j)
    (h3 : ∀ j, j < n → done j = true → back' j = back j)
    (hb : best < n) (hbd : done best = false) (hbl : ∀ j, j < n → done j = false → slack' best ≤ slack' j) (hby : by' = slack' best)
    (hU : ∀ b, isT n done b → U' (ro i of b) = U (ro i of b) + by') (hU2 : ∀ r, (∀ b, isT n done b → ro i of b ≠ r) → U' r = U r)
    (hV : ∀ j, j < n → V' j = if done j then V j - by' else V j) (hS : ∀ j, j < n → done j = false → slack'' j = slack' j - by')
    (hlim : ∀ r j, r < n → j < n → C r j - U r - V j < 4611686018427387904) :
    Tr n C i of U' V' slack'' back' (fun j => if j = best then true else done j) (fun j => if j = best then t else pos j) (t + 1) (best : Int) := by
  have hlT : isT n done last := by
    rcases h.lastr with h5 | h5
    · exact .inl h5.1
    · exact .inr ⟨h5.1, h5.2.1, h5.2.2.1⟩
  have hrl := h.ro_le hlT
  -- attained
  have hat : ∀ j, j < n → done j = false → isT n done (back' j) ∧ slack' j = C (ro i of (back' j)) j - U (ro i of (back' j)) - V j := fun j hj hd => by
    rw [h1 j hj hd, h2 j hj hd]
    split
    · exact ⟨hlT, rfl⟩
    · rename_i hn
      rcases h.sl j hj hd with h5 | h5
      · have := hlim (ro i of last) j (by omega) hj
        omega
      · exact ⟨h5.1, h5.2.2⟩
  have hlo : ∀ j, j < n → done j = false → ∀ b, isT n done b → slack' j ≤ C (ro i of b) j - U (ro i of b) - V j := fun j hj hd b hbT => by
    rw [h1 j hj hd]
    by_cases hbe : b = last
    · subst hbe
      split <;> omega
    · have := h.lo j hj hd b hbT hbe
      split <;> omega
  have hby0 : 0 ≤ by' := by
    obtain ⟨h5, h6⟩ := hat best hb hbd
    have := h.feas _ (h.ro_le h5) best hb
    omega
  have hdof : ∀ j, j < n → done j = true → 0 ≤ of j := fun j hj hd => by
    by_cases hjl : (j : Int) = last
    · rcases hl with h5 | h5
      · omega
      · rw [← hjl, Int.toNat_natCast] at h5; exact h5
    · exact h.dn j hj hd hjl
  have hisT : ∀ b, isT n (fun j => if j = best then true else done j) b → b ≠ (best : Int) → isT n done b := fun b hT hne => by
    rcases hT with h5 | ⟨h5, h6, h7⟩
    · exact .inl h5
    · refine .inr ⟨h5, h6, ?_⟩
      have h8 : (if b.toNat = best then true else done b.toNat) = true := h7
      rw [if_neg (by omega)] at h8
      exact h8
  have hisT' : ∀ b, isT n done b → isT n (fun j => if j = best then true else done j) b ∧ b ≠ (best : Int) := fun b hT => by
    rcases hT with h5 | ⟨h5, h6, h7⟩
    · exact ⟨.inl h5, by omega⟩
    · have : b.toNat ≠ best := fun he => by rw [he, hbd] at h7; cases h7
      exact ⟨.inr ⟨h5, h6, by simp only [this, if_false]; exact h7⟩, by omega⟩
  have hrow : ∀ j, j < n → done j = true → ro i of (j : Int) = (of j).toNat ∧ isT n done (j : Int) := fun j hj hd => ⟨by unfold ro; rw [if_neg (by omega), Int.toNat_natCast], .inr ⟨by omega, by omega, by rw [Int.toNat_natCast]; exact hd⟩⟩
  refine ⟨h.mat, ?_, ?_, ?_, ?_, ?_, ?_, ?_, ?_, ?_, ?_, ?_, ?_, ?_⟩
  · intro r hr j hj
    have hf := h.feas r hr j hj
    rw [hV j hj]
    by_cases hex : ∃ b, isT n done b ∧ ro i of b = r
    · obtain ⟨b, hbT, rfl⟩ := hex
      rw [hU b hbT]
      cases hd : done j with
      | true => simp only [if_true]; omega
      | false =>
        simp only [Bool.false_eq_true, if_false]
        have := hlo j hj hd b hbT
        have := hbl j hj hd
        omega
    · rw [hU2 r (fun b hbT he => hex ⟨b, hbT, he⟩)]
      split <;> omega
  · intro j hj
    have := h.vle j hj
    rw [hV j hj]; split <;> omega
  · intro j hj hof
    rw [hV j hj]
    have := h.free j hj hof
    cases hd : done j with
    | true => have := hdof j hj hd; omega
    | false => simpa using this
  · intro j hj hof
    have ht := h.tight j hj hof
    rw [hV j hj]
    cases hd : done j with
    | true =>
      obtain ⟨h5, h6⟩ := hrow j hj hd
      rw [← h5, hU _ h6, h5]
      simp only [if_true]; omega
    | false =>
      rw [hU2 _ (fun b hbT he => ?_)]
      · simpa using ht
      · unfold ro at he
        rcases hbT with rfl | ⟨h5, h6, h7⟩
        · rw [if_pos (by omega)] at he
          rcases h.mat.ran j hj with h8 | h8 <;> omega
        · rw [if_neg (by omega)] at he
          have h9 := hdof _ h6 h7
          have := h.mat.inj b.toNat j h6 hj (by omega) (by omega)
          rw [this, hd] at h7; cases h7
  · intro r hr
    rw [hU2 r (fun b hbT he => by have := h.ro_le hbT; omega)]
    exact h.uz r hr
  · have h5 := hU (-1) (.inl rfl)
    have h6 : ro i of (-1) = i := by unfold ro; rw [if_pos (by omega)]
    rw [h6] at h5
    have := h.ui
    omega
  · right
    refine ⟨by omega, by omega, by simp, fun j hj hd hne => ?_⟩
    rw [Int.toNat_natCast] at hne ⊢
    simp only [hne, if_false, if_true] at hd ⊢
    exact h.post j hj hd
  · intro j hj hd hne
    rw [if_neg (by omega)] at hd
    exact hdof j hj hd
  · intro j hj hd
    by_cases hjb : j = best
    · subst hjb
      obtain ⟨h5, h6⟩ := hat j hb hbd
      refine ⟨(hisT' _ h5).1, fun h7 => ?_, ?_⟩
      · have h8 : (back' j).toNat ≠ j := fun he => (hisT' _ h5).2 (by omega)
        simp only [h8, if_false, if_true]
        rcases h5 with h5 | h5
        · omega
        · exact h.post _ h5.2.1 h5.2.2
      · rw [hU _ h5, hV j hb, hbd]
        simp only [Bool.false_eq_true, if_false]; omega
    · rw [if_neg hjb] at hd
      obtain ⟨h5, h6, h7⟩ := h.tree j hj hd
      rw [h3 j hj hd]
      refine ⟨(hisT' _ h5).1, fun h8 => ?_, ?_⟩
      · have h9 : (back j).toNat ≠ best := fun he => (hisT' _ h5).2 (by omega)
        simp only [h9, hjb, if_false]
        exact h6 h8
      · rw [hU _ h5, hV j hj, hd]
        simp only [if_true]; omega
  · intro j hj hd
    by_cases hjb : j = best
    · simp [hjb] at hd
    · rw [if_neg hjb] at hd
      obtain ⟨h5, h6⟩ := hat j hj hd
      right
      refine ⟨(hisT' _ h5).1, (hisT' _ h5).2, ?_⟩
      rw [hS j hj hd, hU _ h5, hV j hj, hd]
      simp only [Bool.false_eq_true, if_false]; omega
  · intro j hj hd b hbT hne
    by_cases hjb : j = best
    · simp [hjb] at hd
    · rw [if_neg hjb] at hd
      have h5 := hisT b hbT hne
      have := hlo j hj hd b h5
      rw [hS j hj hd, hU _ h5, hV j hj, hd]
      simp only [Bool.false_eq_true, if_false]; omega
  · intro j hj hd
    by_cases hjb : j = best
    · simp [hjb]
    · simp only [hjb, if_false] at hd ⊢
      have := h.post j hj hd
      omega
  · intro s hs
    by_cases hst : s = t
    · exact ⟨best, hb, by simp, by simp [hst]⟩
    · obtain ⟨j, hj, hd, hp⟩ := h.onto s (by omega)
      have hjb : j ≠ best := fun he => by rw [he, hbd] at hd; cases hd
      exact ⟨j, hj, by simp [hjb, hd], by simp [hjb, hp]⟩
end
theorem Sq.enter {n i : Nat} {C : Nat → Nat → Int} {of U V : Nat → Int} (h : Sq n C i of U V) (hC : ∀ j, j < n → 0 ≤ C i j) {slack back : Nat → Int} {done : Nat → Bool} (hs : ∀ j, j < n → slack j = 4611686018427387904) (hd : ∀ j, j < n → done j = false) :
    Tr n C i of U V slack back done (fun _ => 0) 0 (-1) := by
  refine ⟨h.mat, fun r hr j hj => ?_, h.vle, h.free, h.tight, fun r hr => h.uz r (by omega), by rw [h.uz i (by omega)]; exact Int.le_refl _, .inl ⟨rfl, hd⟩, ?_, ?_, ?_, ?_, ?_, ?_⟩
  · rcases Nat.lt_or_ge r i with h1 | h1
    · exact h.feas r h1 j hj
    · obtain rfl : r = i := by omega
      have := h.uz r (by omega)
      have := h.vle j hj
      have := hC j hj
      omega
  · intro j hj h1; rw [hd j hj] at h1; cases h1
  · intro j hj h1; rw [hd j hj] at h1; cases h1
  · intro j hj _; exact .inl ⟨hs j hj, rfl⟩
  · intro j hj _ b hb hne
    rcases hb with h1 | h1
    · exact absurd h1 hne
    · rw [hd _ h1.2.1] at h1; cases h1.2.2
  · intro j hj h1; rw [hd j hj] at h1; cases h1
  · intro s hs; omega
/-! ### Changing about along the way -/
structure Aug (n : Nat) (C : Nat → Nat → Int) (i : Nat) (of U V : Nat → Int) (done : Nat → Bool) (pos : Nat → Nat) (of' : Nat → Int) (h : Int) : Prop where
  fin : h = -1 → Mat n (i + 1) of' ∧ (∀ j, j < n → of' j = -1 → V j = 0) ∧ ∀ j, j < n → 0 ≤ of' j → U (of' j).toNat + V j = C (of' j).toNat j
  at' : h ≠ -1 → 0 ≤ h ∧ h.toNat < n ∧ done h.toNat = true
  keep : h ≠ -1 → ∀ k, k < n → done k = true → pos k ≤ pos h.toNat → of' k = of k
  ran : h ≠ -1 → ∀ k, k < n → of' k = -1 ∨ (0 ≤ of' k ∧ of' k < i)
  inj : h ≠ -1 → ∀ j k, j < n → k < n → j ≠ h.toNat → k ≠ h.toNat → of' j = of' k → of' j ≠ -1 → j = k
  cov : h ≠ -1 → ∀ r, r < i → ∃ j, j < n ∧ j ≠ h.toNat ∧ of' j = (r : Int)
  tight : h ≠ -1 → ∀ j, j < n → j ≠ h.toNat → 0 ≤ of' j → U (of' j).toNat + V j = C (of' j).toNat j
  free : h ≠ -1 → ∀ j, j < n → of' j = -1 → V j = 0
section
variable {n i t : Nat} {C : Nat → Nat → Int} {of U V slack back : Nat → Int} {done : Nat → Bool} {pos : Nat → Nat} {last : Int}
theorem Tr.aug (h : Tr n C i of U V slack back done pos t last) (hl : 0 ≤ last) (hf : of last.toNat = -1) : Aug n C i of U V done pos of last := by
  have hlr := h.lastr.resolve_left (by omega)
  refine ⟨by omega, fun _ => ⟨hl, hlr.2.1, hlr.2.2.1⟩, fun _ _ _ _ _ => rfl, fun _ => h.mat.ran, fun _ j k hj hk _ _ => h.mat.inj j k hj hk, fun _ r hr => ?_, fun _ j hj _ => h.tight j hj, fun _ => h.free⟩
  obtain ⟨j, hj, hr⟩ := h.mat.cov r hr
  exact ⟨j, hj, fun he => by rw [he, hf] at hr; omega, hr⟩
theorem Aug.step {of' of'' : Nat → Int} {hh : Int} (h : Aug n C i of U V done pos of' hh) (ht : Tr n C i of U V slack back done pos t last) (hh0 : 0 ≤ hh)
    (h1 : of'' hh.toNat = if back hh.toNat < 0 then (i : Int) else of' (back hh.toNat).toNat) (h2 : ∀ k, k ≠ hh.toNat → of'' k = of' k) :
    Aug n C i of U V done pos of'' (back hh.toNat) ∧ (0 ≤ back hh.toNat → pos (back hh.toNat).toNat < pos hh.toNat) := by
  have hne : hh ≠ -1 := by omega
  obtain ⟨_, hhn, hhd⟩ := h.at' hne
  obtain ⟨hT, hp, htt⟩ := ht.tree _ hhn hhd
  have keep := h.keep hne
  have inj := h.inj hne
  have cov := h.cov hne
  have tight := h.tight hne
  obtain ⟨x, hx⟩ : ∃ x, hh.toNat = x := ⟨_, rfl⟩
  obtain ⟨b, hb⟩ : ∃ b, back x = b := ⟨_, rfl⟩
  rw [hx] at hhn hhd hT hp htt h1 h2 keep inj cov tight ⊢
  rw [hb] at hT hp htt h1 ⊢
  refine ⟨?_, hp⟩
  rcases hT with hb1 | ⟨hb0, hbn, hbd⟩
  · subst hb1
    rw [if_pos (by omega)] at h1
    have hro : ro i of (-1) = i := by unfold ro; rw [if_pos (by omega)]
    rw [hro] at htt
    refine ⟨fun _ => ⟨⟨?_, ?_, ?_⟩, ?_, ?_⟩, fun h => absurd rfl h, fun h => absurd rfl h, fun h => absurd rfl h, fun h => absurd rfl h, fun h => absurd rfl h, fun h => absurd rfl h, fun h => absurd rfl h⟩
    · intro k hk
      by_cases hkx : k = x
      · rw [hkx, h1]; omega
      · rw [h2 k hkx]
        rcases h.ran hne k hk with h5 | h5 <;> omega
    · intro j k hj hk hjk hjne
      by_cases hjx : j = x <;> by_cases hkx : k = x
      · omega
      · rw [hjx, h1, h2 k hkx] at hjk
        rcases h.ran hne k hk with h5 | h5 <;> omega
      · rw [hkx, h1, h2 j hjx] at hjk
        rcases h.ran hne j hj with h5 | h5 <;> omega
      · rw [h2 j hjx, h2 k hkx] at hjk
        rw [h2 j hjx] at hjne
        exact inj j k hj hk hjx hkx hjk hjne
    · intro r hr
      by_cases hri : r = i
      · exact ⟨x, hhn, by rw [h1, hri]⟩
      · obtain ⟨j, hj, hjx, hjr⟩ := cov r (by omega)
        exact ⟨j, hj, by rw [h2 j hjx]; exact hjr⟩
    · intro j hj hj1
      by_cases hjx : j = x
      · rw [hjx, h1] at hj1; omega
      · rw [h2 j hjx] at hj1; exact h.free hne j hj hj1
    · intro j hj hj1
      by_cases hjx : j = x
      · rw [hjx, h1, Int.toNat_natCast]; exact htt
      · rw [h2 j hjx] at hj1 ⊢; exact tight j hj hjx hj1
  · have hpb := hp hb0
    rw [if_neg (by omega)] at h1
    have hkeep := keep b.toNat hbn hbd (by omega)
    rw [hkeep] at h1
    have hbx : b.toNat ≠ x := fun he => by rw [he] at hpb; omega
    have hro : ro i of b = (of b.toNat).toNat := by unfold ro; rw [if_neg (by omega)]
    rw [hro] at htt
    have hof0 : 0 ≤ of b.toNat := by
      refine ht.dn _ hbn hbd fun he => ?_
      rcases ht.lastr with h5 | h5
      · omega
      · by_cases hxl : x = last.toNat
        · exact hbx (by omega)
        · have := h5.2.2.2 x hhn hhd hxl
          rw [show b.toNat = last.toNat by omega] at hpb
          omega
    have hbne : b ≠ -1 := by omega
    refine ⟨fun h => absurd h hbne, fun _ => ⟨hb0, hbn, hbd⟩, ?_, ?_, ?_, ?_, ?_, ?_⟩
    · intro _ k hk hkd hkp
      have hkx : k ≠ x := fun he => by rw [he] at hkp; omega
      rw [h2 k hkx]
      exact keep k hk hkd (by omega)
    · intro _ k hk
      by_cases hkx : k = x
      · rw [hkx, h1, ← hkeep]; exact h.ran hne _ hbn
      · rw [h2 k hkx]; exact h.ran hne k hk
    · intro _ j k hj hk hjb hkb hjk hjne
      by_cases hjx : j = x <;> by_cases hkx : k = x
      · omega
      · rw [hjx, h1, h2 k hkx, ← hkeep] at hjk
        rw [hjx, h1, ← hkeep] at hjne
        exact absurd (inj b.toNat k hbn hk hbx hkx hjk hjne).symm hkb
      · rw [hkx, h1, h2 j hjx, ← hkeep] at hjk
        rw [h2 j hjx] at hjne
        exact absurd (inj j b.toNat hj hbn hjx hbx hjk hjne) hjb
      · rw [h2 j hjx, h2 k hkx] at hjk
        rw [h2 j hjx] at hjne
        exact inj j k hj hk hjx hkx hjk hjne
    · intro _ r hr
      obtain ⟨j, hj, hjx, hjr⟩ := cov r hr
      by_cases hjb : j = b.toNat
      · exact ⟨x, hhn, fun he => hbx he.symm, by rw [h1, ← hkeep, ← hjb]; exact hjr⟩
      · exact ⟨j, hj, hjb, by rw [h2 j hjx]; exact hjr⟩
    · intro _ j hj hjb hj1
      by_cases hjx : j = x
      · rw [hjx, h1]; exact htt
      · rw [h2 j hjx] at hj1 ⊢; exact tight j hj hjx hj1
    · intro _ j hj hj1
      by_cases hjx : j = x
      · rw [hjx, h1] at hj1; omega
      · rw [h2 j hjx] at hj1; exact h.free hne j hj hj1
theorem Aug.over {of' : Nat → Int} (h : Aug n C i of U V done pos of' (-1)) (ht : Tr n C i of U V slack back done pos t last) : Sq n C (i + 1) of' U V := by
  obtain ⟨h1, h2, h3⟩ := h.fin rfl
  exact ⟨h1, fun r hr => ht.feas r (by omega), ht.vle, h2, h3, fun r hr => ht.uz r (by omega)⟩
end
end Go.Pr
