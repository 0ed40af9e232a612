/-
  A part of the proof: what functions that the statement reaches do, or a plain law on what they do. Each theorem holds under its own premises alone.
-/
import Derived.Test.YtcfdmenmlemahaaTG12
namespace Go.Proofs.Ytcfdmenmlemahaa
open Go Go.Lk Go.Pr
/-! ### Both calls beside one another -/
theorem ext_bij : ∀ (d : Nat) {n k : Nat} {h : Nat → Nat}, k + d = n → (∀ r, r < k → h r < n) → (∀ a b, a < k → b < k → h a = h b → a = b) → ∃ f, Bij n f ∧ ∀ r, r < k → f r = h r
  | 0, n, k, h, hd, hlt, hinj => ⟨h, ⟨fun j hj => hlt j (by omega), fun a b ha hb => hinj a b (by omega) (by omega)⟩, fun _ _ => rfl⟩
  | d + 1, n, k, h, hd, hlt, hinj => by
    obtain ⟨j, hj, hjn⟩ : ∃ j, j < n ∧ ∀ r, r < k → h r ≠ j := by
      apply Classical.byContradiction
      intro hno
      have hc : ∀ j, ∃ r, j < n → r < k ∧ h r = j := fun j => by
        by_cases hj : j < n
        · apply Classical.byContradiction
          intro hn2
          exact hno ⟨j, hj, fun r hr he => hn2 ⟨r, fun _ => ⟨hr, he⟩⟩⟩
        · exact ⟨0, fun h => absurd h hj⟩
      have := php k n (fun j => Classical.choose (hc j)) (fun j hj => (Classical.choose_spec (hc j) hj).1) (fun a b ha hb hab => by
        have h1 := (Classical.choose_spec (hc a) ha).2
        have h2 := (Classical.choose_spec (hc b) hb).2
        have hab' : Classical.choose (hc a) = Classical.choose (hc b) := hab
        rw [← h1, ← h2, hab'])
      omega
    obtain ⟨f, hf, hfe⟩ := ext_bij d (n := n) (k := k + 1) (h := fun r => if r = k then j else h r) (by omega) (fun r hr => by
      by_cases hrk : r = k
      · simp only [hrk, if_true]; exact hj
      · simp only [hrk, if_false]; exact hlt r (by omega)) (fun a b ha hb hab => by
      by_cases h1 : a = k <;> by_cases h2 : b = k
      · omega
      · simp only [h1, h2, if_true, if_false] at hab
        exact absurd hab.symm (hjn b (by omega))
      · simp only [h1, h2, if_true, if_false] at hab
        exact absurd hab (hjn a (by omega))
      · simp only [h1, h2, if_false] at hab
        exact hinj a b (by omega) (by omega) hab)
    exact ⟨f, hf, fun r hr => by rw [hfe r (by omega), if_neg (by omega)]⟩
theorem tot_tail {n k : Nat} {h : Nat → Int} (hk : k ≤ n) (hz : ∀ r, k ≤ r → r < n → h r = 0) : tot n h = tot k h := by
  induction n with
  | zero => rw [show k = 0 by omega]
  | succ n ih =>
    by_cases hkn : k = n + 1
    · rw [hkn]
    · simp only [tot]
      rw [ih (by omega) (fun r h1 h2 => hz r h1 (by omega)), hz n (by omega) (by omega)]; omega
theorem tot_nonneg {n : Nat} {h : Nat → Int} (h0 : ∀ r, r < n → 0 ≤ h r) : 0 ≤ tot n h := by
  induction n with
  | zero => exact Int.le_refl _
  | succ n ih => simp only [tot]; have := ih (fun r hr => h0 r (by omega)); have := h0 n (by omega); omega
theorem tot_single {n i : Nat} {h : Nat → Int} (h0 : ∀ r, r < n → 0 ≤ h r) (hi : i < n) : h i ≤ tot n h := by
  induction n with
  | zero => omega
  | succ n ih =>
    simp only [tot]
    have h1 := tot_nonneg (n := n) (h := h) (fun r hr => h0 r (by omega))
    have h2 := h0 n (by omega)
    by_cases hin : i = n
    · rw [hin]; omega
    · have := ih (fun r hr => h0 r (by omega)) (by omega); omega
theorem tot_bound {n : Nat} {h : Nat → Int} {B : Int} (h0 : ∀ r, r < n → h r ≤ B) : tot n h ≤ n * B := by
  induction n with
  | zero => simp [tot]
  | succ n ih =>
    simp only [tot]
    have h1 := ih (fun r hr => h0 r (by omega))
    have h2 := h0 n (by omega)
    have h3 : ((n + 1 : Nat) : Int) * B = (n : Int) * B + B := by rw [Int.natCast_add, Int.add_mul]; simp
    rw [h3]; omega
theorem ahead_eq {k : Nat} {f g f' g' : Nat → Nat} (hf : ∀ r, r < k → f' r = f r) (hg : ∀ r, r < k → g' r = g r) (h1 : Ahead k f g') (h2 : Ahead k g f') : ∀ r, r < k → f r = g r := by
  rcases h1 with h1 | ⟨i, hi, h1, h3⟩
  · intro r hr; rw [← h1 r hr, hg r hr]
  · rcases h2 with h2 | ⟨j, hj, h2, h4⟩
    · intro r hr; rw [← h2 r hr, hf r hr]
    · exfalso
      rw [hg i hi] at h3
      rw [hf j hj] at h4
      rcases Nat.lt_trichotomy i j with h5 | h5 | h5
      · have := h2 i h5; rw [hf i hi] at this; omega
      · rw [h5] at h3; omega
      · have := h1 j h5; rw [hg j hj] at this; omega
theorem msC_real {rows : List (List Int)} {n i j : Nat} (hi : i < rows.length) (hj : j < n) (h : 0 ≤ el rows i j) : msC rows n i j = el rows i j := by
  unfold msC; rw [if_pos hi, if_neg (by omega), if_neg (by omega)]
theorem lsC_real {rows : List (List Int)} {i j : Nat} (hi : i < rows.length) (h : 0 ≤ el rows i j) : lsC rows i j = el rows i j := by
  unfold lsC; rw [if_pos hi, if_neg (by omega)]
section
variable {rows : List (List Int)} {n : Nat}
theorem tells_match (hF : Fine rows) (hn : n = wid rows 0) (hk : rows.length ≤ n) {f g : Nat → Nat} (hf : Best (n + rows.length) rows.length (msC rows n) f) (hg : Best n rows.length (lsC rows) g) :
    ((∀ i, i < rows.length → f i < n) ↔ ∀ i, i < rows.length → 0 ≤ el rows i (g i)) ∧ ((∀ i, i < rows.length → f i < n) → ∀ i, i < rows.length → f i = g i) := by
  obtain ⟨k, hkk⟩ : ∃ k, k = rows.length := ⟨_, rfl⟩
  have hcost : ∀ r j, r < rows.length → j < n → el rows r j ≤ 1099511627776 := fun r j hr hj => hF.cost r j hr (by rw [hF.same r hr, ← hn]; exact hj)
  have hreal := fun i hi => most_real (rows := rows) (n := n) hcost hf (i := i) hi
  have hlen := hF.len
  have hsum : ∀ h : Nat → Nat, (∀ i, i < rows.length → h i < n) → tot rows.length (fun r => el rows r (h r)) ≤ 281474976710656 := fun h hh => by
    have h1 := tot_bound (n := rows.length) (h := fun r => el rows r (h r)) (B := 1099511627776) (fun r hr => hcost r _ hr (hh r hr))
    omega
  -- what the two squares cost
  have cM : ∀ h : Nat → Nat, cst (n + rows.length) (msC rows n) h = tot rows.length (fun r => msC rows n r (h r)) := fun h => tot_tail (by omega) fun r hr _ => by unfold msC; rw [if_neg (by omega)]
  have cL : ∀ h : Nat → Nat, cst n (lsC rows) h = tot rows.length (fun r => lsC rows r (h r)) := fun h => tot_tail hk fun r hr _ => by unfold lsC; rw [if_neg (by omega)]
  have toL : (∀ i, i < rows.length → f i < n) → ∃ f', Bij n f' ∧ (∀ r, r < rows.length → f' r = f r) ∧ cst n (lsC rows) f' = tot rows.length (fun r => el rows r (f r)) ∧ cst (n + rows.length) (msC rows n) f = tot rows.length (fun r => el rows r (f r)) := fun hall => by
    obtain ⟨f', hf', he⟩ := ext_bij (n - rows.length) (n := n) (k := rows.length) (h := f) (by omega) hall (fun a b ha hb => hf.bij.inj a b (by omega) (by omega))
    refine ⟨f', hf', he, ?_, ?_⟩
    · rw [cL]; exact tot_congr fun r hr => by rw [he r hr, lsC_real hr ((hreal r hr).1 (hall r hr))]
    · rw [cM]; exact tot_congr fun r hr => by rw [msC_real hr (hall r hr) ((hreal r hr).1 (hall r hr))]
  have hA : (∀ i, i < rows.length → 0 ≤ el rows i (g i)) → (∀ i, i < rows.length → f i < n) ∧ ∀ i, i < rows.length → f i = g i := fun hpos => by
    have hgn : ∀ i, i < rows.length → g i < n := fun i hi => hg.bij.lt i (by omega)
    have hgh : Bij (n + rows.length) (fun r => if r < n then g r else r) := by
      refine ⟨fun j hj => ?_, fun a b ha hb hab => ?_⟩
      · by_cases h1 : j < n
        · simp only [h1, if_true]; have := hg.bij.lt j h1; omega
        · simp only [h1, if_false]; exact hj
      · by_cases h1 : a < n <;> by_cases h2 : b < n
        · simp only [h1, h2, if_true] at hab; exact hg.bij.inj a b h1 h2 hab
        · simp only [h1, h2, if_true, if_false] at hab; have := hg.bij.lt a h1; omega
        · simp only [h1, h2, if_true, if_false] at hab; have := hg.bij.lt b h2; omega
        · simp only [h1, h2, if_false] at hab; exact hab
    have e1 : cst (n + rows.length) (msC rows n) (fun r => if r < n then g r else r) = tot rows.length (fun r => el rows r (g r)) := by
      rw [cM]
      exact tot_congr fun r hr => by
        simp only [show r < n by omega, if_true]
        exact msC_real hr (hgn r hr) (hpos r hr)
    have e2 : cst n (lsC rows) g = tot rows.length (fun r => el rows r (g r)) := by rw [cL]; exact tot_congr fun r hr => lsC_real hr (hpos r hr)
    have h3 := hf.least _ hgh
    have h4 := hsum g hgn
    have hall : ∀ i, i < rows.length → f i < n := fun i hi => by
      rcases Nat.lt_or_ge (f i) n with h5 | h5
      · exact h5
      · have h6 := (hreal i hi).2 h5
        have h7 : msC rows n i (f i) = 562949953421312 := by unfold msC; rw [if_pos hi, if_pos h6]
        have h8 := tot_single (n := n + rows.length) (h := fun r => msC rows n r (f r)) (fun r _ => (msC_rng hcost).1) (show i < n + rows.length by omega)
        have h9 : tot (n + rows.length) (fun r => msC rows n r (f r)) = cst (n + rows.length) (msC rows n) f := rfl
        have h10 : msC rows n i (f i) ≤ tot (n + rows.length) (fun r => msC rows n r (f r)) := h8
        omega
    refine ⟨hall, ?_⟩
    obtain ⟨f', hf', he, c1, c2⟩ := toL hall
    have h5 := hg.least _ hf'
    have a1 := hf.first _ hgh (by omega)
    have a2 := hg.first _ hf' (by omega)
    exact ahead_eq (f' := f') (g' := fun r => if r < n then g r else r) he (fun r hr => by simp only [show r < n by omega, if_true]) a1 a2
  have hB : (∀ i, i < rows.length → f i < n) → ∀ i, i < rows.length → 0 ≤ el rows i (g i) := fun hall i hi => by
    obtain ⟨f', hf', he, c1, c2⟩ := toL hall
    have h5 := hg.least _ hf'
    have h4 := hsum f hall
    have hnn : ∀ r, r < n → 0 ≤ lsC rows r (g r) := fun r hr => by
      unfold lsC; split
      · split <;> omega
      · exact Int.le_refl _
    have h8 : lsC rows i (g i) ≤ tot n (fun r => lsC rows r (g r)) := tot_single (h := fun r => lsC rows r (g r)) hnn (show i < n by omega)
    have h9 : tot n (fun r => lsC rows r (g r)) = cst n (lsC rows) g := rfl
    apply Classical.byContradiction
    intro hneg
    have h10 : lsC rows i (g i) = 4503599627370496 := by unfold lsC; rw [if_pos hi, if_pos (by omega)]
    omega
  exact ⟨⟨hB, fun h => (hA h).1⟩, fun h => (hA (hB h)).2⟩
theorem tells_free (hF : Fine rows) (hn : n = wid rows 0) {f : Nat → Nat} (hf : Best (n + rows.length) rows.length (msC rows n) f) {i j : Nat} (hi : i < rows.length) (hj : j < n) (hc : 0 ≤ el rows i j) (hu : ∀ q, q < rows.length → f q ≠ j) :
    f i < n ∧ el rows i (f i) ≤ el rows i j ∧ (el rows i j = el rows i (f i) → f i < j) := by
  have hcost : ∀ r j, r < rows.length → j < n → el rows r j ≤ 1099511627776 := fun r j hr hj => hF.cost r j hr (by rw [hF.same r hr, ← hn]; exact hj)
  obtain ⟨r1, hr1, hfr⟩ := surj hf.bij.lt hf.bij.inj (show j < n + rows.length by omega)
  have hr1k : rows.length ≤ r1 := Nat.le_of_not_lt fun h => hu r1 h hfr
  have hs := hf.swp (show i < n + rows.length by omega) hr1 (by omega)
  have z1 : ∀ c, msC rows n r1 c = 0 := fun c => by unfold msC; rw [if_neg (by omega)]
  rw [z1, z1, hfr, msC_real hi hj hc] at hs
  have hcj := hcost i j hi hj
  have hr := most_real (rows := rows) hcost hf hi
  have hfi : f i < n := Nat.lt_of_not_le fun h => by
    have h6 := hr.2 h
    have h7 : msC rows n i (f i) = 562949953421312 := by unfold msC; rw [if_pos hi, if_pos h6]
    have := hs.1
    omega
  rw [msC_real hi hfi (hr.1 hfi)] at hs
  exact ⟨hfi, by have := hs.1; omega, fun he => by have := hs.2 (by omega) hi (by omega); exact this⟩
theorem tells_pair (hF : Fine rows) (hn : n = wid rows 0) {f : Nat → Nat} (hf : Best (n + rows.length) rows.length (msC rows n) f) {i q : Nat} (hi : i < rows.length) (hq : q < i) (hfi : f i < n) (hfq : f q < n) (h1 : 0 ≤ el rows i (f q)) (h2 : 0 ≤ el rows q (f i)) :
    el rows i (f i) + el rows q (f q) ≤ el rows i (f q) + el rows q (f i) ∧ (el rows i (f i) + el rows q (f q) = el rows i (f q) + el rows q (f i) → f q < f i) := by
  have hcost : ∀ r j, r < rows.length → j < n → el rows r j ≤ 1099511627776 := fun r j hr hj => hF.cost r j hr (by rw [hF.same r hr, ← hn]; exact hj)
  have hs := hf.swp (show q < n + rows.length by omega) (show i < n + rows.length by omega) (by omega)
  have r1 := most_real (rows := rows) hcost hf hi
  have r2 := most_real (rows := rows) hcost hf (show q < rows.length by omega)
  rw [msC_real hi hfi (r1.1 hfi), msC_real (by omega) hfq (r2.1 hfq), msC_real hi hfq h1, msC_real (by omega) hfi h2] at hs
  exact ⟨by have := hs.1; omega, fun he => hs.2 (by omega) (by omega) hq⟩
end
end Go.Proofs.Ytcfdmenmlemahaa
