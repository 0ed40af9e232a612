/-
  A part of the proof: what functions that the statement reaches do, or a plain law on what they do. Each theorem holds under its own premises alone.
-/
import Derived.Test.YtcfdmenmlemahaaTPE
namespace Go.Pr
/-! ### A row more by distances: the same way, told without the prices on the way -/
/-- What the prices have become on the way, against what they were. -/
structure Rn (n i : Nat) (of U V dist : Nat → Int) (done : Nat → Bool) (rho : Int) (Ur Vr : Nat → Int) : Prop where
  vd : ∀ j, j < n → Vr j = if done j then V j - (rho - dist j) else V j
  ui : Ur i = U i + rho
  ud : ∀ j, j < n → done j = true → 0 ≤ of j → Ur (of j).toNat = U (of j).toNat + (rho - dist j)
  uo : ∀ r, r ≠ i → (∀ j, j < n → done j = true → of j ≠ (r : Int)) → Ur r = U r
/-- The state ahead of a choice: all rows of the tree are looked through. -/
structure En (n : Nat) (C : Nat → Nat → Int) (i : Nat) (of U V dist frm : Nat → Int) (done : Nat → Bool) (rho : Int) (t : Nat) : Prop where
  ex : ∃ (Ur Vr slack back slack' back' : Nat → Int) (pos : Nat → Nat) (last : Int), Tr n C i of Ur Vr slack back done pos t last ∧ (last = -1 ∨ 0 ≤ of last.toNat) ∧
    (∀ j, j < n → done j = false → slack' j = if C (ro i of last) j - Ur (ro i of last) - Vr j < slack j then C (ro i of last) j - Ur (ro i of last) - Vr j else slack j) ∧
    (∀ j, j < n → done j = false → back' j = if C (ro i of last) j - Ur (ro i of last) - Vr j < slack j then last else back j) ∧
    (∀ j, j < n → done j = true → back' j = back j) ∧
    (∀ j, j < n → done j = false → slack' j = dist j - rho ∧ frm j = (ro i of (back' j) : Int)) ∧ (∀ j, j < n → done j = true → frm j = (ro i of (back j) : Int)) ∧ Rn n i of U V dist done rho Ur Vr
/-- Behind a choice. -/
structure Ch (n : Nat) (C : Nat → Nat → Int) (i : Nat) (of U V dist frm : Nat → Int) (done : Nat → Bool) (k : Nat) (t : Nat) : Prop where
  ex : ∃ (Ur Vr slack back : Nat → Int) (pos : Nat → Nat), Tr n C i of Ur Vr slack back done pos t (k : Int) ∧ (∀ j, j < n → done j = false → slack j = dist j - dist k ∧ frm j = (ro i of (back j) : Int)) ∧ (∀ j, j < n → done j = true → frm j = (ro i of (back j) : Int)) ∧ Rn n i of U V dist done (dist k) Ur Vr
section
variable {n i t : Nat} {C : Nat → Nat → Int} {of U V dist frm : Nat → Int} {done : Nat → Bool} {rho : Int}
theorem Sq.en (h : Sq n C i of U V) (hi : i < n) {B : Int} (hB : B ≤ 4503599627370496) (hC : ∀ r j, r < n → j < n → 0 ≤ C r j ∧ C r j ≤ B) (hd : ∀ j, j < n → done j = false) (hdist : ∀ j, j < n → dist j = C i j - U i - V j) (hfrm : ∀ j, j < n → frm j = (i : Int)) : En n C i of U V dist frm done 0 0 := by
  have hT := h.enter (fun j hj => (hC i j hi hj).1) (slack := fun _ => 4611686018427387904) (back := fun _ => -1) (done := done) (fun _ _ => rfl) hd
  obtain ⟨bU, bV⟩ := hT.bounds hi hC
  have hro : ro i of (-1) = i := by unfold ro; rw [if_pos (by omega)]
  refine ⟨U, V, _, _, fun j => C i j - U i - V j, fun _ => -1, _, _, hT, .inl rfl, fun j hj _ => ?_, fun j hj _ => ?_, fun _ _ _ => rfl, fun j hj _ => ⟨?_, ?_⟩, fun j hj h1 => ?_, ?_⟩
  · rw [hro, if_pos (by have := hC i j hi hj; have := bU i hi; have := bV j hj; omega)]
  · rw [hro, if_pos (by have := hC i j hi hj; have := bU i hi; have := bV j hj; omega)]
  · show C i j - U i - V j = dist j - 0
    rw [hdist j hj]; omega
  · show frm j = (ro i of (-1) : Int)
    rw [hfrm j hj, hro]
  · rw [hd j hj] at h1; cases h1
  · refine ⟨fun j hj => by rw [hd j hj]; rfl, by omega, fun j hj h1 => ?_, fun r _ _ => rfl⟩
    rw [hd j hj] at h1; cases h1
theorem En.choose (h : En n C i of U V dist frm done rho t) (hi : i < n) {B : Int} (hB : B ≤ 4503599627370496) (hC : ∀ r j, r < n → j < n → 0 ≤ C r j ∧ C r j ≤ B) {k : Nat} (hk : k < n) (hkd : done k = false) (hkm : ∀ j, j < n → done j = false → dist k ≤ dist j) :
    Ch n C i of U V dist frm (fun j => if j = k then true else done j) k (t + 1) ∧ rho ≤ dist k := by
  obtain ⟨Ur, Vr, slack, back, slack', back', pos, last, hT, hl, h1, h2, h3, h4, h5, hR⟩ := h.ex
  obtain ⟨bU, bV⟩ := hT.bounds hi hC
  have hlT : isT n done last := by
    rcases hT.lastr with h6 | h6
    · exact .inl h6.1
    · exact .inr ⟨h6.1, h6.2.1, h6.2.2.1⟩
  have hby0 : 0 ≤ slack' k := by
    rw [h1 k hk hkd]
    have a1 := hT.feas (ro i of last) (hT.ro_le hlT) k hk
    have a2 : 0 ≤ slack k := by
      rcases hT.sl k hk hkd with h6 | h6
      · omega
      · have := hT.feas _ (hT.ro_le h6.1) k hk; omega
    split <;> omega
  have hsk := (h4 k hk hkd).1
  have hdof : ∀ j, j < n → done j = true → 0 ≤ of j ∧ of j < i := fun j hj hd => by
    have h6 : 0 ≤ of j := by
      by_cases hjl : (j : Int) = last
      · rcases hl with h7 | h7
        · omega
        · rw [← hjl, Int.toNat_natCast] at h7; exact h7
      · exact hT.dn j hj hd hjl
    rcases hT.mat.ran j hj with h7 | h7 <;> omega
  -- the new prices
  have hex : ∀ r, ∃ x, (r = i → x = Ur r + slack' k) ∧ ((∃ j, j < n ∧ done j = true ∧ of j = (r : Int)) → x = Ur r + slack' k) ∧ (r ≠ i → (¬∃ j, j < n ∧ done j = true ∧ of j = (r : Int)) → x = Ur r) := fun r => by
    by_cases ha : r = i
    · exact ⟨Ur r + slack' k, fun _ => rfl, fun _ => rfl, fun h => absurd ha h⟩
    · by_cases hb : ∃ j, j < n ∧ done j = true ∧ of j = (r : Int)
      · exact ⟨Ur r + slack' k, fun _ => rfl, fun _ => rfl, fun _ h => absurd hb h⟩
      · exact ⟨Ur r, fun h => absurd h ha, fun h => absurd h hb, fun _ _ => rfl⟩
  have hU' := fun r => Classical.choose_spec (hex r)
  have hst := hT.step hi hl (slack' := slack') (back' := back') (U' := fun r => Classical.choose (hex r)) (V' := fun j => if done j then Vr j - slack' k else Vr j) (slack'' := fun j => slack' j - slack' k) (best := k) (by' := slack' k)
    h1 h2 h3 hk hkd (fun j hj hd => by rw [hsk, (h4 j hj hd).1]; have := hkm j hj hd; omega) rfl
    (fun b hb => by
      rcases hb with rfl | ⟨c1, c2, c3⟩
      · exact (hU' _).1 (by unfold ro; rw [if_pos (by omega)])
      · have c4 := hdof _ c2 c3
        refine (hU' _).2.1 ⟨b.toNat, c2, c3, ?_⟩
        unfold ro; rw [if_neg (by omega)]; omega)
    (fun r hr => (hU' r).2.2 (fun he => hr (-1) (.inl rfl) (by unfold ro; rw [if_pos (by omega)]; exact he.symm)) (fun ⟨j, c1, c2, c3⟩ => hr (j : Int) (.inr ⟨by omega, by omega, by rw [Int.toNat_natCast]; exact c2⟩) (by unfold ro; rw [if_neg (by omega), Int.toNat_natCast, c3, Int.toNat_natCast])))
    (fun _ _ => rfl) (fun _ _ _ => rfl)
    (fun r j hr hj => by have := hC r j hr hj; have := bU r hr; have := bV j hj; omega)
  refine ⟨⟨_, _, _, _, _, hst, fun j hj hd => ?_, fun j hj hd => ?_, ?_⟩, by omega⟩
  · by_cases hjk : j = k
    · simp [hjk] at hd
    · simp only [hjk, if_false] at hd
      exact ⟨by rw [(h4 j hj hd).1, hsk]; omega, (h4 j hj hd).2⟩
  · by_cases hjk : j = k
    · rw [hjk]; exact (h4 k hk hkd).2
    · simp only [hjk, if_false] at hd
      rw [h3 j hj hd]; exact h5 j hj hd
  · refine ⟨fun j hj => ?_, ?_, fun j hj hd hof => ?_, fun r hr hno => ?_⟩
    · show (if done j = true then Vr j - slack' k else Vr j) = if (if j = k then true else done j) = true then V j - (dist k - dist j) else V j
      rw [hR.vd j hj]
      by_cases hjk : j = k
      · rw [hjk, hkd]; simp
      · cases hd : done j with
        | true => simp only [hjk, if_true, if_false]; omega
        | false => simp [hjk]
    · rw [(hU' i).1 rfl, hR.ui]; omega
    · by_cases hjk : j = k
      · subst hjk
        have hne : (of j).toNat ≠ i := by rcases hT.mat.ran j hj with c | c <;> omega
        have hno : ¬∃ q, q < n ∧ done q = true ∧ of q = (((of j).toNat : Nat) : Int) := fun ⟨q, c1, c2, c3⟩ => by
          have := hT.mat.inj q j c1 hj (by omega) (by omega)
          rw [this, hkd] at c2; cases c2
        have e1 := (hU' (of j).toNat).2.2 hne hno
        rw [e1, hR.uo _ hne (fun q c1 c2 c3 => hno ⟨q, c1, c2, c3⟩)]; omega
      · simp only [hjk, if_false] at hd
        have e1 := (hU' (of j).toNat).2.1 ⟨j, hj, hd, by omega⟩
        rw [e1, hR.ud j hj hd hof]; omega
    · have hno' : ¬∃ q, q < n ∧ done q = true ∧ of q = (r : Int) := fun ⟨q, c1, c2, c3⟩ => hno q c1 (by
        by_cases hqk : q = k
        · simp [hqk]
        · simp only [hqk, if_false]; exact c2) c3
      rw [(hU' r).2.2 hr hno', hR.uo r hr (fun q c1 c2 c3 => hno' ⟨q, c1, c2, c3⟩)]
theorem Ch.scan {k : Nat} (h : Ch n C i of U V dist frm done k t) (hk : k < n) (hkd : done k = true) (hof : 0 ≤ of k) {dist' frm' : Nat → Int}
    (hd' : ∀ j, j < n → dist' j = if done j = false ∧ dist k + C (of k).toNat j - U (of k).toNat - V j < dist j then dist k + C (of k).toNat j - U (of k).toNat - V j else dist j)
    (hf' : ∀ j, j < n → frm' j = if done j = false ∧ dist k + C (of k).toNat j - U (of k).toNat - V j < dist j then of k else frm j) :
    En n C i of U V dist' frm' done (dist k) t := by
  obtain ⟨Ur, Vr, slack, back, pos, hT, h1, h2, hR⟩ := h.ex
  have hro : ro i of (k : Int) = (of k).toNat := by unfold ro; rw [if_neg (by omega), Int.toNat_natCast]
  have hUr : Ur (of k).toNat = U (of k).toNat := by rw [hR.ud k hk hkd hof]; omega
  have hdk : ∀ j, j < n → done j = true → dist' j = dist j := fun j hj hd => by rw [hd' j hj, if_neg (fun c => by rw [hd] at c; cases c.1)]
  refine ⟨Ur, Vr, slack, back, fun j => if C (of k).toNat j - Ur (of k).toNat - Vr j < slack j then C (of k).toNat j - Ur (of k).toNat - Vr j else slack j, fun j => if done j = false then (if C (of k).toNat j - Ur (of k).toNat - Vr j < slack j then (k : Int) else back j) else back j, pos, (k : Int), hT, .inr (by rw [Int.toNat_natCast]; exact hof), fun j _ _ => by rw [hro], fun j hj hd => by rw [hro]; simp only [hd, if_true], fun j hj hd => by simp [hd], fun j hj hd => ?_, fun j hj hd => ?_, ?_⟩
  · obtain ⟨e1, e2⟩ := h1 j hj hd
    have e3 : Vr j = V j := by rw [hR.vd j hj, hd]; simp
    simp only [hd, if_true]
    rw [hd' j hj, hf' j hj, hUr, e3, e1]
    by_cases hc : C (of k).toNat j - U (of k).toNat - V j < dist j - dist k
    · rw [if_pos hc, if_pos hc, if_pos ⟨hd, by omega⟩, if_pos ⟨hd, by omega⟩, hro]
      exact ⟨by omega, by omega⟩
    · rw [if_neg hc, if_neg hc, if_neg (fun c => hc (by omega)), if_neg (fun c => hc (by omega))]
      exact ⟨rfl, e2⟩
  · rw [hf' j hj, if_neg (fun c => by rw [hd] at c; cases c.1)]
    exact h2 j hj hd
  · refine ⟨fun j hj => ?_, hR.ui, fun j hj hd ho => ?_, hR.uo⟩
    · rw [hR.vd j hj]
      cases hd : done j with
      | true => rw [hdk j hj hd]
      | false => rfl
    · rw [hR.ud j hj hd ho, hdk j hj hd]
/-- Some column is not done, and its distance is known. -/
theorem En.some (h : En n C i of U V dist frm done rho t) (hi : i < n) : (∃ j, j < n ∧ done j = false) ∧ t ≤ n := by
  obtain ⟨Ur, Vr, slack, back, slack', back', pos, last, hT, hl, _⟩ := h.ex
  exact ⟨hT.some_undone hi hl, hT.tn⟩
end
end Go.Pr
