/-
  A part of the proof: what functions that the statement reaches do, or a plain law on what they do. Each theorem holds under its own premises alone.
-/
import Derived.Test.YtcfdmenmlemahaaTPB
namespace Go.Pr
/-! ### Of all least pairings the one that is ahead -/
structure Pf (n : Nat) (C : Nat → Nat → Int) (U V : Nat → Int) (of has : Nat → Nat) : Prop where
  oh : ∀ j, j < n → of j < n ∧ has (of j) = j
  ho : ∀ r, r < n → has r < n ∧ of (has r) = r
  tight : ∀ r, r < n → C r (has r) = U r + V (has r)
  feas : ∀ r, r < n → ∀ j, j < n → U r + V j ≤ C r j
/-- A pairing of tight pairs alone. -/
def TB (n : Nat) (C : Nat → Nat → Int) (U V : Nat → Int) (M : Nat → Nat) : Prop := Bij n M ∧ ∀ r, r < n → C r (M r) = U r + V (M r)
theorem Pf.bij {n : Nat} {C : Nat → Nat → Int} {U V : Nat → Int} {of has : Nat → Nat} (h : Pf n C U V of has) : Bij n has :=
  ⟨fun r hr => (h.ho r hr).1, fun a b ha hb hab => by rw [← (h.ho a ha).2, ← (h.ho b hb).2, hab]⟩
/-- What is closed and lacks the goal: no tight pairing turns. -/
theorem Pf.no_turn {n : Nat} {C : Nat → Nat → Int} {U V : Nat → Int} {of has : Nat → Nat} (h : Pf n C U V of has) {i j : Nat} (hi : i < n) (hj : j < n) (R : Nat → Prop) (h0 : R j) (hg : ¬R (has i))
    (hcl : ∀ k, k < n → R k → i < of k → ∀ m, m < n → C (of k) m = U (of k) + V m → R m) {M : Nat → Nat} (hM : TB n C U V M) (hlow : ∀ r, r < i → M r = has r) : M i ≠ j := by
  intro hMi
  have hd : ∀ k, R k ∨ ¬R k := fun k => Classical.em _
  have hσ : ∀ k, k < n → M (of k) < n := fun k hk => hM.1.lt _ (h.oh k hk).1
  have hRR : ∀ k, k < n → R k → R (M (of k)) := fun k hk hR => by
    rcases Nat.lt_trichotomy (of k) i with h1 | h1 | h1
    · rw [hlow _ h1, (h.oh k hk).2]; exact hR
    · exact absurd (by rw [← h1, (h.oh k hk).2]; exact hR) hg
    · exact hcl k hk hR h1 _ (hσ k hk) (hM.2 _ (h.oh k hk).1)
  have hmiss : ∀ k, k < n → R k → M (of k) ≠ j := fun k hk hR he => by
    have h1 : of k = i := hM.1.inj _ _ (h.oh k hk).1 hi (by rw [he, hMi])
    exact hg (by rw [← h1, (h.oh k hk).2]; exact hR)
  have hinj : ∀ a b, a < n → b < n → M (of a) = M (of b) → a = b := fun a b ha hb hab => by
    have h1 := hM.1.inj _ _ (h.oh a ha).1 (h.oh b hb).1 hab
    rw [← (h.oh a ha).2, ← (h.oh b hb).2, h1]
  have hdec : ∀ k, ∃ x, (R k ∧ x = M (of k)) ∨ (¬R k ∧ x = k) := fun k => (hd k).elim (fun h => ⟨_, .inl ⟨h, rfl⟩⟩) (fun h => ⟨_, .inr ⟨h, rfl⟩⟩)
  have hf := fun k => Classical.choose_spec (hdec k)
  obtain ⟨a, ha, hfa⟩ := surj (f := fun k => Classical.choose (hdec k)) (n := n) (fun k hk => by
    rcases hf k with h1 | h1
    · show Classical.choose (hdec k) < n
      rw [h1.2]; exact hσ k hk
    · show Classical.choose (hdec k) < n
      rw [h1.2]; exact hk) (fun a b ha hb hab => by
    have hab' : Classical.choose (hdec a) = Classical.choose (hdec b) := hab
    rcases hf a with h1 | h1 <;> rcases hf b with h2 | h2 <;> rw [h1.2, h2.2] at hab'
    · exact hinj a b ha hb hab'
    · exact absurd (hab' ▸ hRR a ha h1.1) h2.1
    · exact absurd (hab'.symm ▸ hRR b hb h2.1) h1.1
    · exact hab') hj
  have hfa' : Classical.choose (hdec a) = j := hfa
  rcases hf a with h1 | h1
  · exact hmiss a ha h1.1 (by rw [← h1.2]; exact hfa')
  · exact h1.1 (by rw [← h1.2, hfa']; exact h0)
/-- Changing about along a way of tight pairs: a hole at m, row i without a column. -/
structure Rot (n : Nat) (C : Nat → Nat → Int) (U V : Nat → Int) (i : Nat) (of0 has0 : Nat → Nat) (R : Nat → Prop) (pos : Nat → Nat) (of has : Nat → Nat) (m : Nat) : Prop where
  oh : ∀ k, k < n → k ≠ m → of k < n ∧ of k ≠ i ∧ has (of k) = k
  ho : ∀ r, r < n → r ≠ i → has r < n ∧ has r ≠ m ∧ of (has r) = r
  tight : ∀ r, r < n → r ≠ i → C r (has r) = U r + V (has r)
  keep : ∀ k, k < n → R k → pos k < pos m → of k = of0 k
  low : ∀ r, r < i → has r = has0 r
section
variable {n : Nat} {C : Nat → Nat → Int} {U V : Nat → Int} {i : Nat} {of0 has0 of has of' has' : Nat → Nat} {R : Nat → Prop} {pos : Nat → Nat} {m k : Nat}
theorem Pf.rot (h : Pf n C U V of0 has0) (hi : i < n) : Rot n C U V i of0 has0 R pos of0 has0 (has0 i) := by
  refine ⟨fun k hk hne => ⟨(h.oh k hk).1, fun he => hne ?_, (h.oh k hk).2⟩, fun r hr hne => ⟨(h.ho r hr).1, fun he => hne ?_, (h.ho r hr).2⟩, fun r hr _ => h.tight r hr, fun _ _ _ _ => rfl, fun _ _ => rfl⟩
  · rw [← he, (h.oh k hk).2]
  · rw [← (h.ho r hr).2, he, (h.ho i hi).2]
theorem Rot.step (h : Rot n C U V i of0 has0 R pos of has m) (hm : m < n) (hk : k < n) (hR : R k) (hp : pos k < pos m) (hio : i < of0 k) (ht : C (of0 k) m = U (of0 k) + V m)
    (h1 : of' m = of k) (h2 : ∀ c, c ≠ m → of' c = of c) (h3 : has' (of k) = m) (h4 : ∀ r, r ≠ of k → has' r = has r) : Rot n C U V i of0 has0 R pos of' has' k := by
  have hkm : k ≠ m := fun he => by rw [he] at hp; omega
  have hok := h.keep k hk hR hp
  obtain ⟨hkn, hki, hhk⟩ := h.oh k hk hkm
  refine ⟨fun c hc hne => ?_, fun r hr hne => ?_, fun r hr hne => ?_, fun c hc hRc hpc => ?_, fun r hr => ?_⟩
  · by_cases hcm : c = m
    · rw [hcm, h1]; exact ⟨hkn, hki, h3⟩
    · obtain ⟨a1, a2, a3⟩ := h.oh c hc hcm
      rw [h2 c hcm]
      refine ⟨a1, a2, ?_⟩
      rw [h4 _ (fun he => hne (by rw [← a3, ← hhk, he]))]
      exact a3
  · by_cases hrk : r = of k
    · rw [hrk, h3]; exact ⟨hm, fun he => hkm he.symm, h1⟩
    · obtain ⟨a1, a2, a3⟩ := h.ho r hr hne
      rw [h4 r hrk]
      exact ⟨a1, fun he => hrk (by rw [← a3, he]), by rw [h2 _ a2]; exact a3⟩
  · by_cases hrk : r = of k
    · rw [hrk, h3, hok]; exact ht
    · rw [h4 r hrk]; exact h.tight r hr hne
  · have hcm : c ≠ m := fun he => by rw [he] at hpc; omega
    rw [h2 c hcm]; exact h.keep c hc hRc (by omega)
  · rw [h4 r (by omega)]; exact h.low r hr
theorem Rot.fin (h : Rot n C U V i of0 has0 R pos of has m) (hf : ∀ r, r < n → ∀ j, j < n → U r + V j ≤ C r j) (hi : i < n) (hm : m < n) (ht : C i m = U i + V m)
    (h1 : of' m = i) (h2 : ∀ c, c ≠ m → of' c = of c) (h3 : has' i = m) (h4 : ∀ r, r ≠ i → has' r = has r) : Pf n C U V of' has' := by
  refine ⟨fun j hj => ?_, fun r hr => ?_, fun r hr => ?_, hf⟩
  · by_cases hjm : j = m
    · rw [hjm, h1]; exact ⟨hi, h3⟩
    · obtain ⟨a1, a2, a3⟩ := h.oh j hj hjm
      rw [h2 j hjm, h4 _ a2]; exact ⟨a1, a3⟩
  · by_cases hri : r = i
    · rw [hri, h3]; exact ⟨hm, h1⟩
    · obtain ⟨a1, a2, a3⟩ := h.ho r hr hri
      rw [h4 r hri, h2 _ a2]; exact ⟨a1, a3⟩
  · by_cases hri : r = i
    · rw [hri, h3]; exact ht
    · rw [h4 r hri]; exact h.tight r hr hri
end
/-- Ahead of all tight pairings in the first rows. -/
def LM (n : Nat) (C : Nat → Nat → Int) (U V : Nat → Int) (i : Nat) (has : Nat → Nat) : Prop := ∀ M, TB n C U V M → Ahead i has M
/-- No tight pairing has what stands before, and one of the first columns for row i. -/
def Nb (n : Nat) (C : Nat → Nat → Int) (U V : Nat → Int) (i j : Nat) (has : Nat → Nat) : Prop := ∀ M, TB n C U V M → (∀ r, r < i → M r = has r) → ∀ q, q < j → M i ≠ q
theorem LM.zero {n : Nat} {C : Nat → Nat → Int} {U V : Nat → Int} {has : Nat → Nat} : LM n C U V 0 has := fun _ _ => .inl fun _ h => absurd h (Nat.not_lt_zero _)
theorem Nb.zero {n i : Nat} {C : Nat → Nat → Int} {U V : Nat → Int} {has : Nat → Nat} : Nb n C U V i 0 has := fun _ _ _ _ h => absurd h (Nat.not_lt_zero _)
theorem Nb.next {n i j : Nat} {C : Nat → Nat → Int} {U V : Nat → Int} {has : Nat → Nat} (h : Nb n C U V i j has) (h1 : ∀ M, TB n C U V M → (∀ r, r < i → M r = has r) → M i ≠ j) : Nb n C U V i (j + 1) has := fun M hM hl q hq => by
  by_cases hqj : q = j
  · rw [hqj]; exact h1 M hM hl
  · exact h M hM hl q (by omega)
theorem Nb.congr {n i j : Nat} {C : Nat → Nat → Int} {U V : Nat → Int} {has has' : Nat → Nat} (h : Nb n C U V i j has) (he : ∀ r, r < i → has' r = has r) : Nb n C U V i j has' := fun M hM hl => h M hM fun r hr => by rw [hl r hr, he r hr]
theorem LM.congr {n i : Nat} {C : Nat → Nat → Int} {U V : Nat → Int} {has has' : Nat → Nat} (h : LM n C U V i has) (he : ∀ r, r < i → has' r = has r) : LM n C U V i has' := fun M hM => by
  rcases h M hM with h1 | ⟨q, hq, h1, h2⟩
  · exact .inl fun r hr => by rw [h1 r hr, he r hr]
  · exact .inr ⟨q, hq, fun r hr => by rw [h1 r hr, he r (by omega)], by rw [he q hq]; exact h2⟩
theorem LM.next {n i : Nat} {C : Nat → Nat → Int} {U V : Nat → Int} {has : Nat → Nat} (h : LM n C U V i has) (hn : Nb n C U V i (has i) has) : LM n C U V (i + 1) has := fun M hM => by
  rcases h M hM with h1 | ⟨q, hq, h1, h2⟩
  · rcases Nat.lt_trichotomy (M i) (has i) with h3 | h3 | h3
    · exact absurd rfl (hn M hM h1 _ h3)
    · exact .inl fun r hr => by
        by_cases hri : r = i
        · rw [hri, h3]
        · exact h1 r (by omega)
    · exact .inr ⟨i, by omega, h1, h3⟩
  · exact .inr ⟨q, by omega, h1, h2⟩
theorem Pf.best {n rows : Nat} {C : Nat → Nat → Int} {U V : Nat → Int} {of has : Nat → Nat} (h : Pf n C U V of has) (hl : LM n C U V rows has) : Best n rows C has := by
  have hb := h.bij
  obtain ⟨h1, h2⟩ := least_of h.feas hb (fun r hr => (h.tight r hr).symm)
  exact ⟨hb, h1, fun g hg hc => hl g ⟨hg, fun r hr => (h2 g hg hc r hr).symm⟩⟩
/-- All rows entered: a pairing of all. -/
theorem Sq.all {n : Nat} {C : Nat → Nat → Int} {of U V : Nat → Int} (h : Sq n C n of U V) : ∀ j, j < n → 0 ≤ of j ∧ of j < n := by
  have hc : ∀ r, ∃ j, r < n → j < n ∧ of j = (r : Int) := fun r => by
    by_cases hr : r < n
    · obtain ⟨j, hj⟩ := h.mat.cov r hr
      exact ⟨j, fun _ => hj⟩
    · exact ⟨0, fun h => absurd h hr⟩
  intro j hj
  obtain ⟨r, hr, hrj⟩ := surj (f := fun r => Classical.choose (hc r)) (n := n) (fun r hr => (Classical.choose_spec (hc r) hr).1) (fun a b ha hb hab => by
    have h1 := Classical.choose_spec (hc a) ha
    have h2 := Classical.choose_spec (hc b) hb
    have hab' : Classical.choose (hc a) = Classical.choose (hc b) := hab
    rw [hab'] at h1
    omega) hj
  have h1 := Classical.choose_spec (hc r) hr
  have hrj' : Classical.choose (hc r) = j := hrj
  rw [hrj'] at h1
  omega
theorem Sq.pf {n : Nat} {C : Nat → Nat → Int} {of U V : Nat → Int} (h : Sq n C n of U V) {has : Nat → Int} (hh : ∀ j, j < n → has (of j).toNat = (j : Int)) : Pf n C U V (fun j => (of j).toNat) (fun r => (has r).toNat) ∧ ∀ r, r < n → 0 ≤ has r ∧ has r < n := by
  have hall := h.all
  have hr' : ∀ r, r < n → ∃ j, j < n ∧ of j = (r : Int) ∧ has r = (j : Int) := fun r hr => by
    obtain ⟨j, hj, hjr⟩ := h.mat.cov r hr
    have := hh j hj
    rw [hjr, Int.toNat_natCast] at this
    exact ⟨j, hj, hjr, this⟩
  refine ⟨⟨fun j hj => ?_, fun r hr => ?_, fun r hr => ?_, h.feas⟩, fun r hr => ?_⟩
  · have := hall j hj
    exact ⟨by omega, by rw [hh j hj, Int.toNat_natCast]⟩
  · obtain ⟨j, hj, h1, h2⟩ := hr' r hr
    rw [h2, Int.toNat_natCast, h1, Int.toNat_natCast]; exact ⟨hj, rfl⟩
  · obtain ⟨j, hj, h1, h2⟩ := hr' r hr
    have := h.tight j hj (by omega)
    rw [h1, Int.toNat_natCast] at this
    rw [h2, Int.toNat_natCast]; exact this.symm
  · obtain ⟨j, hj, h1, h2⟩ := hr' r hr
    omega
theorem Sq.zero {n : Nat} {C : Nat → Nat → Int} {of U V : Nat → Int} (ho : ∀ j, j < n → of j = -1) (hU : ∀ r, U r = 0) (hV : ∀ j, V j = 0) : Sq n C 0 of U V :=
  ⟨⟨fun j hj => .inl (ho j hj), fun j k hj _ _ h => absurd (ho j hj) h, fun _ h => absurd h (Nat.not_lt_zero _)⟩, fun _ h => absurd h (Nat.not_lt_zero _), fun j _ => by rw [hV j]; exact Int.le_refl _, fun j _ _ => hV j, fun j hj h => by rw [ho j hj] at h; omega, fun r _ => hU r⟩
end Go.Pr
