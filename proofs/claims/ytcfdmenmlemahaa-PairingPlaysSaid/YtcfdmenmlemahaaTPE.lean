/-
  A part of the proof: what functions that the statement reaches do, or a plain law on what they do. Each theorem holds under its own premises alone.
-/
import Derived.Test.YtcfdmenmlemahaaTPD
namespace Go.Pr
/-! ### Small squares: the best one is found by looking -/
def seqs (n : Nat) : Nat → List (List Nat)
  | 0 => [[]]
  | k + 1 => (seqs n k).flatMap fun l => (List.range n).map fun x => l ++ [x]
theorem mem_seqs {n : Nat} {f : Nat → Nat} : ∀ k, (∀ j, j < k → f j < n) → (List.range k).map f ∈ seqs n k
  | 0, _ => by simp [seqs]
  | k + 1, h => by
    rw [List.range_succ, List.map_append]
    refine List.mem_flatMap.2 ⟨_, mem_seqs k (fun j hj => h j (by omega)), List.mem_map.2 ⟨f k, List.mem_range.2 (h k (by omega)), rfl⟩⟩
/-- Does a list of columns stand behind what is held best, or is it that? -/
def beats (n rows : Nat) (C : Nat → Nat → Int) (G L : List Nat) : Bool :=
  !(decide L.Nodup) || decide (cst n C (fun r => G.getD r 0) < cst n C (fun r => L.getD r 0))
  || (decide (cst n C (fun r => G.getD r 0) = cst n C (fun r => L.getD r 0)) && (List.range rows).any fun i => (List.range i).all (fun r => decide (G.getD r 0 = L.getD r 0)) && decide (G.getD i 0 < L.getD i 0))
  || (List.range rows).all fun r => decide (L.getD r 0 = G.getD r 0)
theorem getD_map_range {n : Nat} {f : Nat → Nat} {r : Nat} (hr : r < n) : ((List.range n).map f).getD r 0 = f r := by simp [List.getD, hr]
theorem best_is {n rows : Nat} {C : Nat → Nat → Int} {f : Nat → Nat} {G : List Nat} (hr : rows ≤ n) (h : Best n rows C f) (hGn : ∀ j, j < n → G.getD j 0 < n) (hGi : ∀ a, a < n → ∀ b, b < n → G.getD a 0 = G.getD b 0 → a = b) (hall : (seqs n n).all (beats n rows C G) = true) : ∀ r, r < rows → f r = G.getD r 0 := by
  have hm := List.all_eq_true.1 hall _ (mem_seqs n h.bij.lt)
  have hG : Bij n (fun r => G.getD r 0) := ⟨hGn, fun a b ha hb => hGi a ha b hb⟩
  have hnd : ((List.range n).map f).Nodup := by
    unfold List.Nodup
    rw [List.pairwise_map]
    have : (List.range n).Pairwise (fun a b => a < n ∧ b < n ∧ a ≠ b) := by
      have h2 : (List.range n).Nodup := List.nodup_range
      unfold List.Nodup at h2
      exact h2.imp_of_mem (fun ha hb hne => ⟨List.mem_range.1 ha, List.mem_range.1 hb, hne⟩)
    exact this.imp (fun ⟨ha, hb, hne⟩ he => hne (h.bij.inj _ _ ha hb he))
  have hc : cst n C (fun r => ((List.range n).map f).getD r 0) = cst n C f := tot_congr fun r hr => congrArg (C r) (getD_map_range hr)
  unfold beats at hm
  rw [hc, decide_eq_true hnd] at hm
  simp only [Bool.or_eq_true, Bool.and_eq_true, Bool.not_true, decide_eq_true_eq, List.any_eq_true, List.all_eq_true, List.mem_range, Bool.false_eq_true, false_or] at hm
  rcases hm with (hm | ⟨he, i, hi, hlow, hlt⟩) | hm
  · have := h.least _ hG; omega
  · rw [getD_map_range (by omega)] at hlt
    rcases h.first _ hG he with h1 | ⟨q, hq, h1, h2⟩
    · have h3 : G.getD i 0 = f i := h1 i hi
      omega
    · replace h2 : f q < G.getD q 0 := h2
      have hl : ∀ r, r < i → G.getD r 0 = f r := fun r hr => by rw [hlow r hr, getD_map_range (by omega)]
      rcases Nat.lt_trichotomy q i with h5 | h5 | h5
      · have := hl q h5; omega
      · subst h5; omega
      · have h3 : G.getD i 0 = f i := h1 i h5
        omega
  · intro r hr'
    have := hm r hr'
    rwa [getD_map_range (by omega)] at this
end Go.Pr
