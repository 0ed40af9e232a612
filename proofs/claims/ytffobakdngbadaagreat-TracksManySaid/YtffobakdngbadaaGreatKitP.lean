/-
  A part of the proof: laws for walks, and plain laws, over any program of the model. Each theorem holds under its own premises alone.
-/
import Derived.Test.YtffobakdngbadaaGreatKit
namespace Go.Pr
theorem php : ∀ (m n : Nat) (f : Nat -> Nat), (∀ j, j < n -> f j < m) -> (∀ a b, a < n -> b < n -> f a = f b -> a = b) -> n <= m
 | _, 0, _, _, _ => Nat.zero_le _
 | 0, n + 1, f, h, _ => absurd (h 0 (by omega)) (Nat.not_lt_zero _)
 | l + 1, k + 1, f, h, inj => by
  have := php l k (fun a => if f a = l then f k else f a) (fun a ha => by
   have h1 := h a (by omega)
   have h2 := h k (by omega)
   by_cases h3 : f a = l
   ·
    simp only [h3, if_true]
    by_cases h4 : f k = l
    ·
     exact absurd (inj a k (by omega) (by omega) (by omega)) (by omega)
    omega
   ·
    simp only [h3, if_false]; omega) (fun a b ha hb hab => by
   by_cases h3 : f a = l <;> by_cases h4 : f b = l
   ·
    exact inj a b (by omega) (by omega) (by omega)
   ·
    simp only [h3, h4, if_true, if_false] at hab
    exact absurd (inj k b (by omega) (by omega) hab) (by omega)
   ·
    simp only [h3, h4, if_true, if_false] at hab
    exact absurd (inj a k (by omega) (by omega) hab) (by omega)
   simp only [h3, h4, if_false] at hab
   exact inj a b (by omega) (by omega) hab)
  omega
theorem surj {n : Nat} {f : Nat -> Nat} (h : ∀ j, j < n -> f j < n) (inj : ∀ a b, a < n -> b < n -> f a = f b -> a = b) {j : Nat} (hj : j < n) : ∃ a, a < n /\ f a = j := by
 apply Classical.byContradiction
 intro hne
 have hn : ∀ a, a < n -> f a ≠ j := fun a ha he => hne ⟨a, ha, he⟩
 have := php (n - 1) n (fun a => if f a = n - 1 then j else f a) (fun a ha => by
  have h1 := h a ha
  have h2 := hn a ha
  by_cases h3 : f a = n - 1
  ·
   simp only [h3, if_true]; omega
  ·
   simp only [h3, if_false]; omega) (fun a b ha hb hab => by
  have h1 := hn a ha
  have h2 := hn b hb
  by_cases h3 : f a = n - 1 <;> by_cases h4 : f b = n - 1
  ·
   exact inj a b ha hb (by omega)
  ·
   simp only [h3, h4, if_true, if_false] at hab; omega
  ·
   simp only [h3, h4, if_true, if_false] at hab; omega
  simp only [h3, h4, if_false] at hab; exact inj a b ha hb hab)
 omega
def tot : Nat -> (Nat -> Int) -> Int
 | 0, _ => 0
 | n + 1, f => tot n f + f n
theorem tot_add (n : Nat) (f g : Nat -> Int) : tot n (fun j => f j + g j) = tot n f + tot n g := by
 induction n with
 | zero => rfl
 | succ n ih => simp only [tot, ih]; omega
theorem jfD {n : Nat} {f g : Nat -> Int} (h : ∀ j, j < n -> f j = g j) : tot n f = tot n g := by
 induction n with
 | zero => rfl
 | succ n ih => simp only [tot]; rw [ih (fun j hj => h j (by omega)), h n (by omega)]
theorem tot_le {n : Nat} {f g : Nat -> Int} (h : ∀ j, j < n -> f j <= g j) : tot n f <= tot n g := by
 induction n with
 | zero => exact Int.le_refl _
 | succ n ih => have := ih (fun j hj => h j (by omega)); have := h n (by omega); simp only [tot]; omega
theorem tot_lt {n : Nat} {f g : Nat -> Int} (h : ∀ j, j < n -> f j <= g j) (e : tot n g <= tot n f) : ∀ j, j < n -> f j = g j := by
 induction n with
 | zero => intro j hj; omega
 | succ n ih =>
  have h1 := tot_le (n := n) (f := f) (g := g) (fun j hj => h j (by omega))
  have h2 := h n (by omega)
  simp only [tot] at e
  intro j hj
  by_cases hjn : j = n
  ·
   subst hjn; omega
  exact ih (fun j hj => h j (by omega)) (by omega) j (by omega)
theorem tot_list (n : Nat) (f : Nat -> Int) : tot n f = ((List.range n).map f).sum := by
 induction n with
 | zero => rfl
 | succ n ih => rw [List.range_succ, List.map_append, List.sum_append, tot, ih]; simp
theorem perm_sum {l m : List Int} (h : l.Perm m) : l.sum = m.sum := by
 induction h with
 | nil => rfl
 | cons x _ ih => simp [ih]
 | swap x y l => simp; omega
 | trans _ _ h1 h2 => rw [h1, h2]
structure Bij (n : Nat) (f : Nat -> Nat) : Prop where
 lt : ∀ j, j < n -> f j < n
 inj : ∀ a b, a < n -> b < n -> f a = f b -> a = b
theorem Bij.perm {n : Nat} {f : Nat -> Nat} (h : Bij n f) : ((List.range n).map f).Perm (List.range n) := by
 rw [List.perm_iff_count]
 intro a
 have h1 : ((List.range n).map f).Nodup := by
  unfold List.Nodup
  rw [List.pairwise_map]
  have : (List.range n).Pairwise (fun a b => a < n /\ b < n /\ a ≠ b) := by
   have h2 : (List.range n).Nodup := List.nodup_range
   unfold List.Nodup at h2
   exact h2.imp_of_mem (fun ha hb hne => ⟨List.mem_range.1 ha, List.mem_range.1 hb, hne⟩)
  exact this.imp (fun ⟨ha, hb, hne⟩ he => hne (h.inj _ _ ha hb he))
 rw [h1.count, (List.nodup_range (n := n)).count]
 have : a ∈ (List.range n).map f ↔ a ∈ List.range n := by
  rw [List.mem_map, List.mem_range]
  constructor
  ·
   rintro ⟨b, hb, rfl⟩; exact h.lt b (List.mem_range.1 hb)
  intro ha
  obtain ⟨b, hb, hf⟩ := surj h.lt h.inj ha
  exact ⟨b, List.mem_range.2 hb, hf⟩
 simp only [this]
theorem Bij.tot {n : Nat} {f : Nat -> Nat} (h : Bij n f) (g : Nat -> Int) : tot n (fun j => g (f j)) = tot n g := by
 rw [tot_list, tot_list]
 have h1 : (List.range n).map (fun j => g (f j)) = ((List.range n).map f).map g := by rw [List.map_map]; rfl
 rw [h1]
 exact perm_sum (h.perm.map g)
def cst (n : Nat) (C : Nat -> Nat -> Int) (f : Nat -> Nat) : Int := tot n fun r => C r (f r)
def Ahead (rows : Nat) (f g : Nat -> Nat) : Prop := (∀ r, r < rows -> g r = f r) ∨ ∃ i, i < rows /\ (∀ r, r < i -> g r = f r) /\ f i < g i
structure Best (n rows : Nat) (C : Nat -> Nat -> Int) (f : Nat -> Nat) : Prop where
 bij : Bij n f
 least : ∀ g, Bij n g -> cst n C f <= cst n C g
 first : ∀ g, Bij n g -> cst n C g = cst n C f -> Ahead rows f g
theorem least_of {n : Nat} {C : Nat -> Nat -> Int} {U V : Nat -> Int} (hf : ∀ r, r < n -> ∀ j, j < n -> U r + V j <= C r j) {f : Nat -> Nat} (hb : Bij n f) (ht : ∀ r, r < n -> U r + V (f r) = C r (f r)) :
  (∀ g, Bij n g -> cst n C f <= cst n C g) /\ ∀ g, Bij n g -> cst n C g = cst n C f -> ∀ r, r < n -> U r + V (g r) = C r (g r) := by
 have e : ∀ g, Bij n g -> tot n (fun r => U r + V (g r)) = tot n U + tot n V := fun g hg => by
  rw [tot_add n U (fun r => V (g r)), hg.tot V]
 have e1 : cst n C f = tot n U + tot n V := by
  rw [<- e f hb]
  exact jfD fun r hr => (ht r hr).symm
 refine ⟨fun g hg => ?_, fun g hg hc r hr => ?_⟩
 ·
  rw [e1, <- e g hg]
  exact tot_le fun r hr => hf r hr (g r) (hg.lt r hr)
 refine tot_lt (n := n) (f := fun r => U r + V (g r)) (g := fun r => C r (g r)) (fun r hr => hf r hr (g r) (hg.lt r hr)) ?_ r hr
 rw [e g hg, <- e1]
 exact Int.le_of_eq hc
end Go.Pr

namespace Go.Pr
structure Mat (n i : Nat) (of : Nat -> Int) : Prop where
 ran : ∀ j, j < n -> of j = -1 ∨ (0 <= of j /\ of j < i)
 inj : ∀ j k, j < n -> k < n -> of j = of k -> of j ≠ -1 -> j = k
 cov : ∀ r, r < i -> ∃ j, j < n /\ of j = (r : Int)
structure Sq (n : Nat) (C : Nat -> Nat -> Int) (i : Nat) (of U V : Nat -> Int) : Prop where
 mat : Mat n i of
 feas : ∀ r, r < i -> ∀ j, j < n -> U r + V j <= C r j
 vle : ∀ j, j < n -> V j <= 0
 free : ∀ j, j < n -> of j = -1 -> V j = 0
 tight : ∀ j, j < n -> 0 <= of j -> U (of j).toNat + V j = C (of j).toNat j
 uz : ∀ r, i <= r -> U r = 0
def ro (i : Nat) (of : Nat -> Int) (b : Int) : Nat := if b < 0 then i else (of b.toNat).toNat
def isT (n : Nat) (done : Nat -> Bool) (b : Int) : Prop := b = -1 ∨ (0 <= b /\ b.toNat < n /\ done b.toNat = true)
structure Tr (n : Nat) (C : Nat -> Nat -> Int) (i : Nat) (of U V slack back : Nat -> Int) (done : Nat -> Bool) (pos : Nat -> Nat) (t : Nat) (last : Int) : Prop where
 mat : Mat n i of
 feas : ∀ r, r <= i -> ∀ j, j < n -> U r + V j <= C r j
 vle : ∀ j, j < n -> V j <= 0
 free : ∀ j, j < n -> of j = -1 -> V j = 0
 tight : ∀ j, j < n -> 0 <= of j -> U (of j).toNat + V j = C (of j).toNat j
 uz : ∀ r, i < r -> U r = 0
 ui : 0 <= U i
 lastr : (last = -1 /\ ∀ j, j < n -> done j = false) ∨ (0 <= last /\ last.toNat < n /\ done last.toNat = true /\ ∀ j, j < n -> done j = true -> j ≠ last.toNat -> pos j < pos last.toNat)
 dn : ∀ j, j < n -> done j = true -> (j : Int) ≠ last -> 0 <= of j
 tree : ∀ j, j < n -> done j = true -> isT n done (back j) /\ (0 <= back j -> pos (back j).toNat < pos j) /\ U (ro i of (back j)) + V j = C (ro i of (back j)) j
 sl : ∀ j, j < n -> done j = false -> (slack j = 4611686018427387904 /\ last = -1) ∨ (isT n done (back j) /\ back j ≠ last /\ slack j = C (ro i of (back j)) j - U (ro i of (back j)) - V j)
 lo : ∀ j, j < n -> done j = false -> ∀ b, isT n done b -> b ≠ last -> slack j <= C (ro i of b) j - U (ro i of b) - V j
 post : ∀ j, j < n -> done j = true -> pos j < t
 onto : ∀ s, s < t -> ∃ j, j < n /\ done j = true /\ pos j = s
section
variable {n i t : Nat} {C : Nat -> Nat -> Int} {of U V slack back : Nat -> Int} {done : Nat -> Bool} {pos : Nat -> Nat} {last : Int}
theorem Mat.some_free (h : Mat n i of) (hi : i < n) : ∃ j, j < n /\ of j = -1 := by
 apply Classical.byContradiction
 intro hne
 have h1 : ∀ j, j < n -> 0 <= of j /\ of j < i := fun j hj => by
  rcases h.ran j hj with h2 | h2
  ·
   exact absurd ⟨j, hj, h2⟩ hne
  exact h2
 have := php i n (fun j => (of j).toNat) (fun j hj => by have := h1 j hj; omega) (fun a b ha hb hab => by
  have h2 := h1 a ha
  have h3 := h1 b hb
  exact h.inj a b ha hb (by omega) (by omega))
 omega
theorem Tr.tn (h : Tr n C i of U V slack back done pos t last) : t <= n := by
 have hc : ∀ s, ∃ j, s < t -> j < n /\ done j = true /\ pos j = s := fun s => by
  by_cases hs : s < t
  ·
   obtain ⟨j, hj⟩ := h.onto s hs
   exact ⟨j, fun _ => hj⟩
  exact ⟨0, fun h => absurd h hs⟩
 refine php n t (fun s => Classical.choose (hc s)) (fun s hs => (Classical.choose_spec (hc s) hs).1) (fun a b ha hb hab => ?_)
 have h1 := Classical.choose_spec (hc a) ha
 have h2 := Classical.choose_spec (hc b) hb
 have hab' : Classical.choose (hc a) = Classical.choose (hc b) := hab
 rw [hab'] at h1
 omega
theorem Tr.ro_le (h : Tr n C i of U V slack back done pos t last) {b : Int} (hb : isT n done b) : ro i of b <= i := by
 unfold ro
 rcases hb with rfl | ⟨h1, h2, h3⟩
 ·
  simp
 rw [if_neg (by omega)]
 rcases h.mat.ran _ h2 with h4 | h4 <;> omega
theorem Tr.bounds (h : Tr n C i of U V slack back done pos t last) (hi : i < n) {B : Int} (hC : ∀ r j, r < n -> j < n -> 0 <= C r j /\ C r j <= B) :
  (∀ r, r < n -> 0 <= U r /\ U r <= B) /\ ∀ j, j < n -> -B <= V j /\ V j <= 0 := by
 obtain ⟨f, hf, hf1⟩ := h.mat.some_free hi
 have hB : 0 <= B := by have := hC i f hi hf; omega
 have hup : ∀ r, r < n -> U r <= B := fun r hr => by
  by_cases hri : r <= i
  ·
   have h1 := h.feas r hri f hf
   have h2 := h.free f hf hf1
   have h3 := hC r f hr hf
   omega
  have := h.uz r (by omega); omega
 refine ⟨fun r hr => ⟨?_, hup r hr⟩, fun j hj => ⟨?_, h.vle j hj⟩⟩
 ·
  by_cases hri : r < i
  ·
   obtain ⟨j, hj, hj1⟩ := h.mat.cov r hri
   have h1 := h.tight j hj (by omega)
   have h2 := h.vle j hj
   have h3 := hC r j hr hj
   rw [hj1, Int.toNat_natCast] at h1
   omega
  by_cases hre : r = i
  ·
   rw [hre]; exact h.ui
  have := h.uz r (by omega); omega
 rcases h.mat.ran j hj with h1 | h1
 ·
  have := h.free j hj h1; omega
 have h2 := h.tight j hj h1.1
 have h3 := hup (of j).toNat (by omega)
 have h4 := hC (of j).toNat j (by omega) hj
 omega
theorem Tr.some_undone (h : Tr n C i of U V slack back done pos t last) (hi : i < n) (hl : last = -1 ∨ 0 <= of last.toNat) : ∃ j, j < n /\ done j = false := by
 obtain ⟨f, hf, hf1⟩ := h.mat.some_free hi
 refine ⟨f, hf, ?_⟩
 cases hd : done f with
 | false => rfl
 | true =>
  exfalso
  have h1 : (f : Int) = last := Classical.byContradiction fun hne => by have := h.dn f hf hd hne; omega
  rcases hl with h2 | h2
  ·
   omega
  rw [<- h1, Int.toNat_natCast] at h2; omega
theorem Tr.step (h : Tr n C i of U V slack back done pos t last) (hi : i < n) (hl : last = -1 ∨ 0 <= of last.toNat)
  {slack' back' U' V' slack'' : Nat -> Int} {best : Nat} {by' : Int}
  (h1 : ∀ j, j < n -> done j = false -> slack' j = if C (ro i of last) j - U (ro i of last) - V j < slack j then C (ro i of last) j - U (ro i of last) - V j else slack j)
  (h2 : ∀ j, j < n -> done j = false -> back' j = if C (ro i of last) j - U (ro i of last) - V j < slack j then last else back j)
  (h3 : ∀ j, j < n -> done j = true -> back' j = back j)
  (hb : best < n) (hbd : done best = false) (hbl : ∀ j, j < n -> done j = false -> slack' best <= slack' j) (hby : by' = slack' best)
  (hU : ∀ b, isT n done b -> U' (ro i of b) = U (ro i of b) + by') (hU2 : ∀ r, (∀ b, isT n done b -> ro i of b ≠ r) -> U' r = U r)
  (hV : ∀ j, j < n -> V' j = if done j then V j - by' else V j) (hS : ∀ j, j < n -> done j = false -> slack'' j = slack' j - by')
  (hlim : ∀ r j, r < n -> j < n -> C r j - U r - V j < 4611686018427387904) :
  Tr n C i of U' V' slack'' back' (fun j => if j = best then true else done j) (fun j => if j = best then t else pos j) (t + 1) (best : Int) := by
 have hlT : isT n done last := by
  rcases h.lastr with h5 | h5
  ·
   exact .inl h5.1
  exact .inr ⟨h5.1, h5.2.1, h5.2.2.1⟩
 have hrl := h.ro_le hlT
 -- attained
 have hat : ∀ j, j < n -> done j = false -> isT n done (back' j) /\ slack' j = C (ro i of (back' j)) j - U (ro i of (back' j)) - V j := fun j hj hd => by
  rw [h1 j hj hd, h2 j hj hd]
  split
  ·
   exact ⟨hlT, rfl⟩
  rename_i hn
  rcases h.sl j hj hd with h5 | h5
  ·
   have := hlim (ro i of last) j (by omega) hj
   omega
  exact ⟨h5.1, h5.2.2⟩
 have hlo : ∀ j, j < n -> done j = false -> ∀ b, isT n done b -> slack' j <= C (ro i of b) j - U (ro i of b) - V j := fun j hj hd b hbT => by
  rw [h1 j hj hd]
  by_cases hbe : b = last
  ·
   subst hbe
   split <;> omega
  have := h.lo j hj hd b hbT hbe
  split <;> omega
 have hby0 : 0 <= by' := by
  obtain ⟨h5, h6⟩ := hat best hb hbd
  have := h.feas _ (h.ro_le h5) best hb
  omega
 have hdof : ∀ j, j < n -> done j = true -> 0 <= of j := fun j hj hd => by
  by_cases hjl : (j : Int) = last
  ·
   rcases hl with h5 | h5
   ·
    omega
   rw [<- hjl, Int.toNat_natCast] at h5; exact h5
  exact h.dn j hj hd hjl
 have hisT : ∀ b, isT n (fun j => if j = best then true else done j) b -> b ≠ (best : Int) -> isT n done b := fun b hT hne => by
  rcases hT with h5 | ⟨h5, h6, h7⟩
  ·
   exact .inl h5
  refine .inr ⟨h5, h6, ?_⟩
  have h8 : (if b.toNat = best then true else done b.toNat) = true := h7
  rw [if_neg (by omega)] at h8
  exact h8
 have hisT' : ∀ b, isT n done b -> isT n (fun j => if j = best then true else done j) b /\ b ≠ (best : Int) := fun b hT => by
  rcases hT with h5 | ⟨h5, h6, h7⟩
  ·
   exact ⟨.inl h5, by omega⟩
  have : b.toNat ≠ best := fun he => by rw [he, hbd] at h7; cases h7
  exact ⟨.inr ⟨h5, h6, by simp only [this, if_false]; exact h7⟩, by omega⟩
 have hrow : ∀ j, j < n -> done j = true -> ro i of (j : Int) = (of j).toNat /\ isT n done (j : Int) := fun j hj hd => ⟨by unfold ro; rw [if_neg (by omega), Int.toNat_natCast], .inr ⟨by omega, by omega, by rw [Int.toNat_natCast]; exact hd⟩⟩
 refine ⟨h.mat, ?_, ?_, ?_, ?_, ?_, ?_, ?_, ?_, ?_, ?_, ?_, ?_, ?_⟩
 ·
  intro r hr j hj
  have hf := h.feas r hr j hj
  rw [hV j hj]
  by_cases hex : ∃ b, isT n done b /\ ro i of b = r
  ·
   obtain ⟨b, hbT, rfl⟩ := hex
   rw [hU b hbT]
   cases hd : done j with
   | true => simp only [if_true]; omega
   | false =>
    simp only [Bool.false_eq_true, if_false]
    have := hlo j hj hd b hbT
    have := hbl j hj hd
    omega
  rw [hU2 r (fun b hbT he => hex ⟨b, hbT, he⟩)]
  split <;> omega
 ·
  intro j hj
  have := h.vle j hj
  rw [hV j hj]; split <;> omega
 ·
  intro j hj hof
  rw [hV j hj]
  have := h.free j hj hof
  cases hd : done j with
  | true => have := hdof j hj hd; omega
  | false => simpa using this
 ·
  intro j hj hof
  have ht := h.tight j hj hof
  rw [hV j hj]
  cases hd : done j with
  | true =>
   obtain ⟨h5, h6⟩ := hrow j hj hd
   rw [<- h5, hU _ h6, h5]
   simp only [if_true]; omega
  | false =>
   rw [hU2 _ (fun b hbT he => ?_)]
   ·
    simpa using ht
   unfold ro at he
   rcases hbT with rfl | ⟨h5, h6, h7⟩
   ·
    rw [if_pos (by omega)] at he
    rcases h.mat.ran j hj with h8 | h8 <;> omega
   rw [if_neg (by omega)] at he
   have h9 := hdof _ h6 h7
   have := h.mat.inj b.toNat j h6 hj (by omega) (by omega)
   rw [this, hd] at h7; cases h7
 ·
  intro r hr
  rw [hU2 r (fun b hbT he => by have := h.ro_le hbT; omega)]
  exact h.uz r hr
 ·
  have h5 := hU (-1) (.inl rfl)
  have h6 : ro i of (-1) = i := by unfold ro; rw [if_pos (by omega)]
  rw [h6] at h5
  have := h.ui
  omega
 ·
  right
  refine ⟨by omega, by omega, by simp, fun j hj hd hne => ?_⟩
  rw [Int.toNat_natCast] at hne ⊢
  simp only [hne, if_false, if_true] at hd ⊢
  exact h.post j hj hd
 ·
  intro j hj hd hne
  rw [if_neg (by omega)] at hd
  exact hdof j hj hd
 ·
  intro j hj hd
  by_cases hjb : j = best
  ·
   subst hjb
   obtain ⟨h5, h6⟩ := hat j hb hbd
   refine ⟨(hisT' _ h5).1, fun h7 => ?_, ?_⟩
   ·
    have h8 : (back' j).toNat ≠ j := fun he => (hisT' _ h5).2 (by omega)
    simp only [h8, if_false, if_true]
    rcases h5 with h5 | h5
    ·
     omega
    exact h.post _ h5.2.1 h5.2.2
   rw [hU _ h5, hV j hb, hbd]
   simp only [Bool.false_eq_true, if_false]; omega
  rw [if_neg hjb] at hd
  obtain ⟨h5, h6, h7⟩ := h.tree j hj hd
  rw [h3 j hj hd]
  refine ⟨(hisT' _ h5).1, fun h8 => ?_, ?_⟩
  ·
   have h9 : (back j).toNat ≠ best := fun he => (hisT' _ h5).2 (by omega)
   simp only [h9, hjb, if_false]
   exact h6 h8
  rw [hU _ h5, hV j hj, hd]
  simp only [if_true]; omega
 ·
  intro j hj hd
  by_cases hjb : j = best
  ·
   simp [hjb] at hd
  rw [if_neg hjb] at hd
  obtain ⟨h5, h6⟩ := hat j hj hd
  right
  refine ⟨(hisT' _ h5).1, (hisT' _ h5).2, ?_⟩
  rw [hS j hj hd, hU _ h5, hV j hj, hd]
  simp only [Bool.false_eq_true, if_false]; omega
 ·
  intro j hj hd b hbT hne
  by_cases hjb : j = best
  ·
   simp [hjb] at hd
  rw [if_neg hjb] at hd
  have h5 := hisT b hbT hne
  have := hlo j hj hd b h5
  rw [hS j hj hd, hU _ h5, hV j hj, hd]
  simp only [Bool.false_eq_true, if_false]; omega
 ·
  intro j hj hd
  by_cases hjb : j = best
  ·
   simp [hjb]
  simp only [hjb, if_false] at hd ⊢
  have := h.post j hj hd
  omega
 intro s hs
 by_cases hst : s = t
 ·
  exact ⟨best, hb, by simp, by simp [hst]⟩
 obtain ⟨j, hj, hd, hp⟩ := h.onto s (by omega)
 have hjb : j ≠ best := fun he => by rw [he, hbd] at hd; cases hd
 exact ⟨j, hj, by simp [hjb, hd], by simp [hjb, hp]⟩
end
theorem Sq.enter {n i : Nat} {C : Nat -> Nat -> Int} {of U V : Nat -> Int} (h : Sq n C i of U V) (hC : ∀ j, j < n -> 0 <= C i j) {slack back : Nat -> Int} {done : Nat -> Bool} (hs : ∀ j, j < n -> slack j = 4611686018427387904) (hd : ∀ j, j < n -> done j = false) :
  Tr n C i of U V slack back done (fun _ => 0) 0 (-1) := by
 refine ⟨h.mat, fun r hr j hj => ?_, h.vle, h.free, h.tight, fun r hr => h.uz r (by omega), by rw [h.uz i (by omega)]; exact Int.le_refl _, .inl ⟨rfl, hd⟩, ?_, ?_, ?_, ?_, ?_, ?_⟩
 ·
  rcases Nat.lt_or_ge r i with h1 | h1
  ·
   exact h.feas r h1 j hj
  obtain rfl : r = i := by omega
  have := h.uz r (by omega)
  have := h.vle j hj
  have := hC j hj
  omega
 ·
  intro j hj h1; rw [hd j hj] at h1; cases h1
 ·
  intro j hj h1; rw [hd j hj] at h1; cases h1
 ·
  intro j hj _; exact .inl ⟨hs j hj, rfl⟩
 ·
  intro j hj _ b hb hne
  rcases hb with h1 | h1
  ·
   exact absurd h1 hne
  rw [hd _ h1.2.1] at h1; cases h1.2.2
 ·
  intro j hj h1; rw [hd j hj] at h1; cases h1
 intro s hs; omega
structure Aug (n : Nat) (C : Nat -> Nat -> Int) (i : Nat) (of U V : Nat -> Int) (done : Nat -> Bool) (pos : Nat -> Nat) (of' : Nat -> Int) (h : Int) : Prop where
 fin : h = -1 -> Mat n (i + 1) of' /\ (∀ j, j < n -> of' j = -1 -> V j = 0) /\ ∀ j, j < n -> 0 <= of' j -> U (of' j).toNat + V j = C (of' j).toNat j
 at' : h ≠ -1 -> 0 <= h /\ h.toNat < n /\ done h.toNat = true
 keep : h ≠ -1 -> ∀ k, k < n -> done k = true -> pos k <= pos h.toNat -> of' k = of k
 ran : h ≠ -1 -> ∀ k, k < n -> of' k = -1 ∨ (0 <= of' k /\ of' k < i)
 inj : h ≠ -1 -> ∀ j k, j < n -> k < n -> j ≠ h.toNat -> k ≠ h.toNat -> of' j = of' k -> of' j ≠ -1 -> j = k
 cov : h ≠ -1 -> ∀ r, r < i -> ∃ j, j < n /\ j ≠ h.toNat /\ of' j = (r : Int)
 tight : h ≠ -1 -> ∀ j, j < n -> j ≠ h.toNat -> 0 <= of' j -> U (of' j).toNat + V j = C (of' j).toNat j
 free : h ≠ -1 -> ∀ j, j < n -> of' j = -1 -> V j = 0
section
variable {n i t : Nat} {C : Nat -> Nat -> Int} {of U V slack back : Nat -> Int} {done : Nat -> Bool} {pos : Nat -> Nat} {last : Int}
theorem Tr.aug (h : Tr n C i of U V slack back done pos t last) (hl : 0 <= last) (hf : of last.toNat = -1) : Aug n C i of U V done pos of last := by
 have hlr := h.lastr.resolve_left (by omega)
 refine ⟨by omega, fun _ => ⟨hl, hlr.2.1, hlr.2.2.1⟩, fun _ _ _ _ _ => rfl, fun _ => h.mat.ran, fun _ j k hj hk _ _ => h.mat.inj j k hj hk, fun _ r hr => ?_, fun _ j hj _ => h.tight j hj, fun _ => h.free⟩
 obtain ⟨j, hj, hr⟩ := h.mat.cov r hr
 exact ⟨j, hj, fun he => by rw [he, hf] at hr; omega, hr⟩
theorem Aug.step {of' of'' : Nat -> Int} {hh : Int} (h : Aug n C i of U V done pos of' hh) (ht : Tr n C i of U V slack back done pos t last) (hh0 : 0 <= hh)
  (h1 : of'' hh.toNat = if back hh.toNat < 0 then (i : Int) else of' (back hh.toNat).toNat) (h2 : ∀ k, k ≠ hh.toNat -> of'' k = of' k) :
  Aug n C i of U V done pos of'' (back hh.toNat) /\ (0 <= back hh.toNat -> pos (back hh.toNat).toNat < pos hh.toNat) := by
 have hne : hh ≠ -1 := by omega
 obtain ⟨_, hhn, hhd⟩ := h.at' hne
 obtain ⟨hT, hp, htt⟩ := ht.tree _ hhn hhd
 have keep := h.keep hne
 have inj := h.inj hne
 have cov := h.cov hne
 have tight := h.tight hne
 obtain ⟨x, hx⟩ : ∃ x, hh.toNat = x := ⟨_, rfl⟩
 obtain ⟨b, hb⟩ : ∃ b, back x = b := ⟨_, rfl⟩
 rw [hx] at hhn hhd hT hp htt h1 h2 keep inj cov tight ⊢
 rw [hb] at hT hp htt h1 ⊢
 refine ⟨?_, hp⟩
 rcases hT with hb1 | ⟨hb0, hbn, hbd⟩
 ·
  subst hb1
  rw [if_pos (by omega)] at h1
  have hro : ro i of (-1) = i := by unfold ro; rw [if_pos (by omega)]
  rw [hro] at htt
  refine ⟨fun _ => ⟨⟨?_, ?_, ?_⟩, ?_, ?_⟩, fun h => absurd rfl h, fun h => absurd rfl h, fun h => absurd rfl h, fun h => absurd rfl h, fun h => absurd rfl h, fun h => absurd rfl h, fun h => absurd rfl h⟩
  ·
   intro k hk
   by_cases hkx : k = x
   ·
    rw [hkx, h1]; omega
   rw [h2 k hkx]
   rcases h.ran hne k hk with h5 | h5 <;> omega
  ·
   intro j k hj hk hjk hjne
   by_cases hjx : j = x <;> by_cases hkx : k = x
   ·
    omega
   ·
    rw [hjx, h1, h2 k hkx] at hjk
    rcases h.ran hne k hk with h5 | h5 <;> omega
   ·
    rw [hkx, h1, h2 j hjx] at hjk
    rcases h.ran hne j hj with h5 | h5 <;> omega
   rw [h2 j hjx, h2 k hkx] at hjk
   rw [h2 j hjx] at hjne
   exact inj j k hj hk hjx hkx hjk hjne
  ·
   intro r hr
   by_cases hri : r = i
   ·
    exact ⟨x, hhn, by rw [h1, hri]⟩
   obtain ⟨j, hj, hjx, hjr⟩ := cov r (by omega)
   exact ⟨j, hj, by rw [h2 j hjx]; exact hjr⟩
  ·
   intro j hj hj1
   by_cases hjx : j = x
   ·
    rw [hjx, h1] at hj1; omega
   rw [h2 j hjx] at hj1; exact h.free hne j hj hj1
  intro j hj hj1
  by_cases hjx : j = x
  ·
   rw [hjx, h1, Int.toNat_natCast]; exact htt
  rw [h2 j hjx] at hj1 ⊢; exact tight j hj hjx hj1
 have hpb := hp hb0
 rw [if_neg (by omega)] at h1
 have hkeep := keep b.toNat hbn hbd (by omega)
 rw [hkeep] at h1
 have hbx : b.toNat ≠ x := fun he => by rw [he] at hpb; omega
 have hro : ro i of b = (of b.toNat).toNat := by unfold ro; rw [if_neg (by omega)]
 rw [hro] at htt
 have hof0 : 0 <= of b.toNat := by
  refine ht.dn _ hbn hbd fun he => ?_
  rcases ht.lastr with h5 | h5
  ·
   omega
  by_cases hxl : x = last.toNat
  ·
   exact hbx (by omega)
  have := h5.2.2.2 x hhn hhd hxl
  rw [show b.toNat = last.toNat by omega] at hpb
  omega
 have hbne : b ≠ -1 := by omega
 refine ⟨fun h => absurd h hbne, fun _ => ⟨hb0, hbn, hbd⟩, ?_, ?_, ?_, ?_, ?_, ?_⟩
 ·
  intro _ k hk hkd hkp
  have hkx : k ≠ x := fun he => by rw [he] at hkp; omega
  rw [h2 k hkx]
  exact keep k hk hkd (by omega)
 ·
  intro _ k hk
  by_cases hkx : k = x
  ·
   rw [hkx, h1, <- hkeep]; exact h.ran hne _ hbn
  rw [h2 k hkx]; exact h.ran hne k hk
 ·
  intro _ j k hj hk hjb hkb hjk hjne
  by_cases hjx : j = x <;> by_cases hkx : k = x
  ·
   omega
  ·
   rw [hjx, h1, h2 k hkx, <- hkeep] at hjk
   rw [hjx, h1, <- hkeep] at hjne
   exact absurd (inj b.toNat k hbn hk hbx hkx hjk hjne).symm hkb
  ·
   rw [hkx, h1, h2 j hjx, <- hkeep] at hjk
   rw [h2 j hjx] at hjne
   exact absurd (inj j b.toNat hj hbn hjx hbx hjk hjne) hjb
  rw [h2 j hjx, h2 k hkx] at hjk
  rw [h2 j hjx] at hjne
  exact inj j k hj hk hjx hkx hjk hjne
 ·
  intro _ r hr
  obtain ⟨j, hj, hjx, hjr⟩ := cov r hr
  by_cases hjb : j = b.toNat
  ·
   exact ⟨x, hhn, fun he => hbx he.symm, by rw [h1, <- hkeep, <- hjb]; exact hjr⟩
  exact ⟨j, hj, hjb, by rw [h2 j hjx]; exact hjr⟩
 ·
  intro _ j hj hjb hj1
  by_cases hjx : j = x
  ·
   rw [hjx, h1]; exact htt
  rw [h2 j hjx] at hj1 ⊢; exact tight j hj hjx hj1
 intro _ j hj hj1
 by_cases hjx : j = x
 ·
  rw [hjx, h1] at hj1; omega
 rw [h2 j hjx] at hj1; exact h.free hne j hj hj1
theorem Aug.over {of' : Nat -> Int} (h : Aug n C i of U V done pos of' (-1)) (ht : Tr n C i of U V slack back done pos t last) : Sq n C (i + 1) of' U V := by
 obtain ⟨h1, h2, h3⟩ := h.fin rfl
 exact ⟨h1, fun r hr => ht.feas r (by omega), ht.vle, h2, h3, fun r hr => ht.uz r (by omega)⟩
end
end Go.Pr

namespace Go.Pr
structure Pf (n : Nat) (C : Nat -> Nat -> Int) (U V : Nat -> Int) (of has : Nat -> Nat) : Prop where
 oh : ∀ j, j < n -> of j < n /\ has (of j) = j
 ho : ∀ r, r < n -> has r < n /\ of (has r) = r
 tight : ∀ r, r < n -> C r (has r) = U r + V (has r)
 feas : ∀ r, r < n -> ∀ j, j < n -> U r + V j <= C r j
def TB (n : Nat) (C : Nat -> Nat -> Int) (U V : Nat -> Int) (M : Nat -> Nat) : Prop := Bij n M /\ ∀ r, r < n -> C r (M r) = U r + V (M r)
theorem Pf.bij {n : Nat} {C : Nat -> Nat -> Int} {U V : Nat -> Int} {of has : Nat -> Nat} (h : Pf n C U V of has) : Bij n has :=
 ⟨fun r hr => (h.ho r hr).1, fun a b ha hb hab => by rw [<- (h.ho a ha).2, <- (h.ho b hb).2, hab]⟩
theorem Pf.no_turn {n : Nat} {C : Nat -> Nat -> Int} {U V : Nat -> Int} {of has : Nat -> Nat} (h : Pf n C U V of has) {i j : Nat} (hi : i < n) (hj : j < n) (R : Nat -> Prop) (h0 : R j) (hg : ¬R (has i))
  (hcl : ∀ k, k < n -> R k -> i < of k -> ∀ m, m < n -> C (of k) m = U (of k) + V m -> R m) {M : Nat -> Nat} (hM : TB n C U V M) (hlow : ∀ r, r < i -> M r = has r) : M i ≠ j := by
 intro hMi
 have hd : ∀ k, R k ∨ ¬R k := fun k => Classical.em _
 have hσ : ∀ k, k < n -> M (of k) < n := fun k hk => hM.1.lt _ (h.oh k hk).1
 have hRR : ∀ k, k < n -> R k -> R (M (of k)) := fun k hk hR => by
  rcases Nat.lt_trichotomy (of k) i with h1 | h1 | h1
  ·
   rw [hlow _ h1, (h.oh k hk).2]; exact hR
  ·
   exact absurd (by rw [<- h1, (h.oh k hk).2]; exact hR) hg
  exact hcl k hk hR h1 _ (hσ k hk) (hM.2 _ (h.oh k hk).1)
 have hmiss : ∀ k, k < n -> R k -> M (of k) ≠ j := fun k hk hR he => by
  have h1 : of k = i := hM.1.inj _ _ (h.oh k hk).1 hi (by rw [he, hMi])
  exact hg (by rw [<- h1, (h.oh k hk).2]; exact hR)
 have hinj : ∀ a b, a < n -> b < n -> M (of a) = M (of b) -> a = b := fun a b ha hb hab => by
  have h1 := hM.1.inj _ _ (h.oh a ha).1 (h.oh b hb).1 hab
  rw [<- (h.oh a ha).2, <- (h.oh b hb).2, h1]
 have hdec : ∀ k, ∃ x, (R k /\ x = M (of k)) ∨ (¬R k /\ x = k) := fun k => (hd k).elim (fun h => ⟨_, .inl ⟨h, rfl⟩⟩) (fun h => ⟨_, .inr ⟨h, rfl⟩⟩)
 have hf := fun k => Classical.choose_spec (hdec k)
 obtain ⟨a, ha, hfa⟩ := surj (f := fun k => Classical.choose (hdec k)) (n := n) (fun k hk => by
  rcases hf k with h1 | h1
  ·
   show Classical.choose (hdec k) < n
   rw [h1.2]; exact hσ k hk
  ·
   show Classical.choose (hdec k) < n
   rw [h1.2]; exact hk) (fun a b ha hb hab => by
  have hab' : Classical.choose (hdec a) = Classical.choose (hdec b) := hab
  rcases hf a with h1 | h1 <;> rcases hf b with h2 | h2 <;> rw [h1.2, h2.2] at hab'
  ·
   exact hinj a b ha hb hab'
  ·
   exact absurd (hab' ▸ hRR a ha h1.1) h2.1
  ·
   exact absurd (hab'.symm ▸ hRR b hb h2.1) h1.1
  exact hab') hj
 have hfa' : Classical.choose (hdec a) = j := hfa
 rcases hf a with h1 | h1
 ·
  exact hmiss a ha h1.1 (by rw [<- h1.2]; exact hfa')
 exact h1.1 (by rw [<- h1.2, hfa']; exact h0)
structure Rot (n : Nat) (C : Nat -> Nat -> Int) (U V : Nat -> Int) (i : Nat) (of0 has0 : Nat -> Nat) (R : Nat -> Prop) (pos : Nat -> Nat) (of has : Nat -> Nat) (m : Nat) : Prop where
 oh : ∀ k, k < n -> k ≠ m -> of k < n /\ of k ≠ i /\ has (of k) = k
 ho : ∀ r, r < n -> r ≠ i -> has r < n /\ has r ≠ m /\ of (has r) = r
 tight : ∀ r, r < n -> r ≠ i -> C r (has r) = U r + V (has r)
 keep : ∀ k, k < n -> R k -> pos k < pos m -> of k = of0 k
 low : ∀ r, r < i -> has r = has0 r
section
variable {n : Nat} {C : Nat -> Nat -> Int} {U V : Nat -> Int} {i : Nat} {of0 has0 of has of' has' : Nat -> Nat} {R : Nat -> Prop} {pos : Nat -> Nat} {m k : Nat}
theorem Pf.rot (h : Pf n C U V of0 has0) (hi : i < n) : Rot n C U V i of0 has0 R pos of0 has0 (has0 i) := by
 refine ⟨fun k hk hne => ⟨(h.oh k hk).1, fun he => hne ?_, (h.oh k hk).2⟩, fun r hr hne => ⟨(h.ho r hr).1, fun he => hne ?_, (h.ho r hr).2⟩, fun r hr _ => h.tight r hr, fun _ _ _ _ => rfl, fun _ _ => rfl⟩
 ·
  rw [<- he, (h.oh k hk).2]
 rw [<- (h.ho r hr).2, he, (h.ho i hi).2]
theorem Rot.step (h : Rot n C U V i of0 has0 R pos of has m) (hm : m < n) (hk : k < n) (hR : R k) (hp : pos k < pos m) (hio : i < of0 k) (ht : C (of0 k) m = U (of0 k) + V m)
  (h1 : of' m = of k) (h2 : ∀ c, c ≠ m -> of' c = of c) (h3 : has' (of k) = m) (h4 : ∀ r, r ≠ of k -> has' r = has r) : Rot n C U V i of0 has0 R pos of' has' k := by
 have hkm : k ≠ m := fun he => by rw [he] at hp; omega
 have hok := h.keep k hk hR hp
 obtain ⟨hkn, hki, hhk⟩ := h.oh k hk hkm
 refine ⟨fun c hc hne => ?_, fun r hr hne => ?_, fun r hr hne => ?_, fun c hc hRc hpc => ?_, fun r hr => ?_⟩
 ·
  by_cases hcm : c = m
  ·
   rw [hcm, h1]; exact ⟨hkn, hki, h3⟩
  obtain ⟨a1, a2, a3⟩ := h.oh c hc hcm
  rw [h2 c hcm]
  refine ⟨a1, a2, ?_⟩
  rw [h4 _ (fun he => hne (by rw [<- a3, <- hhk, he]))]
  exact a3
 ·
  by_cases hrk : r = of k
  ·
   rw [hrk, h3]; exact ⟨hm, fun he => hkm he.symm, h1⟩
  obtain ⟨a1, a2, a3⟩ := h.ho r hr hne
  rw [h4 r hrk]
  exact ⟨a1, fun he => hrk (by rw [<- a3, he]), by rw [h2 _ a2]; exact a3⟩
 ·
  by_cases hrk : r = of k
  ·
   rw [hrk, h3, hok]; exact ht
  rw [h4 r hrk]; exact h.tight r hr hne
 ·
  have hcm : c ≠ m := fun he => by rw [he] at hpc; omega
  rw [h2 c hcm]; exact h.keep c hc hRc (by omega)
 rw [h4 r (by omega)]; exact h.low r hr
theorem Rot.fin (h : Rot n C U V i of0 has0 R pos of has m) (hf : ∀ r, r < n -> ∀ j, j < n -> U r + V j <= C r j) (hi : i < n) (hm : m < n) (ht : C i m = U i + V m)
  (h1 : of' m = i) (h2 : ∀ c, c ≠ m -> of' c = of c) (h3 : has' i = m) (h4 : ∀ r, r ≠ i -> has' r = has r) : Pf n C U V of' has' := by
 refine ⟨fun j hj => ?_, fun r hr => ?_, fun r hr => ?_, hf⟩
 ·
  by_cases hjm : j = m
  ·
   rw [hjm, h1]; exact ⟨hi, h3⟩
  obtain ⟨a1, a2, a3⟩ := h.oh j hj hjm
  rw [h2 j hjm, h4 _ a2]; exact ⟨a1, a3⟩
 ·
  by_cases hri : r = i
  ·
   rw [hri, h3]; exact ⟨hm, h1⟩
  obtain ⟨a1, a2, a3⟩ := h.ho r hr hri
  rw [h4 r hri, h2 _ a2]; exact ⟨a1, a3⟩
 by_cases hri : r = i
 ·
  rw [hri, h3]; exact ht
 rw [h4 r hri]; exact h.tight r hr hri
end
def LM (n : Nat) (C : Nat -> Nat -> Int) (U V : Nat -> Int) (i : Nat) (has : Nat -> Nat) : Prop := ∀ M, TB n C U V M -> Ahead i has M
def Nb (n : Nat) (C : Nat -> Nat -> Int) (U V : Nat -> Int) (i j : Nat) (has : Nat -> Nat) : Prop := ∀ M, TB n C U V M -> (∀ r, r < i -> M r = has r) -> ∀ q, q < j -> M i ≠ q
theorem LM.zero {n : Nat} {C : Nat -> Nat -> Int} {U V : Nat -> Int} {has : Nat -> Nat} : LM n C U V 0 has := fun _ _ => .inl fun _ h => absurd h (Nat.not_lt_zero _)
theorem Nb.zero {n i : Nat} {C : Nat -> Nat -> Int} {U V : Nat -> Int} {has : Nat -> Nat} : Nb n C U V i 0 has := fun _ _ _ _ h => absurd h (Nat.not_lt_zero _)
theorem Nb.next {n i j : Nat} {C : Nat -> Nat -> Int} {U V : Nat -> Int} {has : Nat -> Nat} (h : Nb n C U V i j has) (h1 : ∀ M, TB n C U V M -> (∀ r, r < i -> M r = has r) -> M i ≠ j) : Nb n C U V i (j + 1) has := fun M hM hl q hq => by
 by_cases hqj : q = j
 ·
  rw [hqj]; exact h1 M hM hl
 exact h M hM hl q (by omega)
theorem Nb.congr {n i j : Nat} {C : Nat -> Nat -> Int} {U V : Nat -> Int} {has has' : Nat -> Nat} (h : Nb n C U V i j has) (he : ∀ r, r < i -> has' r = has r) : Nb n C U V i j has' := fun M hM hl => h M hM fun r hr => by rw [hl r hr, he r hr]
theorem LM.congr {n i : Nat} {C : Nat -> Nat -> Int} {U V : Nat -> Int} {has has' : Nat -> Nat} (h : LM n C U V i has) (he : ∀ r, r < i -> has' r = has r) : LM n C U V i has' := fun M hM => by
 rcases h M hM with h1 | ⟨q, hq, h1, h2⟩
 ·
  exact .inl fun r hr => by rw [h1 r hr, he r hr]
 exact .inr ⟨q, hq, fun r hr => by rw [h1 r hr, he r (by omega)], by rw [he q hq]; exact h2⟩
theorem LM.next {n i : Nat} {C : Nat -> Nat -> Int} {U V : Nat -> Int} {has : Nat -> Nat} (h : LM n C U V i has) (hn : Nb n C U V i (has i) has) : LM n C U V (i + 1) has := fun M hM => by
 rcases h M hM with h1 | ⟨q, hq, h1, h2⟩
 ·
  rcases Nat.lt_trichotomy (M i) (has i) with h3 | h3 | h3
  ·
   exact absurd rfl (hn M hM h1 _ h3)
  ·
   exact .inl fun r hr => by
    by_cases hri : r = i
    ·
     rw [hri, h3]
    exact h1 r (by omega)
  exact .inr ⟨i, by omega, h1, h3⟩
 exact .inr ⟨q, by omega, h1, h2⟩
theorem Pf.best {n rows : Nat} {C : Nat -> Nat -> Int} {U V : Nat -> Int} {of has : Nat -> Nat} (h : Pf n C U V of has) (hl : LM n C U V rows has) : Best n rows C has := by
 have hb := h.bij
 obtain ⟨h1, h2⟩ := least_of h.feas hb (fun r hr => (h.tight r hr).symm)
 exact ⟨hb, h1, fun g hg hc => hl g ⟨hg, fun r hr => (h2 g hg hc r hr).symm⟩⟩
theorem Sq.all {n : Nat} {C : Nat -> Nat -> Int} {of U V : Nat -> Int} (h : Sq n C n of U V) : ∀ j, j < n -> 0 <= of j /\ of j < n := by
 have hc : ∀ r, ∃ j, r < n -> j < n /\ of j = (r : Int) := fun r => by
  by_cases hr : r < n
  ·
   obtain ⟨j, hj⟩ := h.mat.cov r hr
   exact ⟨j, fun _ => hj⟩
  exact ⟨0, fun h => absurd h hr⟩
 intro j hj
 obtain ⟨r, hr, hrj⟩ := surj (f := fun r => Classical.choose (hc r)) (n := n) (fun r hr => (Classical.choose_spec (hc r) hr).1) (fun a b ha hb hab => by
  have h1 := Classical.choose_spec (hc a) ha
  have h2 := Classical.choose_spec (hc b) hb
  have hab' : Classical.choose (hc a) = Classical.choose (hc b) := hab
  rw [hab'] at h1
  omega) hj
 have h1 := Classical.choose_spec (hc r) hr
 have hrj' : Classical.choose (hc r) = j := hrj
 rw [hrj'] at h1
 omega
theorem Sq.pf {n : Nat} {C : Nat -> Nat -> Int} {of U V : Nat -> Int} (h : Sq n C n of U V) {has : Nat -> Int} (hh : ∀ j, j < n -> has (of j).toNat = (j : Int)) : Pf n C U V (fun j => (of j).toNat) (fun r => (has r).toNat) /\ ∀ r, r < n -> 0 <= has r /\ has r < n := by
 have hall := h.all
 have hr' : ∀ r, r < n -> ∃ j, j < n /\ of j = (r : Int) /\ has r = (j : Int) := fun r hr => by
  obtain ⟨j, hj, hjr⟩ := h.mat.cov r hr
  have := hh j hj
  rw [hjr, Int.toNat_natCast] at this
  exact ⟨j, hj, hjr, this⟩
 refine ⟨⟨fun j hj => ?_, fun r hr => ?_, fun r hr => ?_, h.feas⟩, fun r hr => ?_⟩
 ·
  have := hall j hj
  exact ⟨by omega, by rw [hh j hj, Int.toNat_natCast]⟩
 ·
  obtain ⟨j, hj, h1, h2⟩ := hr' r hr
  rw [h2, Int.toNat_natCast, h1, Int.toNat_natCast]; exact ⟨hj, rfl⟩
 ·
  obtain ⟨j, hj, h1, h2⟩ := hr' r hr
  have := h.tight j hj (by omega)
  rw [h1, Int.toNat_natCast] at this
  rw [h2, Int.toNat_natCast]; exact this.symm
 obtain ⟨j, hj, h1, h2⟩ := hr' r hr
 omega
theorem Sq.zero {n : Nat} {C : Nat -> Nat -> Int} {of U V : Nat -> Int} (ho : ∀ j, j < n -> of j = -1) (hU : ∀ r, U r = 0) (hV : ∀ j, V j = 0) : Sq n C 0 of U V :=
 ⟨⟨fun j hj => .inl (ho j hj), fun j k hj _ _ h => absurd (ho j hj) h, fun _ h => absurd h (Nat.not_lt_zero _)⟩, fun _ h => absurd h (Nat.not_lt_zero _), fun j _ => by rw [hV j]; exact Int.le_refl _, fun j _ _ => hV j, fun j hj h => by rw [ho j hj] at h; omega, fun r _ => hU r⟩
end Go.Pr

namespace Go.Pr
theorem tot_upd {n a : Nat} {h : Nat -> Int} {x : Int} (ha : a < n) : tot n (fun r => if r = a then x else h r) = tot n h - h a + x := by
 induction n with
 | zero => omega
 | succ n ih =>
  simp only [tot]
  by_cases han : n = a
  ·
   subst han
   rw [if_pos rfl, jfD (f := fun r => if r = n then x else h r) (g := h) (fun j hj => if_neg (by omega))]
   omega
  rw [if_neg han, ih (by omega)]; omega
def swp (f : Nat -> Nat) (a b : Nat) (r : Nat) : Nat := if r = a then f b else if r = b then f a else f r
theorem swp_a (f : Nat -> Nat) (a b : Nat) : swp f a b a = f b := by simp [swp]
theorem swp_o {f : Nat -> Nat} {a b r : Nat} (h1 : r ≠ a) (h2 : r ≠ b) : swp f a b r = f r := by simp [swp, h1, h2]
theorem Bij.swp {n : Nat} {f : Nat -> Nat} (h : Bij n f) {a b : Nat} (ha : a < n) (hb : b < n) : Bij n (swp f a b) := by
 refine ⟨fun j hj => ?_, fun x y hx hy hxy => ?_⟩
 ·
  unfold Pr.swp; split
  ·
   exact h.lt b hb
  split
  ·
   exact h.lt a ha
  exact h.lt j hj
 unfold Pr.swp at hxy
 have i1 := fun p q hp hq he => h.inj p q hp hq he
 by_cases x1 : x = a <;> by_cases y1 : y = a
 ·
  omega
 ·
  rw [if_pos x1, if_neg y1] at hxy
  by_cases y2 : y = b
  ·
   rw [if_pos y2] at hxy; have := h.inj b a hb ha hxy; omega
  rw [if_neg y2] at hxy; have := h.inj b y hb hy hxy; omega
 ·
  rw [if_neg x1, if_pos y1] at hxy
  by_cases x2 : x = b
  ·
   rw [if_pos x2] at hxy; have := h.inj a b ha hb hxy; omega
  rw [if_neg x2] at hxy; have := h.inj x b hx hb hxy; omega
 rw [if_neg x1, if_neg y1] at hxy
 by_cases x2 : x = b <;> by_cases y2 : y = b
 ·
  omega
 ·
  rw [if_pos x2, if_neg y2] at hxy; have := h.inj a y ha hy hxy; omega
 ·
  rw [if_neg x2, if_pos y2] at hxy; have := h.inj x a hx ha hxy; omega
 rw [if_neg x2, if_neg y2] at hxy; exact h.inj x y hx hy hxy
theorem cst_swp {n : Nat} {C : Nat -> Nat -> Int} {f : Nat -> Nat} {a b : Nat} (ha : a < n) (hb : b < n) (hab : a ≠ b) : cst n C (swp f a b) = cst n C f - C a (f a) - C b (f b) + C a (f b) + C b (f a) := by
 have e : cst n C (swp f a b) = tot n (fun r => if r = a then C a (f b) else (fun r => if r = b then C b (f a) else C r (f r)) r) := jfD fun r _ => by
  unfold swp
  by_cases h1 : r = a
  ·
   simp [h1]
  by_cases h2 : r = b
  ·
   subst h2; simp [h1]
  simp [h1, h2]
 rw [e, tot_upd ha, tot_upd hb]
 simp only [hab, if_false]
 unfold cst
 omega
theorem Best.swp {n rows : Nat} {C : Nat -> Nat -> Int} {f : Nat -> Nat} (h : Best n rows C f) {a b : Nat} (ha : a < n) (hb : b < n) (hab : a ≠ b) :
  C a (f a) + C b (f b) <= C a (f b) + C b (f a) /\ (C a (f a) + C b (f b) = C a (f b) + C b (f a) -> a < rows -> a < b -> f a < f b) := by
 have hB := h.bij.swp ha hb
 have h1 := h.least _ hB
 have h2 := cst_swp (C := C) (f := f) ha hb hab
 refine ⟨by omega, fun he har hlt => ?_⟩
 rcases h.first _ hB (by omega) with h3 | ⟨i, hi, h3, h4⟩
 ·
  have := h3 a har
  rw [swp_a] at this
  exact absurd (h.bij.inj _ _ hb ha this) (by omega)
 rcases Nat.lt_trichotomy i a with h5 | h5 | h5
 ·
  rw [swp_o (by omega) (by omega)] at h4; omega
 ·
  rw [h5, swp_a] at h4; exact h4
 have := h3 a h5
 rw [swp_a] at this
 exact absurd (h.bij.inj _ _ hb ha this) (by omega)
end Go.Pr

namespace Go.Pr
def seqs (n : Nat) : Nat -> List (List Nat)
 | 0 => [[]]
 | k + 1 => (seqs n k).flatMap fun l => (List.range n).map fun x => l ++ [x]
theorem mem_seqs {n : Nat} {f : Nat -> Nat} : ∀ k, (∀ j, j < k -> f j < n) -> (List.range k).map f ∈ seqs n k
 | 0, _ => by simp [seqs]
 | k + 1, h => by
  rw [List.range_succ, List.map_append]
  refine List.mem_flatMap.2 ⟨_, mem_seqs k (fun j hj => h j (by omega)), List.mem_map.2 ⟨f k, List.mem_range.2 (h k (by omega)), rfl⟩⟩
def beats (n rows : Nat) (C : Nat -> Nat -> Int) (G L : List Nat) : Bool :=
 !(decide L.Nodup) || decide (cst n C (fun r => G.getD r 0) < cst n C (fun r => L.getD r 0))
 || (decide (cst n C (fun r => G.getD r 0) = cst n C (fun r => L.getD r 0)) && (List.range rows).any fun i => (List.range i).all (fun r => decide (G.getD r 0 = L.getD r 0)) && decide (G.getD i 0 < L.getD i 0))
 || (List.range rows).all fun r => decide (L.getD r 0 = G.getD r 0)
theorem jeL {n : Nat} {f : Nat -> Nat} {r : Nat} (hr : r < n) : ((List.range n).map f).getD r 0 = f r := by simp [List.getD, hr]
theorem best_is {n rows : Nat} {C : Nat -> Nat -> Int} {f : Nat -> Nat} {G : List Nat} (hr : rows <= n) (h : Best n rows C f) (hGn : ∀ j, j < n -> G.getD j 0 < n) (hGi : ∀ a, a < n -> ∀ b, b < n -> G.getD a 0 = G.getD b 0 -> a = b) (hall : (seqs n n).all (beats n rows C G) = true) : ∀ r, r < rows -> f r = G.getD r 0 := by
 have hm := List.all_eq_true.1 hall _ (mem_seqs n h.bij.lt)
 have hG : Bij n (fun r => G.getD r 0) := ⟨hGn, fun a b ha hb => hGi a ha b hb⟩
 have hnd : ((List.range n).map f).Nodup := by
  unfold List.Nodup
  rw [List.pairwise_map]
  have : (List.range n).Pairwise (fun a b => a < n /\ b < n /\ a ≠ b) := by
   have h2 : (List.range n).Nodup := List.nodup_range
   unfold List.Nodup at h2
   exact h2.imp_of_mem (fun ha hb hne => ⟨List.mem_range.1 ha, List.mem_range.1 hb, hne⟩)
  exact this.imp (fun ⟨ha, hb, hne⟩ he => hne (h.bij.inj _ _ ha hb he))
 have hc : cst n C (fun r => ((List.range n).map f).getD r 0) = cst n C f := jfD fun r hr => congrArg (C r) (jeL hr)
 unfold beats at hm
 rw [hc, decide_eq_true hnd] at hm
 simp only [Bool.or_eq_true, Bool.and_eq_true, Bool.not_true, decide_eq_true_eq, List.any_eq_true, List.all_eq_true, List.mem_range, Bool.false_eq_true, false_or] at hm
 rcases hm with (hm | ⟨he, i, hi, hlow, hlt⟩) | hm
 ·
  have := h.least _ hG; omega
 ·
  rw [jeL (by omega)] at hlt
  rcases h.first _ hG he with h1 | ⟨q, hq, h1, h2⟩
  ·
   have h3 : G.getD i 0 = f i := h1 i hi
   omega
  replace h2 : f q < G.getD q 0 := h2
  have hl : ∀ r, r < i -> G.getD r 0 = f r := fun r hr => by rw [hlow r hr, jeL (by omega)]
  rcases Nat.lt_trichotomy q i with h5 | h5 | h5
  ·
   have := hl q h5; omega
  ·
   subst h5; omega
  have h3 : G.getD i 0 = f i := h1 i h5
  omega
 intro r hr'
 have := hm r hr'
 rwa [jeL (by omega)] at this
end Go.Pr

namespace Go.Pr
structure Rn (n i : Nat) (of U V dist : Nat -> Int) (done : Nat -> Bool) (rho : Int) (Ur Vr : Nat -> Int) : Prop where
 vd : ∀ j, j < n -> Vr j = if done j then V j - (rho - dist j) else V j
 ui : Ur i = U i + rho
 ud : ∀ j, j < n -> done j = true -> 0 <= of j -> Ur (of j).toNat = U (of j).toNat + (rho - dist j)
 uo : ∀ r, r ≠ i -> (∀ j, j < n -> done j = true -> of j ≠ (r : Int)) -> Ur r = U r
structure En (n : Nat) (C : Nat -> Nat -> Int) (i : Nat) (of U V dist frm : Nat -> Int) (done : Nat -> Bool) (rho : Int) (t : Nat) : Prop where
 ex : ∃ (Ur Vr slack back slack' back' : Nat -> Int) (pos : Nat -> Nat) (last : Int), Tr n C i of Ur Vr slack back done pos t last /\ (last = -1 ∨ 0 <= of last.toNat) /\
  (∀ j, j < n -> done j = false -> slack' j = if C (ro i of last) j - Ur (ro i of last) - Vr j < slack j then C (ro i of last) j - Ur (ro i of last) - Vr j else slack j) /\
  (∀ j, j < n -> done j = false -> back' j = if C (ro i of last) j - Ur (ro i of last) - Vr j < slack j then last else back j) /\
  (∀ j, j < n -> done j = true -> back' j = back j) /\
  (∀ j, j < n -> done j = false -> slack' j = dist j - rho /\ frm j = (ro i of (back' j) : Int)) /\ (∀ j, j < n -> done j = true -> frm j = (ro i of (back j) : Int)) /\ Rn n i of U V dist done rho Ur Vr
structure Ch (n : Nat) (C : Nat -> Nat -> Int) (i : Nat) (of U V dist frm : Nat -> Int) (done : Nat -> Bool) (k : Nat) (t : Nat) : Prop where
 ex : ∃ (Ur Vr slack back : Nat -> Int) (pos : Nat -> Nat), Tr n C i of Ur Vr slack back done pos t (k : Int) /\ (∀ j, j < n -> done j = false -> slack j = dist j - dist k /\ frm j = (ro i of (back j) : Int)) /\ (∀ j, j < n -> done j = true -> frm j = (ro i of (back j) : Int)) /\ Rn n i of U V dist done (dist k) Ur Vr
section
variable {n i t : Nat} {C : Nat -> Nat -> Int} {of U V dist frm : Nat -> Int} {done : Nat -> Bool} {rho : Int}
theorem Sq.en (h : Sq n C i of U V) (hi : i < n) {B : Int} (hB : B <= 4503599627370496) (hC : ∀ r j, r < n -> j < n -> 0 <= C r j /\ C r j <= B) (hd : ∀ j, j < n -> done j = false) (hdist : ∀ j, j < n -> dist j = C i j - U i - V j) (hfrm : ∀ j, j < n -> frm j = (i : Int)) : En n C i of U V dist frm done 0 0 := by
 have hT := h.enter (fun j hj => (hC i j hi hj).1) (slack := fun _ => 4611686018427387904) (back := fun _ => -1) (done := done) (fun _ _ => rfl) hd
 obtain ⟨bU, bV⟩ := hT.bounds hi hC
 have hro : ro i of (-1) = i := by unfold ro; rw [if_pos (by omega)]
 refine ⟨U, V, _, _, fun j => C i j - U i - V j, fun _ => -1, _, _, hT, .inl rfl, fun j hj _ => ?_, fun j hj _ => ?_, fun _ _ _ => rfl, fun j hj _ => ⟨?_, ?_⟩, fun j hj h1 => ?_, ?_⟩
 ·
  rw [hro, if_pos (by have := hC i j hi hj; have := bU i hi; have := bV j hj; omega)]
 ·
  rw [hro, if_pos (by have := hC i j hi hj; have := bU i hi; have := bV j hj; omega)]
 ·
  show C i j - U i - V j = dist j - 0
  rw [hdist j hj]; omega
 ·
  show frm j = (ro i of (-1) : Int)
  rw [hfrm j hj, hro]
 ·
  rw [hd j hj] at h1; cases h1
 refine ⟨fun j hj => by rw [hd j hj]; rfl, by omega, fun j hj h1 => ?_, fun r _ _ => rfl⟩
 rw [hd j hj] at h1; cases h1
theorem En.choose (h : En n C i of U V dist frm done rho t) (hi : i < n) {B : Int} (hB : B <= 4503599627370496) (hC : ∀ r j, r < n -> j < n -> 0 <= C r j /\ C r j <= B) {k : Nat} (hk : k < n) (hkd : done k = false) (hkm : ∀ j, j < n -> done j = false -> dist k <= dist j) :
  Ch n C i of U V dist frm (fun j => if j = k then true else done j) k (t + 1) /\ rho <= dist k := by
 obtain ⟨Ur, Vr, slack, back, slack', back', pos, last, hT, hl, h1, h2, h3, h4, h5, hR⟩ := h.ex
 obtain ⟨bU, bV⟩ := hT.bounds hi hC
 have hlT : isT n done last := by
  rcases hT.lastr with h6 | h6
  ·
   exact .inl h6.1
  exact .inr ⟨h6.1, h6.2.1, h6.2.2.1⟩
 have hby0 : 0 <= slack' k := by
  rw [h1 k hk hkd]
  have a1 := hT.feas (ro i of last) (hT.ro_le hlT) k hk
  have a2 : 0 <= slack k := by
   rcases hT.sl k hk hkd with h6 | h6
   ·
    omega
   have := hT.feas _ (hT.ro_le h6.1) k hk; omega
  split <;> omega
 have hsk := (h4 k hk hkd).1
 have hdof : ∀ j, j < n -> done j = true -> 0 <= of j /\ of j < i := fun j hj hd => by
  have h6 : 0 <= of j := by
   by_cases hjl : (j : Int) = last
   ·
    rcases hl with h7 | h7
    ·
     omega
    rw [<- hjl, Int.toNat_natCast] at h7; exact h7
   exact hT.dn j hj hd hjl
  rcases hT.mat.ran j hj with h7 | h7 <;> omega
 -- the new prices
 have hex : ∀ r, ∃ x, (r = i -> x = Ur r + slack' k) /\ ((∃ j, j < n /\ done j = true /\ of j = (r : Int)) -> x = Ur r + slack' k) /\ (r ≠ i -> (¬∃ j, j < n /\ done j = true /\ of j = (r : Int)) -> x = Ur r) := fun r => by
  by_cases ha : r = i
  ·
   exact ⟨Ur r + slack' k, fun _ => rfl, fun _ => rfl, fun h => absurd ha h⟩
  by_cases hb : ∃ j, j < n /\ done j = true /\ of j = (r : Int)
  ·
   exact ⟨Ur r + slack' k, fun _ => rfl, fun _ => rfl, fun _ h => absurd hb h⟩
  exact ⟨Ur r, fun h => absurd h ha, fun h => absurd h hb, fun _ _ => rfl⟩
 have hU' := fun r => Classical.choose_spec (hex r)
 have hst := hT.step hi hl (slack' := slack') (back' := back') (U' := fun r => Classical.choose (hex r)) (V' := fun j => if done j then Vr j - slack' k else Vr j) (slack'' := fun j => slack' j - slack' k) (best := k) (by' := slack' k)
  h1 h2 h3 hk hkd (fun j hj hd => by rw [hsk, (h4 j hj hd).1]; have := hkm j hj hd; omega) rfl
  (fun b hb => by
   rcases hb with rfl | ⟨c1, c2, c3⟩
   ·
    exact (hU' _).1 (by unfold ro; rw [if_pos (by omega)])
   have c4 := hdof _ c2 c3
   refine (hU' _).2.1 ⟨b.toNat, c2, c3, ?_⟩
   unfold ro; rw [if_neg (by omega)]; omega)
  (fun r hr => (hU' r).2.2 (fun he => hr (-1) (.inl rfl) (by unfold ro; rw [if_pos (by omega)]; exact he.symm)) (fun ⟨j, c1, c2, c3⟩ => hr (j : Int) (.inr ⟨by omega, by omega, by rw [Int.toNat_natCast]; exact c2⟩) (by unfold ro; rw [if_neg (by omega), Int.toNat_natCast, c3, Int.toNat_natCast])))
  (fun _ _ => rfl) (fun _ _ _ => rfl)
  (fun r j hr hj => by have := hC r j hr hj; have := bU r hr; have := bV j hj; omega)
 refine ⟨⟨_, _, _, _, _, hst, fun j hj hd => ?_, fun j hj hd => ?_, ?_⟩, by omega⟩
 ·
  by_cases hjk : j = k
  ·
   simp [hjk] at hd
  simp only [hjk, if_false] at hd
  exact ⟨by rw [(h4 j hj hd).1, hsk]; omega, (h4 j hj hd).2⟩
 ·
  by_cases hjk : j = k
  ·
   rw [hjk]; exact (h4 k hk hkd).2
  simp only [hjk, if_false] at hd
  rw [h3 j hj hd]; exact h5 j hj hd
 refine ⟨fun j hj => ?_, ?_, fun j hj hd hof => ?_, fun r hr hno => ?_⟩
 ·
  show (if done j = true then Vr j - slack' k else Vr j) = if (if j = k then true else done j) = true then V j - (dist k - dist j) else V j
  rw [hR.vd j hj]
  by_cases hjk : j = k
  ·
   rw [hjk, hkd]; simp
  cases hd : done j with
  | true => simp only [hjk, if_true, if_false]; omega
  | false => simp [hjk]
 ·
  rw [(hU' i).1 rfl, hR.ui]; omega
 ·
  by_cases hjk : j = k
  ·
   subst hjk
   have hne : (of j).toNat ≠ i := by rcases hT.mat.ran j hj with c | c <;> omega
   have hno : ¬∃ q, q < n /\ done q = true /\ of q = (((of j).toNat : Nat) : Int) := fun ⟨q, c1, c2, c3⟩ => by
    have := hT.mat.inj q j c1 hj (by omega) (by omega)
    rw [this, hkd] at c2; cases c2
   have e1 := (hU' (of j).toNat).2.2 hne hno
   rw [e1, hR.uo _ hne (fun q c1 c2 c3 => hno ⟨q, c1, c2, c3⟩)]; omega
  simp only [hjk, if_false] at hd
  have e1 := (hU' (of j).toNat).2.1 ⟨j, hj, hd, by omega⟩
  rw [e1, hR.ud j hj hd hof]; omega
 have hno' : ¬∃ q, q < n /\ done q = true /\ of q = (r : Int) := fun ⟨q, c1, c2, c3⟩ => hno q c1 (by
  by_cases hqk : q = k
  ·
   simp [hqk]
  simp only [hqk, if_false]; exact c2) c3
 rw [(hU' r).2.2 hr hno', hR.uo r hr (fun q c1 c2 c3 => hno' ⟨q, c1, c2, c3⟩)]
theorem Ch.scan {k : Nat} (h : Ch n C i of U V dist frm done k t) (hk : k < n) (hkd : done k = true) (hof : 0 <= of k) {dist' frm' : Nat -> Int}
  (hd' : ∀ j, j < n -> dist' j = if done j = false /\ dist k + C (of k).toNat j - U (of k).toNat - V j < dist j then dist k + C (of k).toNat j - U (of k).toNat - V j else dist j)
  (hf' : ∀ j, j < n -> frm' j = if done j = false /\ dist k + C (of k).toNat j - U (of k).toNat - V j < dist j then of k else frm j) :
  En n C i of U V dist' frm' done (dist k) t := by
 obtain ⟨Ur, Vr, slack, back, pos, hT, h1, h2, hR⟩ := h.ex
 have hro : ro i of (k : Int) = (of k).toNat := by unfold ro; rw [if_neg (by omega), Int.toNat_natCast]
 have hUr : Ur (of k).toNat = U (of k).toNat := by rw [hR.ud k hk hkd hof]; omega
 have hdk : ∀ j, j < n -> done j = true -> dist' j = dist j := fun j hj hd => by rw [hd' j hj, if_neg (fun c => by rw [hd] at c; cases c.1)]
 refine ⟨Ur, Vr, slack, back, fun j => if C (of k).toNat j - Ur (of k).toNat - Vr j < slack j then C (of k).toNat j - Ur (of k).toNat - Vr j else slack j, fun j => if done j = false then (if C (of k).toNat j - Ur (of k).toNat - Vr j < slack j then (k : Int) else back j) else back j, pos, (k : Int), hT, .inr (by rw [Int.toNat_natCast]; exact hof), fun j _ _ => by rw [hro], fun j hj hd => by rw [hro]; simp only [hd, if_true], fun j hj hd => by simp [hd], fun j hj hd => ?_, fun j hj hd => ?_, ?_⟩
 ·
  obtain ⟨e1, e2⟩ := h1 j hj hd
  have e3 : Vr j = V j := by rw [hR.vd j hj, hd]; simp
  simp only [hd, if_true]
  rw [hd' j hj, hf' j hj, hUr, e3, e1]
  by_cases hc : C (of k).toNat j - U (of k).toNat - V j < dist j - dist k
  ·
   rw [if_pos hc, if_pos hc, if_pos ⟨hd, by omega⟩, if_pos ⟨hd, by omega⟩, hro]
   exact ⟨by omega, by omega⟩
  rw [if_neg hc, if_neg hc, if_neg (fun c => hc (by omega)), if_neg (fun c => hc (by omega))]
  exact ⟨rfl, e2⟩
 ·
  rw [hf' j hj, if_neg (fun c => by rw [hd] at c; cases c.1)]
  exact h2 j hj hd
 refine ⟨fun j hj => ?_, hR.ui, fun j hj hd ho => ?_, hR.uo⟩
 ·
  rw [hR.vd j hj]
  cases hd : done j with
  | true => rw [hdk j hj hd]
  | false => rfl
 rw [hR.ud j hj hd ho, hdk j hj hd]
theorem En.some (h : En n C i of U V dist frm done rho t) (hi : i < n) : (∃ j, j < n /\ done j = false) /\ t <= n := by
 obtain ⟨Ur, Vr, slack, back, slack', back', pos, last, hT, hl, _⟩ := h.ex
 exact ⟨hT.some_undone hi hl, hT.tn⟩
end
end Go.Pr

namespace Go.Pr
section
variable {n i t : Nat} {C : Nat -> Nat -> Int} {of U V V' slack back dist frm : Nat -> Int} {done : Nat -> Bool} {pos : Nat -> Nat} {last rho : Int}
theorem Tr.congrV (h : Tr n C i of U V slack back done pos t last) (e : ∀ j, j < n -> V' j = V j) : Tr n C i of U V' slack back done pos t last :=
 ⟨h.mat, fun r hr j hj => by rw [e j hj]; exact h.feas r hr j hj, fun j hj => by rw [e j hj]; exact h.vle j hj, fun j hj ho => by rw [e j hj]; exact h.free j hj ho, fun j hj ho => by rw [e j hj]; exact h.tight j hj ho, h.uz, h.ui, h.lastr, h.dn,
  fun j hj hd => by rw [e j hj]; exact h.tree j hj hd, fun j hj hd => by rw [e j hj]; exact h.sl j hj hd, fun j hj hd b hb hne => by rw [e j hj]; exact h.lo j hj hd b hb hne, h.post, h.onto⟩
theorem En.bd (h : En n C i of U V dist frm done rho t) (hi : i < n) (hu : U i = 0) (hC : ∀ r j, r < n -> j < n -> 0 <= C r j /\ C r j <= 4503599627370496) :
  (0 <= rho /\ rho <= 4503599627370496) /\ ∀ j, j < n -> done j = false -> rho <= dist j /\ dist j <= rho + 9007199254740992 := by
 obtain ⟨Ur, Vr, slack, back, slack', back', pos, last, hT, hl, h1, h2, h3, h4, h5, hR⟩ := h.ex
 obtain ⟨bU, bV⟩ := hT.bounds hi hC
 have hlT : isT n done last := by
  rcases hT.lastr with h6 | h6
  ·
   exact .inl h6.1
  exact .inr ⟨h6.1, h6.2.1, h6.2.2.1⟩
 have hrl := hT.ro_le hlT
 refine ⟨by have := bU i hi; have := hR.ui; omega, fun j hj hd => ?_⟩
 have e1 := (h4 j hj hd).1
 have e2 := h1 j hj hd
 have a1 := hT.feas (ro i of last) hrl j hj
 have a2 : 0 <= slack j := by
  rcases hT.sl j hj hd with h6 | h6
  ·
   omega
  have := hT.feas _ (hT.ro_le h6.1) j hj; omega
 have a3 := hC (ro i of last) j (by omega) hj
 have a4 := bU (ro i of last) (by omega)
 have a5 := bV j hj
 split at e2 <;> omega
theorem Ch.dn {k : Nat} (h : Ch n C i of U V dist frm done k t) {j : Nat} (hj : j < n) (hd : done j = true) (hjk : j ≠ k) : 0 <= of j := by
 obtain ⟨Ur, Vr, slack, back, pos, hT, _⟩ := h.ex
 exact hT.dn j hj hd (by omega)
theorem Ch.bd {k : Nat} (h : Ch n C i of U V dist frm done k t) (hi : i < n) (hu : U i = 0) (hV : ∀ j, j < n -> -4503599627370496 <= V j /\ V j <= 0) (hC : ∀ r j, r < n -> j < n -> 0 <= C r j /\ C r j <= 4503599627370496) :
  (0 <= dist k /\ dist k <= 4503599627370496) /\ (∀ j, j < n -> done j = true -> -4503599627370496 <= dist k - dist j /\ dist k - dist j <= 4503599627370496) /\ t <= n := by
 obtain ⟨Ur, Vr, slack, back, pos, hT, h1, h2, hR⟩ := h.ex
 obtain ⟨bU, bV⟩ := hT.bounds hi hC
 refine ⟨by have := bU i hi; have := hR.ui; omega, fun j hj hd => ?_, hT.tn⟩
 have e1 := hR.vd j hj
 rw [hd, if_pos rfl] at e1
 have := bV j hj
 have := hV j hj
 omega
theorem Ch.fin {k : Nat} (h : Ch n C i of U V dist frm done k t) (hi : i < n) (hk : k < n) (hkd : done k = true) (hof : of k = -1) (hC : ∀ r j, r < n -> j < n -> 0 <= C r j /\ C r j <= 4503599627370496) {U2 V2 : Nat -> Int}
  (hV2 : ∀ j, j < n -> V2 j = if done j = true /\ j ≠ k then V j - (dist k - dist j) else V j) (hU2i : U2 i = U i + dist k) (hU2d : ∀ j, j < n -> done j = true -> j ≠ k -> U2 (of j).toNat = U (of j).toNat + (dist k - dist j)) (hU2o : ∀ r, r ≠ i -> (∀ j, j < n -> done j = true -> j ≠ k -> (of j).toNat ≠ r) -> U2 r = U r) :
  ∃ (slack back : Nat -> Int) (pos : Nat -> Nat), Tr n C i of U2 V2 slack back done pos t (k : Int) /\ (∀ j, j < n -> done j = true -> frm j = (ro i of (back j) : Int)) /\ (∀ r, r < n -> 0 <= U2 r /\ U2 r <= 4503599627370496) /\ ∀ j, j < n -> -4503599627370496 <= V2 j /\ V2 j <= 0 := by
 obtain ⟨Ur, Vr, slack, back, pos, hT, h1, h2, hR⟩ := h.ex
 have hdof : ∀ j, j < n -> done j = true -> j ≠ k -> 0 <= of j := fun j hj hd hne => hT.dn j hj hd (by omega)
 have eU : U2 = Ur := by
  funext r
  by_cases hri : r = i
  ·
   rw [hri, hU2i, hR.ui]
  by_cases hex : ∃ j, j < n /\ done j = true /\ j ≠ k /\ (of j).toNat = r
  ·
   obtain ⟨j, c1, c2, c3, rfl⟩ := hex
   rw [hU2d j c1 c2 c3, hR.ud j c1 c2 (hdof j c1 c2 c3)]
  rw [hU2o r hri (fun j c1 c2 c3 c4 => hex ⟨j, c1, c2, c3, c4⟩), hR.uo r hri (fun j c1 c2 c3 => ?_)]
  by_cases hjk : j = k
  ·
   rw [hjk, hof] at c3; omega
  exact hex ⟨j, c1, c2, hjk, by omega⟩
 have eV : ∀ j, j < n -> V2 j = Vr j := fun j hj => by
  rw [hV2 j hj, hR.vd j hj]
  by_cases hjk : j = k
  ·
   rw [hjk, hkd]; simp
  cases hd : done j <;> simp [hjk]
 have hT2 := hT.congrV eV
 rw [<- eU] at hT2
 obtain ⟨bU, bV⟩ := hT2.bounds hi hC
 exact ⟨slack, back, pos, hT2, h2, bU, bV⟩
structure Ma (n i : Nat) (of' mt : Nat -> Int) (h : Int) : Prop where
 inv : ∀ j : Nat, j < n -> (j : Int) ≠ h -> 0 <= of' j -> mt (of' j).toNat = (j : Int)
 new : h ≠ -1 -> mt i = -1
 up : ∀ q, i < q -> q < n -> mt q = -1
theorem Aug.mates {of' mt : Nat -> Int} {hh : Nat} (h : Aug n C i of U V done pos of' (hh : Int)) (hm : Ma n i of' mt (hh : Int)) (ht : Tr n C i of U V slack back done pos t last) (hi : i < n) :
  ro i of (back hh) < n /\ mt (ro i of (back hh)) = back hh /\ (ro i of (back hh) : Int) = (if back hh < 0 then (i : Int) else of' (back hh).toNat) /\
  ∀ of'' mt', of'' hh = (ro i of (back hh) : Int) -> (∀ k, k ≠ hh -> of'' k = of' k) -> mt' (ro i of (back hh)) = (hh : Int) -> (∀ q, q ≠ ro i of (back hh) -> mt' q = mt q) -> Ma n i of'' mt' (back hh) := by
 have hne : (hh : Int) ≠ -1 := by omega
 obtain ⟨_, hhn, hhd⟩ := h.at' hne
 rw [Int.toNat_natCast] at hhn hhd
 have hran := h.ran hne
 have hinj := h.inj hne
 have hkeep := h.keep hne
 rw [Int.toNat_natCast] at hinj hkeep
 obtain ⟨hT, hp, _⟩ := ht.tree hh hhn hhd
 obtain ⟨b, hb⟩ : ∃ b, back hh = b := ⟨_, rfl⟩
 rw [hb] at hT hp ⊢
 rcases hT with rfl | ⟨hb0, hbn, hbd⟩
 ·
  have hro : ro i of (-1) = i := by unfold ro; rw [if_pos (by omega)]
  rw [hro]
  refine ⟨hi, hm.new hne, by rw [if_pos (by omega)], fun of'' mt' h1 h2 h3 h4 => ⟨fun j hj _ ho => ?_, fun h => absurd rfl h, fun q hq hqn => by rw [h4 q (by omega)]; exact hm.up q hq hqn⟩⟩
  by_cases hjx : j = hh
  ·
   rw [hjx, h1, Int.toNat_natCast, h3]
  rw [h2 j hjx] at ho ⊢
  rw [h4 _ (by have := hran j hj; omega)]
  exact hm.inv j hj (by omega) ho
 have hpb := hp hb0
 have hbx : b.toNat ≠ hh := fun he => by rw [he] at hpb; omega
 have hkb := hkeep b.toNat hbn hbd (by omega)
 have hof0 : 0 <= of b.toNat := by
  refine ht.dn _ hbn hbd fun he => ?_
  rcases ht.lastr with h5 | h5
  ·
   omega
  by_cases hxl : hh = last.toNat
  ·
   exact hbx (by omega)
  have := h5.2.2.2 hh hhn hhd hxl
  rw [show b.toNat = last.toNat by omega] at hpb
  omega
 have hro : ro i of b = (of b.toNat).toNat := by unfold ro; rw [if_neg (by omega)]
 have hrb := hran _ hbn
 rw [hro]
 refine ⟨by rw [hkb] at hrb; omega, ?_, by rw [if_neg (by omega), hkb]; omega, fun of'' mt' h1 h2 h3 h4 => ⟨fun j hj hjb ho => ?_, fun _ => ?_, fun q hq hqn => by rw [h4 q (by rw [hkb] at hrb; omega)]; exact hm.up q hq hqn⟩⟩
 ·
  have := hm.inv b.toNat hbn (by omega) (by rw [hkb]; exact hof0)
  rw [hkb] at this
  rw [this]; omega
 ·
  by_cases hjx : j = hh
  ·
   rw [hjx, h1, Int.toNat_natCast, h3]
  rw [h2 j hjx] at ho ⊢
  rw [h4 _ (fun he => ?_)]
  ·
   exact hm.inv j hj (by omega) ho
  have := hinj j b.toNat hj hbn hjx hbx (by rw [hkb]; omega) (by omega)
  omega
 rw [h4 i (by rw [hkb] at hrb; omega)]
 exact hm.new hne
end
end Go.Pr
