/-
  A part of the proof: what functions that the statement reaches do, or a plain law on what they do. Each theorem holds under its own premises alone.
-/
import Derived.Test.YtcfdmenmlemahaaTG24
namespace Go.Proofs.Ytcfdmenmlemahaa
open Go Go.Lk Go.Pr
/-! ### Tables that are changed -/
/-- What the first call tells: the best of all pairings of all rows, or that there is none. -/
def LS (rows : List (List Int)) (n : Nat) (ms : List Int) (t e : Int) : Prop :=
  (e = 0 ∧ Top rows n true rows.length ms ∧ t = cos rows ms rows.length) ∨ (e = 170 ∧ ms = [] ∧ t = 0 ∧ ∀ M, ¬Val rows n true M rows.length)
theorem ls_of {rows : List (List Int)} (hF : Fine rows) {ms : List Int} {t e : Int} (h : LeastAns rows ms t e) : LS rows (wid rows 0) ms t e := by
  have hc := chk_fine hF
  have he : e = 0 ∨ e = 170 := by
    rcases h with ⟨_, _, _, h5⟩ | ⟨_, _, _, _, _, h5⟩ | ⟨_, _, _, g, _, ⟨_, _, _, h5⟩ | ⟨_, _, _, h5⟩⟩
    · exact .inl (by rw [h5, hc])
    · exact .inr h5
    · exact .inr h5
    · exact .inl h5
  rcases he with he | he
  · obtain ⟨h1, h2⟩ := least_top hF h he
    exact .inl ⟨he, h1, h2⟩
  · obtain ⟨h1, h2⟩ := least_170 hF h he
    exact .inr ⟨he, h1, h2, none_least hF rfl h he⟩
section
variable {R S : List (List Int)} {n m : Nat}
/-- Every pairing of all rows of the one has one of the other that costs as much or less. -/
def Emb (R S : List (List Int)) (n m : Nat) : Prop := ∀ M, Val R n true M R.length → ∃ N, N.length = S.length ∧ Val S m true N S.length ∧ cos S N S.length ≤ cos R M R.length
theorem Top.min {A : List Int} {k : Nat} (h : Top R n true k A) {M : List Int} (hl : M.length = k) (hM : Val R n true M k) : cos R A k ≤ cos R M k := by
  by_cases hne : M = A
  · rw [hne]; exact Int.le_refl _
  · have h1 := prs_whole hM
    have h2 := prs_whole h.val
    rcases h.win M hl hM hne with h3 | ⟨_, h3 | ⟨h3, _⟩⟩ <;> omega
theorem LS.emb {ms ms' : List Int} {t e t' e' : Int} (h : LS R n ms t e) (h' : LS S m ms' t' e') (hE : Emb R S n m) : e = 0 → e' = 0 ∧ t' ≤ t := by
  intro he
  rcases h with ⟨_, h1, h2⟩ | ⟨h1, _⟩
  · obtain ⟨N, hNl, hN, hc⟩ := hE ms h1.val
    rcases h' with ⟨h3, h4, h5⟩ | ⟨_, _, _, h3⟩
    · have := h4.min hNl hN
      exact ⟨h3, by omega⟩
    · exact absurd hN (h3 N)
  · omega
theorem LS.both {ms ms' : List Int} {t e t' e' : Int} (h : LS R n ms t e) (h' : LS S m ms' t' e') (hE : Emb R S n m) (hE' : Emb S R m n) : e' = e ∧ t' = t := by
  have h1 := h.emb h' hE
  have h2 := h'.emb h hE'
  rcases h with ⟨h3, _⟩ | ⟨h3, _, h4, _⟩
  · obtain ⟨h5, h6⟩ := h1 h3
    exact ⟨by omega, by have := (h2 h5).2; omega⟩
  · rcases h' with ⟨h5, _⟩ | ⟨h5, _, h6, _⟩
    · have := h2 h5; omega
    · omega
/-- A row that is dearer by a number: the same mates. -/
theorem LS.dear {ms ms' : List Int} {t e t' e' d : Int} (h : LS R n ms t e) (h' : LS S n ms' t' e') (hl : S.length = R.length) (hV : ∀ M, Val S n true M R.length ↔ Val R n true M R.length) (hC : ∀ M, Val R n true M R.length → cos S M R.length = cos R M R.length + d) :
    e' = e ∧ (e = 0 → t' = t + d ∧ ms' = ms) := by
  unfold LS at h'
  rw [hl] at h'
  rcases h with ⟨h1, h2, h3⟩ | ⟨h1, _, _, h2⟩
  · rcases h' with ⟨h4, h5, h6⟩ | ⟨_, _, _, h4⟩
    · have hms : ms' = ms := by
        apply Classical.byContradiction
        intro hne
        have v1 := (hV ms').1 h5.val
        have v2 := (hV ms).2 h2.val
        have c1 := hC _ v1
        have c2 := hC _ h2.val
        have p1 := prs_whole v1
        have p2 := prs_whole h2.val
        rcases h2.win ms' h5.len v1 hne with h7 | ⟨_, h7 | ⟨h7, h8, h9⟩⟩
        · omega
        · rcases h5.win ms h2.len v2 (fun h => hne h.symm) with h10 | ⟨_, h10 | ⟨h10, _⟩⟩ <;> omega
        · rcases h5.win ms h2.len v2 (fun h => hne h.symm) with h10 | ⟨_, h10 | ⟨_, h10, _⟩⟩
          · omega
          · omega
          · rw [h10] at h9; cases h9
      refine ⟨by omega, fun _ => ⟨?_, hms⟩⟩
      rw [h6, h3, hms, hC _ h2.val]
    · exact absurd ((hV ms).2 h2.val) (h4 ms)
  · rcases h' with ⟨h4, h5, _⟩ | ⟨h4, _⟩
    · exact absurd ((hV ms').1 h5.val) (h2 ms')
    · exact ⟨by omega, fun h => by omega⟩
theorem Val.nat {M : List Int} {k : Nat} (h : Val R n true M k) {q : Nat} (hq : q < k) : M.getD q 0 = ((M.getD q 0).toNat : Int) ∧ (M.getD q 0).toNat < n ∧ 0 ≤ el R q (M.getD q 0).toNat := by
  rcases h.ent q hq with h1 | ⟨j, h1, h2, h3⟩
  · cases h1.2
  · rw [h1, Int.toNat_natCast]; exact ⟨rfl, h2, h3⟩
theorem Val.cos {M : List Int} {k : Nat} (h : Val R n true M k) : cos R M k = tot k fun q => el R q (M.getD q 0).toNat := tot_congr fun q hq => if_neg (by have := (h.nat hq).1; omega)
theorem val_of {f : Nat → Nat} {k : Nat} (h1 : ∀ q, q < k → f q < n ∧ 0 ≤ el R q (f q)) (h2 : ∀ a b, a < k → b < k → f a = f b → a = b) : Val R n true ((List.range k).map fun q => (f q : Int)) k ∧ cos R ((List.range k).map fun q => (f q : Int)) k = tot k fun q => el R q (f q) := by
  have hg : ∀ q, q < k → ((List.range k).map fun q => (f q : Int)).getD q 0 = (f q : Int) := fun q hq => by simp [List.getD, hq]
  refine ⟨⟨fun q hq => .inr ⟨f q, hg q hq, (h1 q hq).1, (h1 q hq).2⟩, fun q r hq hr he _ => h2 q r hq hr (by rw [hg q hq, hg r hr] at he; omega)⟩, tot_congr fun q hq => ?_⟩
  rw [hg q hq, if_neg (by omega), Int.toNat_natCast]
/-- The columns in another order. -/
theorem emb_cols {s : Nat → Nat} (hl : S.length = R.length) (hs : ∀ j, j < n → s j < n ∧ s (s j) = j) (he : ∀ i j, i < R.length → j < n → el S i j = el R i (s j)) : Emb R S n n := fun M hM => by
  have hn := fun q hq => hM.nat (q := q) hq
  have := val_of (R := S) (n := n) (k := R.length) (f := fun q => s (M.getD q 0).toNat) (fun q hq => ⟨(hs _ (hn q hq).2.1).1, by rw [he q _ hq (hs _ (hn q hq).2.1).1, (hs _ (hn q hq).2.1).2]; exact (hn q hq).2.2⟩) (fun a b ha hb hab => by
    have h1 : (M.getD a 0).toNat = (M.getD b 0).toNat := by rw [← (hs _ (hn a ha).2.1).2, ← (hs _ (hn b hb).2.1).2]; exact congrArg s hab
    exact hM.inj a b ha hb (by have := (hn a ha).1; have := (hn b hb).1; omega) (by have := (hn a ha).1; omega))
  refine ⟨_, ?l, by rw [hl]; exact this.1, ?_⟩
  case l => simp [hl]
  rw [hl, this.2, hM.cos]
  exact Int.le_of_eq (tot_congr fun q hq => by rw [he q _ hq (hs _ (hn q hq).2.1).1, (hs _ (hn q hq).2.1).2])
theorem bij_inv {f : Nat → Nat} (h : Bij n f) : ∃ g : Nat → Nat, (∀ j, j < n → g j < n ∧ f (g j) = j) ∧ ∀ j, j < n → g (f j) = j := by
  have hc : ∀ j, ∃ a, j < n → a < n ∧ f a = j := fun j => by
    by_cases hj : j < n
    · obtain ⟨a, ha⟩ := surj h.lt h.inj hj
      exact ⟨a, fun _ => ha⟩
    · exact ⟨0, fun h => absurd h hj⟩
  have h1 := fun j hj => Classical.choose_spec (hc j) hj
  exact ⟨fun j => Classical.choose (hc j), h1, fun j hj => h.inj _ _ (h1 _ (h.lt j hj)).1 hj (h1 _ (h.lt j hj)).2⟩
/-- Rows and columns of a square changed about. -/
theorem emb_turn (hR : R.length = n) (hS : S.length = n) (he : ∀ i j, i < n → j < n → el S i j = el R j i) : Emb R S n n := fun M hM => by
  rw [hR] at hM
  have hn := fun q hq => hM.nat (q := q) hq
  have hb : Bij n fun q => (M.getD q 0).toNat := ⟨fun q hq => (hn q hq).2.1, fun a b ha hb hab => hM.inj a b ha hb (by have := (hn a ha).1; have := (hn b hb).1; omega) (by have := (hn a ha).1; omega)⟩
  obtain ⟨g, h1, h2⟩ := bij_inv hb
  have e1 : ∀ i, i < n → el S i (g i) = el R (g i) (M.getD (g i) 0).toNat := fun i hi => by
    rw [he i _ hi (h1 i hi).1]
    have := (h1 i hi).2

    rw [this]
  have := val_of (R := S) (n := n) (k := n) (f := g) (fun q hq => ⟨(h1 q hq).1, by rw [e1 q hq]; exact (hn _ (h1 q hq).1).2.2⟩) (fun a b ha hb hab => by
    have h3 := (h1 a ha).2
    rw [hab, (h1 b hb).2] at h3
    exact h3.symm)
  refine ⟨_, ?l, by rw [hS]; exact this.1, ?_⟩
  case l => simp [hS]
  rw [hS, hR, this.2, hM.cos]
  have e2 := hb.tot fun i => el S i (g i)
  rw [← e2]
  refine Int.le_of_eq (tot_congr fun q hq => ?_)
  have h3 := h2 q hq

  rw [e1 _ (hn q hq).2.1, h3]
/-- Columns more. -/
theorem val_more {w : Bool} {M : List Int} {k : Nat} (hnm : n ≤ m) (he : ∀ i j, i < k → j < n → el S i j = el R i j) (h : Val R n w M k) : Val S m w M k ∧ cos S M k = cos R M k := by
  refine ⟨⟨fun q hq => ?_, h.inj⟩, tot_congr fun q hq => ?_⟩
  · rcases h.ent q hq with h1 | ⟨j, h1, h2, h3⟩
    · exact .inl h1
    · exact .inr ⟨j, h1, by omega, by rw [he q j hq h2]; exact h3⟩
  · rcases h.ent q hq with h1 | ⟨j, h1, h2, h3⟩
    · rw [if_pos h1.1, if_pos h1.1]
    · rw [h1, if_neg (by omega), if_neg (by omega), Int.toNat_natCast, he q j hq h2]
theorem emb_more (hnm : n ≤ m) (hl : S.length = R.length) (he : ∀ i j, i < R.length → j < n → el S i j = el R i j) : Emb R S n m := fun M hM => by
  have hV : Val R n true (M.take R.length ++ List.replicate (R.length - M.length) 0) R.length ∧ cos R (M.take R.length ++ List.replicate (R.length - M.length) 0) R.length = cos R M R.length := by
    have hg : ∀ q, q < R.length → (M.take R.length ++ List.replicate (R.length - M.length) 0).getD q 0 = M.getD q 0 := fun q hq => by
      simp only [List.getD]
      by_cases h1 : q < M.length
      · rw [List.getElem?_append_left (by simp; omega), List.getElem?_take, if_pos hq]
      · rw [List.getElem?_append_right (by simp; omega), List.getElem?_replicate, List.getElem?_eq_none (by omega)]
        split <;> rfl
    exact ⟨⟨fun q hq => by rw [hg q hq]; exact hM.ent q hq, fun q r hq hr => by rw [hg q hq, hg r hr]; exact hM.inj q r hq hr⟩, cos_congr hg⟩
  obtain ⟨h1, h2⟩ := val_more hnm he hV.1
  refine ⟨_, ?l, by rw [hl]; exact h1, by rw [hl, h2, hV.2]; exact Int.le_refl _⟩
  case l => rw [hl, List.length_append, List.length_take, List.length_replicate]; omega
/-- .. not fewer pairs. -/
theorem more_pairs {A B : List Int} {k : Nat} (hnm : n ≤ m) (he : ∀ i j, i < k → j < n → el S i j = el R i j) (hA : Top R n false k A) (hB : Top S m false k B) : prs A k ≤ prs B k := by
  by_cases hne : A = B
  · rw [hne]; exact Int.le_refl _
  · rcases hB.win A hA.len (val_more hnm he hA.val).1 hne with h1 | ⟨h1, _⟩ <;> omega
theorem dear_laws {r : Nat} {d : Int} {k : Nat} (hr : r < k) (he : ∀ i j, i < k → j < n → i ≠ r → el S i j = el R i j) (hd : ∀ j, j < n → (el R r j < 0 ∧ el S r j = el R r j) ∨ (0 ≤ el R r j ∧ 0 ≤ el R r j + d ∧ el S r j = el R r j + d)) :
    (∀ M, Val S n true M k ↔ Val R n true M k) ∧ ∀ M, Val R n true M k → cos S M k = cos R M k + d := by
  have hs : ∀ i j, i < k → j < n → (0 ≤ el S i j ↔ 0 ≤ el R i j) := fun i j hi hj => by
    by_cases hir : i = r
    · subst hir; rcases hd j hj with ⟨h1, h2⟩ | ⟨h1, h2, h3⟩ <;> omega
    · rw [he i j hi hj hir]
  refine ⟨fun M => ⟨fun h => ⟨fun q hq => ?_, h.inj⟩, fun h => ⟨fun q hq => ?_, h.inj⟩⟩, fun M h => ?_⟩
  · rcases h.ent q hq with h1 | ⟨j, h1, h2, h3⟩
    · exact .inl h1
    · exact .inr ⟨j, h1, h2, (hs q j hq h2).1 h3⟩
  · rcases h.ent q hq with h1 | ⟨j, h1, h2, h3⟩
    · exact .inl h1
    · exact .inr ⟨j, h1, h2, (hs q j hq h2).2 h3⟩
  · have hn := fun q hq => h.nat (q := q) hq
    rw [h.cos]
    have e1 : cos S M k = tot k fun q => if q = r then el R r (M.getD r 0).toNat + d else (fun q => el R q (M.getD q 0).toNat) q := tot_congr fun q hq => by
      rw [if_neg (by have := (hn q hq).1; omega)]
      by_cases hqr : q = r
      · subst hqr
        rw [if_pos rfl]
        rcases hd _ (hn q hq).2.1 with ⟨h1, _⟩ | ⟨_, _, h3⟩
        · have := (hn q hq).2.2; omega
        · exact h3
      · rw [if_neg hqr]; exact he q _ hq (hn q hq).2.1 hqr
    rw [e1, tot_upd hr]
    omega
end
end Go.Proofs.Ytcfdmenmlemahaa
