/-
  A part of the proof: what functions that the statement reaches do, or a plain law on what they do. Each theorem holds under its own premises alone.
-/
import Derived.Test.YtcfdmenmlemahaaTG16
namespace Go.Proofs.Ytcfdmenmlemahaa
open Go Go.Lk Go.Pr
/-! ### All pairings, tried one by one -/
/-- is one list of mates ahead of another one? -/
def aheadB : List Int → List Int → Bool
  | x :: a, y :: b => if x = y then aheadB a b else (decide (y = -1) || (!decide (x = -1) && decide (x < y)))
  | _, _ => false
theorem aheadB_at : ∀ (i : Nat) {a b : List Int}, i < a.length → i < b.length → (∀ q, q < i → a.getD q 0 = b.getD q 0) → a.getD i 0 ≠ b.getD i 0 → aheadB a b = (decide (b.getD i 0 = -1) || (!decide (a.getD i 0 = -1) && decide (a.getD i 0 < b.getD i 0)))
  | _, [], _, h, _, _, _ => absurd h (Nat.not_lt_zero _)
  | _, _ :: _, [], _, h, _, _ => absurd h (Nat.not_lt_zero _)
  | 0, x :: a, y :: b, _, _, _, h => by
    have h' : x ≠ y := by simpa using h
    simp [aheadB, h']
  | i + 1, x :: a, y :: b, h1, h2, h3, h4 => by
    have e0 : x = y := by simpa using h3 0 (by omega)
    have := aheadB_at i (a := a) (b := b) (by simpa using h1) (by simpa using h2) (fun q hq => by simpa using h3 (q + 1) (by omega)) (by simpa using h4)
    rw [aheadB, if_pos e0, this]
    simp
theorem aheadB_self : ∀ a : List Int, aheadB a a = false
  | [] => rfl
  | x :: a => by rw [aheadB, if_pos rfl]; exact aheadB_self a
structure St where
  mate : List Int
  found : Bool
  P : Int
  T : Int
  L : List Int
def bet (s : St) (p t : Int) (m : List Int) : Bool := !s.found || (decide (s.P < p) || (decide (p = s.P) && (decide (t < s.T) || (decide (t = s.T) && aheadB m s.L))))
def tryF (rows : List (List Int)) (n : Nat) (whole : Bool) : Nat → Nat → Int → Int → List Bool → St → St
  | 0, _, p, t, _, s => if bet s p t s.mate then { s with found := true, P := p, T := t, L := s.mate } else s
  | d + 1, i, p, t, us, s =>
    let s1 := (List.range n).foldl (fun s j => if 0 ≤ el rows i j ∧ us.getD j false = false then tryF rows n whole d (i + 1) (p + 1) (t + el rows i j) (us.set j true) { s with mate := s.mate.set i (j : Int) } else s) s
    if whole then s1 else tryF rows n whole d (i + 1) p t us { s1 with mate := s1.mate.set i (-1) }
/-- pairs, and what they cost, of the first rows -/
def prs (M : List Int) (i : Nat) : Int := tot i fun q => if M.getD q 0 < 0 then 0 else 1
def cos (rows : List (List Int)) (M : List Int) (i : Nat) : Int := tot i fun q => if M.getD q 0 = -1 then 0 else el rows q (M.getD q 0).toNat
/-- a pairing of the first rows -/
structure Val (rows : List (List Int)) (n : Nat) (whole : Bool) (M : List Int) (i : Nat) : Prop where
  ent : ∀ q, q < i → (M.getD q 0 = -1 ∧ whole = false) ∨ ∃ j : Nat, M.getD q 0 = (j : Int) ∧ j < n ∧ 0 ≤ el rows q j
  inj : ∀ q r, q < i → r < i → M.getD q 0 = M.getD r 0 → M.getD q 0 ≠ -1 → q = r
section
variable {rows : List (List Int)} {n : Nat} {whole : Bool}
/-- What is held: nothing, or a pairing. -/
def Held (rows : List (List Int)) (n : Nat) (whole : Bool) (k : Nat) (s : St) : Prop := s.found = false ∨ (s.L.length = k ∧ Val rows n whole s.L k ∧ s.P = prs s.L k ∧ s.T = cos rows s.L k)
/-- A list that is before all others. -/
structure Top (rows : List (List Int)) (n : Nat) (whole : Bool) (k : Nat) (A : List Int) : Prop where
  len : A.length = k
  val : Val rows n whole A k
  win : ∀ M, M.length = k → Val rows n whole M k → M ≠ A → (prs M k < prs A k ∨ (prs A k = prs M k ∧ (cos rows A k < cos rows M k ∨ (cos rows A k = cos rows M k ∧ aheadB A M = true ∧ aheadB M A = false))))
def Is (rows : List (List Int)) (k : Nat) (A : List Int) (s : St) : Prop := s.found = true ∧ s.L = A ∧ s.P = prs A k ∧ s.T = cos rows A k
theorem prs_congr {M N : List Int} {i : Nat} (h : ∀ q, q < i → M.getD q 0 = N.getD q 0) : prs M i = prs N i := tot_congr fun q hq => by rw [h q hq]
theorem cos_congr {M N : List Int} {i : Nat} (h : ∀ q, q < i → M.getD q 0 = N.getD q 0) : cos rows M i = cos rows N i := tot_congr fun q hq => by rw [h q hq]
/-- What the trying keeps: the list's length, the first rows' mates. -/
theorem foldl_inv {α : Type} {R : Nat → α → Prop} {f : α → Nat → α} {s : α} : ∀ n, R 0 s → (∀ j s, j < n → R j s → R (j + 1) (f s j)) → R n ((List.range n).foldl f s)
  | 0, h, _ => h
  | n + 1, h, hs => by
    rw [List.range_succ, List.foldl_append]
    exact hs n _ (by omega) (foldl_inv n h (fun j s hj => hs j s (by omega)))
structure Pre (rows : List (List Int)) (n : Nat) (whole : Bool) (k i : Nat) (us : List Bool) (s : St) : Prop where
  len : s.mate.length = k
  val : Val rows n whole s.mate i
  ul : us.length = n
  us : ∀ j : Nat, j < n → (us.getD j false = true ↔ ∃ q, q < i ∧ s.mate.getD q 0 = (j : Int))
theorem try_inv {k : Nat} {A : List Int} : ∀ (d i : Nat) {us : List Bool} {s : St}, i + d = k → Pre rows n whole k i us s → Held rows n whole k s →
    let s' := tryF rows n whole d i (prs s.mate i) (cos rows s.mate i) us s
    s'.mate.length = k ∧ (∀ q, q < i → s'.mate.getD q 0 = s.mate.getD q 0) ∧ Held rows n whole k s' ∧ (Top rows n whole k A → (Is rows k A s ∨ ∀ q, q < i → A.getD q 0 = s.mate.getD q 0) → Is rows k A s') ∧ (s.found = true → s'.found = true)
  | 0, i, us, s, hd, hp, hh => by
    obtain rfl : i = k := by omega
    simp only [tryF]
    by_cases hb : bet s (prs s.mate i) (cos rows s.mate i) s.mate = true
    · rw [if_pos hb]
      refine ⟨hp.len, fun _ _ => rfl, .inr ⟨hp.len, hp.val, rfl, rfl⟩, fun hT hA => ?_, fun _ => rfl⟩
      by_cases hMA : s.mate = A
      · exact ⟨rfl, hMA, by rw [← hMA], by rw [← hMA]⟩
      · exfalso
        rcases hA with ⟨h1, h2, h3, h4⟩ | h1
        · have hw := hT.win s.mate hp.len hp.val hMA
          unfold bet at hb
          rw [h1, h2, h3, h4] at hb
          simp only [Bool.not_true, Bool.false_or, Bool.or_eq_true, Bool.and_eq_true, decide_eq_true_eq] at hb
          rcases hw with hw | ⟨hw, hw2 | ⟨hw2, _, hw3⟩⟩
          · rcases hb with hb | ⟨hb, _⟩ <;> omega
          · rcases hb with hb | ⟨_, hb | ⟨hb, _⟩⟩ <;> omega
          · rcases hb with hb | ⟨_, hb | ⟨_, hb⟩⟩
            · omega
            · omega
            · rw [hw3] at hb; cases hb
        · refine hMA ?_
          apply List.ext_getElem
          · rw [hp.len, hT.len]
          · intro q h5 h6
            have := h1 q (by rw [hp.len] at h5; exact h5)
            simp only [List.getD, List.getElem?_eq_getElem h5, List.getElem?_eq_getElem h6, Option.getD_some] at this
            exact this.symm
    · rw [if_neg hb]
      refine ⟨hp.len, fun _ _ => rfl, hh, fun hT hA => ?_, fun h => h⟩
      rcases hA with hA | h1
      · exact hA
      · have hMA : s.mate = A := by
          apply List.ext_getElem
          · rw [hp.len, hT.len]
          · intro q h5 h6
            have := h1 q (by rw [hp.len] at h5; exact h5)
            simp only [List.getD, List.getElem?_eq_getElem h5, List.getElem?_eq_getElem h6, Option.getD_some] at this
            exact this.symm
        rcases hh with hh | ⟨l1, l2, l3, l4⟩
        · unfold bet at hb; rw [hh] at hb; simp at hb
        · cases hf : s.found with
          | false => unfold bet at hb; rw [hf] at hb; simp at hb
          | true =>
            by_cases hLA : s.L = A
            · exact ⟨hf, hLA, by rw [← hLA]; exact l3, by rw [← hLA]; exact l4⟩
            · exfalso
              have hw := hT.win s.L l1 l2 hLA
              apply hb
              unfold bet
              rw [hf, l3, l4, hMA]
              simp only [Bool.not_true, Bool.false_or, Bool.or_eq_true, Bool.and_eq_true, decide_eq_true_eq]
              rcases hw with hw | ⟨hw, hw2 | ⟨hw2, hw3, _⟩⟩
              · exact .inl hw
              · exact .inr ⟨hw, .inl hw2⟩
              · exact .inr ⟨hw, .inr ⟨hw2, hw3⟩⟩
  | d + 1, i, us, s, hd, hp, hh => by
    have hik : i < k := by omega
    -- one column
    have hcol : ∀ (j : Nat) (s1 : St), j < n → s1.mate.length = k → (∀ q, q < i → s1.mate.getD q 0 = s.mate.getD q 0) → Held rows n whole k s1 → 0 ≤ el rows i j → us.getD j false = false →
        let s2 := tryF rows n whole d (i + 1) (prs s.mate i + 1) (cos rows s.mate i + el rows i j) (us.set j true) { s1 with mate := s1.mate.set i (j : Int) }
        s2.mate.length = k ∧ (∀ q, q < i → s2.mate.getD q 0 = s.mate.getD q 0) ∧ Held rows n whole k s2 ∧ (Top rows n whole k A → (Is rows k A s1 ∨ ((∀ q, q < i → A.getD q 0 = s.mate.getD q 0) ∧ A.getD i 0 = (j : Int))) → Is rows k A s2) ∧ (s1.found = true → s2.found = true) := by
      intro j s1 hj hl hpre hh1 hel hus
      have hg : ∀ q, (s1.mate.set i (j : Int)).getD q 0 = if q = i then (j : Int) else s1.mate.getD q 0 := fun q => gset (by omega) q
      have hpre2 : ∀ q, q < i → (s1.mate.set i (j : Int)).getD q 0 = s.mate.getD q 0 := fun q hq => by rw [hg, if_neg (by omega)]; exact hpre q hq
      have hnot : ∀ q, q < i → s.mate.getD q 0 ≠ (j : Int) := fun q hq he => by rw [(hp.us j hj).2 ⟨q, hq, he⟩] at hus; cases hus
      have e1 : prs (s1.mate.set i (j : Int)) (i + 1) = prs s.mate i + 1 := by
        unfold prs
        simp only [tot]
        rw [hg i, if_pos rfl, if_neg (by omega)]
        congr 1
        exact tot_congr fun q hq => by rw [hpre2 q hq]
      have e2 : cos rows (s1.mate.set i (j : Int)) (i + 1) = cos rows s.mate i + el rows i j := by
        unfold cos
        simp only [tot]
        rw [hg i, if_pos rfl, if_neg (by omega), Int.toNat_natCast]
        congr 1
        exact tot_congr fun q hq => by rw [hpre2 q hq]
      have hP : Pre rows n whole k (i + 1) (us.set j true) { s1 with mate := s1.mate.set i (j : Int) } := by
        refine ⟨by simp [hl], ⟨fun q hq => ?_, fun q r hq hr h1 h2 => ?_⟩, by simp [hp.ul], fun j2 hj2 => ?_⟩
        · by_cases hqi : q = i
          · exact .inr ⟨j, by show (s1.mate.set i (j : Int)).getD q 0 = _; rw [hg, if_pos hqi], hj, by rw [hqi]; exact hel⟩
          · have := hp.val.ent q (by omega)
            show ((s1.mate.set i (j : Int)).getD q 0 = -1 ∧ _) ∨ ∃ j' : Nat, (s1.mate.set i (j : Int)).getD q 0 = _ ∧ _
            rw [hpre2 q (by omega)]; exact this
        · replace h1 : (s1.mate.set i (j : Int)).getD q 0 = (s1.mate.set i (j : Int)).getD r 0 := h1
          replace h2 : (s1.mate.set i (j : Int)).getD q 0 ≠ -1 := h2
          by_cases hqi : q = i <;> by_cases hri : r = i
          · omega
          · rw [hg q, if_pos hqi, hpre2 r (by omega)] at h1
            exact absurd h1.symm (hnot r (by omega))
          · rw [hg r, if_pos hri, hpre2 q (by omega)] at h1
            exact absurd h1 (hnot q (by omega))
          · rw [hpre2 q (by omega), hpre2 r (by omega)] at h1
            rw [hpre2 q (by omega)] at h2
            exact hp.val.inj q r (by omega) (by omega) h1 h2
        · rw [gset (by rw [hp.ul]; exact hj)]
          by_cases hjj : j2 = j
          · rw [if_pos hjj]
            exact ⟨fun _ => ⟨i, by omega, by show (s1.mate.set i (j : Int)).getD i 0 = _; rw [hg, if_pos rfl, hjj]⟩, fun _ => rfl⟩
          · rw [if_neg hjj, hp.us j2 hj2]
            constructor
            · rintro ⟨q, hq, he⟩; exact ⟨q, by omega, by show (s1.mate.set i (j : Int)).getD q 0 = _; rw [hpre2 q hq]; exact he⟩
            · rintro ⟨q, hq, he⟩
              replace he : (s1.mate.set i (j : Int)).getD q 0 = (j2 : Int) := he
              by_cases hqi : q = i
              · rw [hg, if_pos hqi] at he; omega
              · exact ⟨q, by omega, by rw [hpre2 q (by omega)] at he; exact he⟩
      have ih := try_inv (A := A) d (i + 1) (us := us.set j true) (s := { s1 with mate := s1.mate.set i (j : Int) }) (by omega) hP hh1
      simp only [e1, e2] at ih
      obtain ⟨a1, a2, a3, a4, a5⟩ := ih
      refine ⟨a1, fun q hq => by rw [a2 q (by omega)]; exact hpre2 q hq, a3, fun hT hA => a4 hT ?_, a5⟩
      rcases hA with hA | ⟨hA, hAi⟩
      · exact .inl hA
      · right
        intro q hq
        show A.getD q 0 = (s1.mate.set i (j : Int)).getD q 0
        rw [hg]
        split
        · rename_i hqi; rw [hqi]; exact hAi
        · rw [hpre q (by omega)]; exact hA q (by omega)
    -- all columns
    have hall := foldl_inv (s := s) (f := fun s1 j => if 0 ≤ el rows i j ∧ us.getD j false = false then tryF rows n whole d (i + 1) (prs s.mate i + 1) (cos rows s.mate i + el rows i j) (us.set j true) { s1 with mate := s1.mate.set i (j : Int) } else s1)
      (R := fun j s1 => s1.mate.length = k ∧ (∀ q, q < i → s1.mate.getD q 0 = s.mate.getD q 0) ∧ Held rows n whole k s1 ∧ (Top rows n whole k A → (Is rows k A s ∨ ((∀ q, q < i → A.getD q 0 = s.mate.getD q 0) ∧ ∃ j' : Nat, j' < j ∧ A.getD i 0 = (j' : Int))) → Is rows k A s1) ∧ (s.found = true → s1.found = true)) n
      ⟨hp.len, fun _ _ => rfl, hh, fun _ h => by rcases h with h | ⟨_, j', hj', _⟩; exact h; exact absurd hj' (Nat.not_lt_zero _), fun h => h⟩
      (fun j s1 hj ⟨b1, b2, b3, b4, b5⟩ => by
        by_cases hc : 0 ≤ el rows i j ∧ us.getD j false = false
        · simp only [hc, and_self, if_true]
          obtain ⟨c1, c2, c3, c4, c5⟩ := hcol j s1 hj b1 b2 b3 hc.1 hc.2
          refine ⟨c1, c2, c3, fun hT hA => c4 hT ?_, fun h => c5 (b5 h)⟩
          rcases hA with hA | ⟨hA, j', hj', hAj⟩
          · exact .inl (b4 hT (.inl hA))
          · by_cases hjj : j' = j
            · exact .inr ⟨hA, by rw [hAj, hjj]⟩
            · exact .inl (b4 hT (.inr ⟨hA, j', by omega, hAj⟩))
        · simp only [hc, if_false]
          refine ⟨b1, b2, b3, fun hT hA => b4 hT ?_, b5⟩
          rcases hA with hA | ⟨hA, j', hj', hAj⟩
          · exact .inl hA
          · by_cases hjj : j' = j
            · exfalso
              rw [hjj] at hAj
              apply hc
              rcases hT.val.ent i hik with h1 | ⟨j2, h1, h2, h3⟩
              · rw [hAj] at h1; omega
              · obtain rfl : j2 = j := by rw [hAj] at h1; omega
                refine ⟨h3, ?_⟩
                cases hu : us.getD j2 false with
                | false => rfl
                | true =>
                  obtain ⟨q, hq, he⟩ := (hp.us j2 hj).1 hu
                  have := hT.val.inj q i (by omega) hik (by rw [hA q hq, he, hAj]) (by rw [hA q hq, he]; omega)
                  omega
            · exact .inr ⟨hA, j', by omega, hAj⟩)
    simp only [tryF]
    obtain ⟨s1, hs1⟩ : ∃ s1, s1 = (List.range n).foldl (fun s1 j => if 0 ≤ el rows i j ∧ us.getD j false = false then tryF rows n whole d (i + 1) (prs s.mate i + 1) (cos rows s.mate i + el rows i j) (us.set j true) { s1 with mate := s1.mate.set i (j : Int) } else s1) s := ⟨_, rfl⟩
    rw [← hs1] at hall ⊢
    obtain ⟨b1, b2, b3, b4, b5⟩ := hall
    by_cases hwh : whole = true
    · rw [if_pos hwh]
      refine ⟨b1, b2, b3, fun hT hA => b4 hT ?_, b5⟩
      rcases hA with hA | hA
      · exact .inl hA
      · rcases hT.val.ent i hik with h1 | ⟨j2, h1, h2, h3⟩
        · rw [hwh] at h1; cases h1.2
        · exact .inr ⟨hA, j2, h2, h1⟩
    · rw [if_neg hwh]
      have hwf : whole = false := by simpa using hwh
      have hg : ∀ q, (s1.mate.set i (-1)).getD q 0 = if q = i then -1 else s1.mate.getD q 0 := fun q => gset (by omega) q
      have hpre2 : ∀ q, q < i → (s1.mate.set i (-1)).getD q 0 = s.mate.getD q 0 := fun q hq => by rw [hg, if_neg (by omega)]; exact b2 q hq
      have e1 : prs (s1.mate.set i (-1)) (i + 1) = prs s.mate i := by
        unfold prs
        simp only [tot]
        rw [hg i, if_pos rfl, if_pos (by omega), Int.add_zero]
        exact tot_congr fun q hq => by rw [hpre2 q hq]
      have e2 : cos rows (s1.mate.set i (-1)) (i + 1) = cos rows s.mate i := by
        unfold cos
        simp only [tot]
        rw [hg i, if_pos rfl, if_pos rfl, Int.add_zero]
        exact tot_congr fun q hq => by rw [hpre2 q hq]
      have hP : Pre rows n whole k (i + 1) us { s1 with mate := s1.mate.set i (-1) } := by
        refine ⟨by simp [b1], ⟨fun q hq => ?_, fun q r hq hr h1 h2 => ?_⟩, hp.ul, fun j2 hj2 => ?_⟩
        · by_cases hqi : q = i
          · exact .inl ⟨by show (s1.mate.set i (-1)).getD q 0 = _; rw [hg, if_pos hqi], hwf⟩
          · have := hp.val.ent q (by omega)
            show ((s1.mate.set i (-1)).getD q 0 = -1 ∧ _) ∨ ∃ j' : Nat, (s1.mate.set i (-1)).getD q 0 = _ ∧ _
            rw [hpre2 q (by omega)]; exact this
        · replace h1 : (s1.mate.set i (-1)).getD q 0 = (s1.mate.set i (-1)).getD r 0 := h1
          replace h2 : (s1.mate.set i (-1)).getD q 0 ≠ -1 := h2
          by_cases hqi : q = i
          · rw [hg, if_pos hqi] at h2; exact absurd rfl h2
          · by_cases hri : r = i
            · rw [hg r, if_pos hri] at h1; exact absurd h1 h2
            · rw [hpre2 q (by omega), hpre2 r (by omega)] at h1
              rw [hpre2 q (by omega)] at h2
              exact hp.val.inj q r (by omega) (by omega) h1 h2
        · rw [hp.us j2 hj2]
          constructor
          · rintro ⟨q, hq, he⟩; exact ⟨q, by omega, by show (s1.mate.set i (-1)).getD q 0 = _; rw [hpre2 q hq]; exact he⟩
          · rintro ⟨q, hq, he⟩
            replace he : (s1.mate.set i (-1)).getD q 0 = (j2 : Int) := he
            by_cases hqi : q = i
            · rw [hg, if_pos hqi] at he; omega
            · exact ⟨q, by omega, by rw [hpre2 q (by omega)] at he; exact he⟩
      have ih := try_inv (A := A) d (i + 1) (us := us) (s := { s1 with mate := s1.mate.set i (-1) }) (by omega) hP b3
      simp only [e1, e2] at ih
      obtain ⟨a1, a2, a3, a4, a5⟩ := ih
      refine ⟨a1, fun q hq => by rw [a2 q (by omega)]; exact hpre2 q hq, a3, fun hT hA => a4 hT ?_, fun h => a5 (b5 h)⟩
      rcases hA with hA | hA
      · exact .inl (b4 hT (.inl hA))
      · rcases hT.val.ent i hik with h1 | ⟨j2, h1, h2, h3⟩
        · right
          intro q hq
          show A.getD q 0 = (s1.mate.set i (-1)).getD q 0
          rw [hg]
          split
          · rename_i hqi; rw [hqi]; exact h1.1
          · rw [b2 q (by omega)]; exact hA q (by omega)
        · exact .inl (b4 hT (.inr ⟨hA, j2, h2, h1⟩))
end
end Go.Proofs.Ytcfdmenmlemahaa
