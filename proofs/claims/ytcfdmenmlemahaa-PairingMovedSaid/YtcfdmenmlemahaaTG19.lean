/-
  A part of the proof: what functions that the statement reaches do, or a plain law on what they do. Each theorem holds under its own premises alone.
-/
import Derived.Test.YtcfdmenmlemahaaTG18
namespace Go.Proofs.Ytcfdmenmlemahaa
open Go Go.Lk Go.Pr
theorem ahead_two {k i : Nat} {A M : List Int} {a : Nat} (hA : A.length = k) (hM : M.length = k) (hi : i < k) (he : ∀ q, q < i → A.getD q 0 = M.getD q 0) (ha : A.getD i 0 = (a : Int)) (hm : M.getD i 0 = -1 ∨ ∃ b : Nat, M.getD i 0 = (b : Int) ∧ a < b) : aheadB A M = true ∧ aheadB M A = false := by
  have hne : A.getD i 0 ≠ M.getD i 0 := by rcases hm with h | ⟨b, h, _⟩ <;> rw [ha, h] <;> omega
  constructor
  · rw [aheadB_at i (by omega) (by omega) he hne, ha]
    rcases hm with h | ⟨b, h, hab⟩
    · rw [h]; simp
    · rw [h]; simp; omega
  · rw [aheadB_at i (by omega) (by omega) (fun q hq => (he q hq).symm) (fun h => hne h.symm), ha]
    rcases hm with h | ⟨b, h, hab⟩
    · rw [h]; simp
    · rw [h]; simp; omega
section
variable {rows : List (List Int)} {n : Nat}
theorem list_eq {A M : List Int} {k : Nat} (hA : A.length = k) (hM : M.length = k) (h : ∀ q, q < k → A.getD q 0 = M.getD q 0) : M = A := by
  apply List.ext_getElem
  · omega
  · intro q h5 h6
    have := h q (by omega)
    simp only [List.getD, List.getElem?_eq_getElem h5, List.getElem?_eq_getElem h6, Option.getD_some] at this
    exact this.symm
theorem prs_whole {M : List Int} {k : Nat} (h : Val rows n true M k) : prs M k = k := tot_ones fun q hq => by
  rcases h.ent q hq with h1 | ⟨j, h1, _⟩
  · cases h1.2
  · rw [h1, if_neg (by omega)]
/-- A pairing of all rows, as a pairing of the square. -/
theorem val_square {M : List Int} (hk : rows.length ≤ n) (h : Val rows n true M rows.length) : ∃ f, Bij n f ∧ (∀ q, q < rows.length → M.getD q 0 = (f q : Int)) ∧ cst n (lsC rows) f = cos rows M rows.length := by
  have hq : ∀ q, q < rows.length → M.getD q 0 = ((M.getD q 0).toNat : Int) ∧ (M.getD q 0).toNat < n ∧ 0 ≤ el rows q (M.getD q 0).toNat := fun q hq => by
    rcases h.ent q hq with h1 | ⟨j, h1, h2, h3⟩
    · cases h1.2
    · rw [h1, Int.toNat_natCast]; exact ⟨rfl, h2, h3⟩
  obtain ⟨f, hf, he⟩ := ext_bij (n - rows.length) (n := n) (k := rows.length) (h := fun q => (M.getD q 0).toNat) (by omega) (fun q hq' => (hq q hq').2.1) (fun a b ha hb hab => h.inj a b ha hb (by rw [(hq a ha).1, (hq b hb).1, hab]) (by rw [(hq a ha).1]; omega))
  refine ⟨f, hf, fun q hq' => by rw [he q hq']; exact (hq q hq').1, ?_⟩
  have cL : cst n (lsC rows) f = tot rows.length (fun r => lsC rows r (f r)) := tot_tail hk fun r hr _ => by unfold lsC; rw [if_neg (by omega)]
  rw [cL]
  refine tot_congr fun q hq' => ?_
  rw [he q hq', lsC_real hq' (hq q hq').2.2, if_neg (by rw [(hq q hq').1]; omega)]
theorem top_least (hk : rows.length ≤ n) {g : Nat → Nat} (hg : Best n rows.length (lsC rows) g) (hp : ∀ i, i < rows.length → 0 ≤ el rows i (g i)) {A : List Int} (hA : A = (List.range rows.length).map (fun i => (g i : Int))) : Top rows n true rows.length A ∧ prs A rows.length = rows.length ∧ cos rows A rows.length = tot rows.length (fun i => el rows i (g i)) := by
  have hAl : A.length = rows.length := by rw [hA]; simp
  have hAg : ∀ q, q < rows.length → A.getD q 0 = (g q : Int) := fun q hq => by rw [hA]; simp [List.getD, hq]
  have hV : Val rows n true A rows.length := ⟨fun q hq => .inr ⟨g q, hAg q hq, hg.bij.lt q (by omega), hp q hq⟩, fun q r hq hr h1 _ => hg.bij.inj q r (by omega) (by omega) (by rw [hAg q hq, hAg r hr] at h1; omega)⟩
  have hcA : cos rows A rows.length = tot rows.length (fun i => el rows i (g i)) := tot_congr fun q hq => by rw [hAg q hq, if_neg (by omega), Int.toNat_natCast]
  have cG : cst n (lsC rows) g = tot rows.length (fun i => el rows i (g i)) := by
    have cL : cst n (lsC rows) g = tot rows.length (fun r => lsC rows r (g r)) := tot_tail hk fun r hr _ => by unfold lsC; rw [if_neg (by omega)]
    rw [cL]
    exact tot_congr fun q hq => lsC_real hq (hp q hq)
  refine ⟨⟨hAl, hV, fun M hMl hM hne => .inr ⟨by rw [prs_whole hV, prs_whole hM], ?_⟩⟩, prs_whole hV, hcA⟩
  obtain ⟨f, hf, hfM, hcf⟩ := val_square hk hM
  have h1 := hg.least f hf
  rw [hcf, cG, ← hcA] at h1
  by_cases he : cos rows A rows.length = cos rows M rows.length
  · right
    refine ⟨he, ?_⟩
    rcases hg.first f hf (by rw [hcf, cG, ← hcA, he]) with h2 | ⟨i, hi, h2, h3⟩
    · exact absurd (list_eq hAl hMl fun q hq => by rw [hAg q hq, hfM q hq, h2 q hq]) hne
    · exact ahead_two hAl hMl hi (fun q hq => by rw [hAg q (by omega), hfM q (by omega), h2 q hq]) (hAg i hi) (.inr ⟨f i, hfM i hi, h3⟩)
  · left; omega
/-- Where there is no pairing of all rows, there is none to try. -/
theorem none_least (hF : Fine rows) (hn : n = wid rows 0) {ms : List Int} {t e : Int} (h : LeastAns rows ms t e) (he : e = 170) (M : List Int) : ¬Val rows n true M rows.length := by
  intro hV
  have hc := chk_fine hF
  rcases h with ⟨_, _, _, h1⟩ | ⟨_, _, h1, _⟩ | ⟨_, _, hk, g, hg, ⟨⟨i, hi, hneg⟩, _⟩ | ⟨_, _, _, h1⟩⟩
  · omega
  · rw [← hn] at h1
    have hq : ∀ q, q < rows.length → M.getD q 0 = ((M.getD q 0).toNat : Int) ∧ (M.getD q 0).toNat < n := fun q hq => by
      rcases hV.ent q hq with h1 | ⟨j, h1, h2, h3⟩
      · cases h1.2
      · rw [h1, Int.toNat_natCast]; exact ⟨rfl, h2⟩
    have := php n rows.length (fun q => (M.getD q 0).toNat) (fun q hq' => (hq q hq').2) (fun a b ha hb hab => hV.inj a b ha hb (by rw [(hq a ha).1, (hq b hb).1, hab]) (by rw [(hq a ha).1]; omega))
    omega
  · rw [← hn] at hk hg
    obtain ⟨f, hf, hfM, hcf⟩ := val_square hk hV
    have h1 := hg.least f hf
    have hnn : ∀ r, r < n → 0 ≤ lsC rows r (g r) := fun r hr => by
      unfold lsC; split
      · split <;> omega
      · exact Int.le_refl _
    have h8 : lsC rows i (g i) ≤ tot n (fun r => lsC rows r (g r)) := tot_single (h := fun r => lsC rows r (g r)) hnn (show i < n by omega)
    have h9 : tot n (fun r => lsC rows r (g r)) = cst n (lsC rows) g := rfl
    have h10 : lsC rows i (g i) = 4503599627370496 := by unfold lsC; rw [if_pos hi, if_pos hneg]
    have h11 := tot_bound (n := rows.length) (h := fun q => if M.getD q 0 = -1 then 0 else el rows q (M.getD q 0).toNat) (B := 1099511627776) (fun q hq => by
      split
      · omega
      · rcases hV.ent q hq with h1 | ⟨j, h1, h2, h3⟩
        · cases h1.2
        · rw [h1, Int.toNat_natCast]
          exact hF.cost q j hq (by rw [hF.same q hq, ← hn]; exact h2))
    have h12 : tot rows.length (fun q => if M.getD q 0 = -1 then 0 else el rows q (M.getD q 0).toNat) = cos rows M rows.length := rfl
    have := hF.len
    omega
  · omega
/-- A pairing of some rows, as a pairing of the greater square. -/
theorem val_big {M : List Int} (hcost : ∀ r j, r < rows.length → j < n → el rows r j ≤ 1099511627776) (h : Val rows n false M rows.length) : ∃ f, Bij (n + rows.length) f ∧ (∀ q, q < rows.length → (M.getD q 0 = -1 ∧ f q = n + q) ∨ (M.getD q 0 = (f q : Int) ∧ f q < n)) ∧
    cst (n + rows.length) (msC rows n) f = cos rows M rows.length + 562949953421312 * ((rows.length : Int) - prs M rows.length) := by
  have hq : ∀ q, q < rows.length → M.getD q 0 = -1 ∨ (M.getD q 0 ≠ -1 ∧ M.getD q 0 = ((M.getD q 0).toNat : Int) ∧ (M.getD q 0).toNat < n ∧ 0 ≤ el rows q (M.getD q 0).toNat) := fun q hq => by
    rcases h.ent q hq with h1 | ⟨j, h1, h2, h3⟩
    · exact .inl h1.1
    · rw [h1, Int.toNat_natCast]; exact .inr ⟨by omega, rfl, h2, h3⟩
  obtain ⟨f, hf, he⟩ := ext_bij n (n := n + rows.length) (k := rows.length) (h := fun q => if M.getD q 0 = -1 then n + q else (M.getD q 0).toNat) (by omega) (fun q hq' => by
    rcases hq q hq' with h1 | ⟨h1, _, h2, _⟩
    · simp only [h1, if_true]; omega
    · simp only [h1, if_false]; omega) (fun a b ha hb hab => by
    rcases hq a ha with h1 | ⟨h1, e1, l1, _⟩ <;> rcases hq b hb with h2 | ⟨h2, e2, l2, _⟩
    · simp only [h1, h2, if_true] at hab; omega
    · simp only [h1, h2, if_true, if_false] at hab; omega
    · simp only [h1, h2, if_true, if_false] at hab; omega
    · simp only [h1, h2, if_false] at hab; exact h.inj a b ha hb (by rw [e1, e2, hab]) h1)
  refine ⟨f, hf, fun q hq' => ?_, ?_⟩
  · rcases hq q hq' with h1 | ⟨h1, e1, l1, _⟩
    · exact .inl ⟨h1, by rw [he q hq', if_pos h1]⟩
    · exact .inr ⟨by rw [he q hq', if_neg h1]; exact e1, by rw [he q hq', if_neg h1]; exact l1⟩
  · have cM : cst (n + rows.length) (msC rows n) f = tot rows.length (fun r => msC rows n r (f r)) := tot_tail (by omega) fun r hr _ => by unfold msC; rw [if_neg (by omega)]
    rw [cM]
    have key : ∀ i, i ≤ rows.length → tot i (fun r => msC rows n r (f r)) = cos rows M i + 562949953421312 * ((i : Int) - prs M i) := fun i => by
      induction i with
      | zero => intro _; rfl
      | succ i ih =>
        intro hi
        have h1 := ih (by omega)
        have e3 : tot (i + 1) (fun r => msC rows n r (f r)) = tot i (fun r => msC rows n r (f r)) + msC rows n i (f i) := rfl
        have e4 : cos rows M (i + 1) = cos rows M i + (if M.getD i 0 = -1 then 0 else el rows i (M.getD i 0).toNat) := rfl
        have e5 : prs M (i + 1) = prs M i + (if M.getD i 0 < 0 then 0 else 1) := rfl
        rw [e3, e4, e5, h1]
        rcases hq i (by omega) with h2 | ⟨h2, e6, l1, l2⟩
        · rw [he i (by omega), if_pos h2, if_pos h2, if_pos (by omega)]
          have : msC rows n i (n + i) = 562949953421312 := by unfold msC; rw [if_pos (by omega), if_pos rfl]
          omega
        · rw [he i (by omega), if_neg h2, if_neg h2, if_neg (by omega), msC_real (by omega) l1 l2]
          omega
    exact key rows.length (Nat.le_refl _)
theorem top_most (hF : Fine rows) (hn : n = wid rows 0) {A ms : List Int} {cnt u f0 t e : Int} (hl : LeastAns rows ms t e) (hm : MostAns rows A cnt u f0) : Top rows n false rows.length A ∧ prs A rows.length = cnt ∧ cos rows A rows.length = u := by
  obtain ⟨hT, _⟩ := told_of hF hl hm
  have hcost : ∀ r j, r < rows.length → j < n → el rows r j ≤ 1099511627776 := fun r j hr hj => hF.cost r j hr (by rw [hF.same r hr, ← hn]; exact hj)
  have hVA : Val rows n false A rows.length := ⟨fun q hq => by
    rcases hT.ent q hq with h1 | ⟨j, h1, _, h2, h3⟩
    · exact .inl ⟨h1, rfl⟩
    · exact .inr ⟨j, h1, by rw [hn, ← hF.same q hq]; exact h2, h3⟩, hT.inj⟩
  refine ⟨⟨hT.len, hVA, fun M hMl hM hne => ?_⟩, hT.cnt'.symm, hT.uu.symm⟩
  have hc := chk_fine hF
  rcases hm with ⟨h1 | h1, _⟩ | ⟨_, h0, f, hf, hA, _⟩
  · exact absurd hc h1
  · exact absurd (list_eq hT.len hMl fun q hq => by omega) hne
  · rw [← hn] at hf hA
    have hreal := fun i hi => most_real (rows := rows) hcost hf (i := i) hi
    have hAg : ∀ q, q < rows.length → (A.getD q 0 = -1 ∧ f q = n + q) ∨ (A.getD q 0 = (f q : Int) ∧ f q < n) := fun q hq => by
      have h1 : A.getD q 0 = if f q < n then (f q : Int) else -1 := by rw [hA]; simp [List.getD, hq]
      by_cases h2 : f q < n
      · rw [if_pos h2] at h1; exact .inr ⟨h1, h2⟩
      · rw [if_neg h2] at h1; exact .inl ⟨h1, (hreal q hq).2 (by omega)⟩
    obtain ⟨fA, hfA, heA, hcA⟩ := val_big hcost hVA
    obtain ⟨fM, hfM, heM, hcM⟩ := val_big hcost hM
    have hcf : cst (n + rows.length) (msC rows n) f = cst (n + rows.length) (msC rows n) fA := by
      have e1 : cst (n + rows.length) (msC rows n) f = tot rows.length (fun r => msC rows n r (f r)) := tot_tail (by omega) fun r hr _ => by unfold msC; rw [if_neg (by omega)]
      have e2 : cst (n + rows.length) (msC rows n) fA = tot rows.length (fun r => msC rows n r (fA r)) := tot_tail (by omega) fun r hr _ => by unfold msC; rw [if_neg (by omega)]
      rw [e1, e2]
      refine tot_congr fun q hq => ?_
      rcases hAg q hq with ⟨a1, a2⟩ | ⟨a1, a2⟩ <;> rcases heA q hq with ⟨b1, b2⟩ | ⟨b1, b2⟩
      · rw [a2, b2]
      · omega
      · omega
      · rw [show f q = fA q by omega]
    have h1 := hf.least fM hfM
    rw [hcf, hcA, hcM] at h1
    have hb : ∀ N : List Int, Val rows n false N rows.length → 0 ≤ cos rows N rows.length ∧ cos rows N rows.length ≤ 281474976710656 := fun N hN => by
      have hlen := hF.len
      constructor
      · refine tot_nonneg fun q hq => ?_
        split
        · omega
        · rcases hN.ent q hq with h2 | ⟨j, h2, _, h3⟩
          · exact absurd h2.1 (by assumption)
          · rw [h2, Int.toNat_natCast]; exact h3
      · have := tot_bound (n := rows.length) (h := fun q => if N.getD q 0 = -1 then 0 else el rows q (N.getD q 0).toNat) (B := 1099511627776) (fun q hq => by
          split
          · omega
          · rcases hN.ent q hq with h2 | ⟨j, h2, h3, _⟩
            · exact absurd h2.1 (by assumption)
            · rw [h2, Int.toNat_natCast]; exact hcost q j hq h3)
        have e : tot rows.length (fun q => if N.getD q 0 = -1 then 0 else el rows q (N.getD q 0).toNat) = cos rows N rows.length := rfl
        omega
    have b1 := hb A hVA
    have b2 := hb M hM
    by_cases hp : prs M rows.length < prs A rows.length
    · exact .inl hp
    · have hpe : prs A rows.length = prs M rows.length := by omega
      refine .inr ⟨hpe, ?_⟩
      by_cases hce : cos rows A rows.length = cos rows M rows.length
      · refine .inr ⟨hce, ?_⟩
        have hfirst := hf.first fM hfM (by rw [hcf, hcA, hcM, hce, hpe])
        have heq : ∀ q, q < rows.length → fM q = f q → A.getD q 0 = M.getD q 0 := fun q hq h2 => by
          rcases hAg q hq with ⟨a1, a2⟩ | ⟨a1, a2⟩ <;> rcases heM q hq with ⟨c1, c2⟩ | ⟨c1, c2⟩
          · rw [a1, c1]
          · omega
          · omega
          · rw [a1, c1, h2]
        rcases hfirst with h2 | ⟨i, hi, h2, h3⟩
        · exact absurd (list_eq hT.len hMl fun q hq => heq q hq (h2 q hq)) hne
        · rcases hAg i hi with ⟨a1, a2⟩ | ⟨a1, a2⟩
          · exfalso
            rcases heM i hi with ⟨c1, c2⟩ | ⟨c1, c2⟩ <;> omega
          · refine ahead_two hT.len hMl hi (fun q hq => heq q (by omega) (h2 q hq)) a1 ?_
            rcases heM i hi with ⟨c1, c2⟩ | ⟨c1, c2⟩
            · exact .inl c1
            · exact .inr ⟨fM i, c1, h3⟩
      · left; omega
end
end Go.Proofs.Ytcfdmenmlemahaa
