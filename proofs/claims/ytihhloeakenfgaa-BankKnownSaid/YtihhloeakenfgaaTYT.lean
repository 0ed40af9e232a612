/-
  A part of the proof: what functions that the statement reaches do, or a plain law on what they do. Each theorem holds under its own premises alone.
-/
import Derived.Test.YtihhloeakenfgaaTYS
namespace Go.Lk
open Go
/-! ### Who waits for whom, told by masks (a check that does not walk every way) -/
theorem waits_mono {md : Region.Mode} {ops : Array Oper} : ∀ (f g j i : Nat), f ≤ g → waitsB md ops f j i = true → waitsB md ops g j i = true
  | 0, _, _, _, _, h => by cases h
  | f + 1, 0, _, _, hfg, _ => by omega
  | f + 1, g + 1, j, i, hfg, h => by
    unfold waitsB at h ⊢
    cases ho : ops[j]? with
    | none => simp [ho] at h
    | some o =>
      simp only [ho] at h ⊢
      obtain ⟨e, he, hb⟩ := Array.any_eq_true'.1 h
      simp only [Bool.and_eq_true, Bool.or_eq_true, beq_iff_eq] at hb
      refine Array.any_eq_true'.2 ⟨e, he, ?_⟩
      simp only [Bool.and_eq_true, Bool.or_eq_true, beq_iff_eq]
      exact ⟨hb.1, hb.2.imp id (fun h2 => waits_mono f g _ _ (by omega) h2)⟩
def maskOf (md : Region.Mode) (n : Nat) (t : List Nat) (es : List Edge) : Nat := es.foldl (fun m e => if Region.binds md e && Nat.blt e.on n then m ||| ((1 <<< e.on) ||| t.getD e.on 0) else m) 0
def masks (md : Region.Mode) (ops : Array Oper) : Nat → List Nat
  | 0 => []
  | n + 1 => masks md ops n ++ [match ops[n]? with | none => 0 | some o => maskOf md n (masks md ops n) o.after.toList]
theorem masks_len {md : Region.Mode} {ops : Array Oper} : ∀ n, (masks md ops n).length = n
  | 0 => rfl
  | n + 1 => by rw [masks, List.length_append, masks_len n]; rfl
theorem maskOf_mem {md : Region.Mode} {n : Nat} {t : List Nat} {i : Nat} : ∀ (es : List Edge) (m : Nat), (es.foldl (fun m e => if Region.binds md e && Nat.blt e.on n then m ||| ((1 <<< e.on) ||| t.getD e.on 0) else m) m).testBit i = true → m.testBit i = true ∨ ∃ e ∈ es, Region.binds md e = true ∧ e.on < n ∧ (e.on = i ∨ (t.getD e.on 0).testBit i = true)
  | [], m, h => .inl h
  | e :: es, m, h => by
    rw [List.foldl_cons] at h
    rcases maskOf_mem es _ h with h1 | ⟨e', he', h1⟩
    · by_cases hc : (Region.binds md e && Nat.blt e.on n) = true
      · rw [if_pos hc] at h1
        rw [Bool.and_eq_true] at hc
        rw [Nat.testBit_or, Nat.testBit_or, Bool.or_eq_true, Bool.or_eq_true] at h1
        rcases h1 with h1 | h1 | h1
        · exact .inl h1
        · refine .inr ⟨e, by simp, hc.1, by simpa using hc.2, .inl ?_⟩
          rw [Nat.shiftLeft_eq, Nat.one_mul, Nat.testBit_two_pow] at h1
          exact of_decide_eq_true h1
        · exact .inr ⟨e, by simp, hc.1, by simpa using hc.2, .inr h1⟩
      · rw [if_neg hc] at h1
        exact .inl h1
    · exact .inr ⟨e', by simp [he'], h1⟩
theorem masks_sound {md : Region.Mode} {ops : Array Oper} : ∀ (n j i : Nat), j < n → ((masks md ops n).getD j 0).testBit i = true → waitsB md ops (j + 1) j i = true
  | 0, _, _, h, _ => absurd h (Nat.not_lt_zero _)
  | n + 1, j, i, hj, h => by
    rw [masks] at h
    by_cases hjn : j < n
    · have e : (masks md ops n ++ [match ops[n]? with | none => 0 | some o => maskOf md n (masks md ops n) o.after.toList]).getD j 0 = (masks md ops n).getD j 0 := by
        simp only [List.getD]
        rw [List.getElem?_append_left (by rw [masks_len]; exact hjn)]
      rw [e] at h
      exact masks_sound n j i hjn h
    · obtain rfl : j = n := by omega
      have e : (masks md ops j ++ [match ops[j]? with | none => 0 | some o => maskOf md j (masks md ops j) o.after.toList]).getD j 0 = (match ops[j]? with | none => 0 | some o => maskOf md j (masks md ops j) o.after.toList) := by
        simp only [List.getD]
        rw [List.getElem?_append_right (by rw [masks_len]; exact Nat.le_refl _), masks_len, Nat.sub_self]
        rfl
      rw [e] at h
      unfold waitsB
      cases ho : ops[j]? with
      | none => rw [ho] at h; simp at h
      | some o =>
        rw [ho] at h
        simp only
        rcases maskOf_mem o.after.toList 0 h with h1 | ⟨e, he, hb, hon, h1⟩
        · simp at h1
        · refine Array.any_eq_true'.2 ⟨e, by simpa using he, ?_⟩
          simp only [Bool.and_eq_true, Bool.or_eq_true, beq_iff_eq]
          refine ⟨hb, ?_⟩
          rcases h1 with h1 | h1
          · exact .inl h1
          · exact .inr (waits_mono (e.on + 1) j _ _ (by omega) (masks_sound j e.on i hon h1))
/-- The waits of a certificate, by masks. -/
def chkWaitsF (md : Region.Mode) (ops : Array Oper) (hd tl : List Nat) : Bool :=
  let t := masks md ops ops.size
  match tl with
  | [] => true
  | u :: r => Nat.blt u ops.size && hd.all (fun i => (t.getD u 0).testBit i) && go t u r
where go (t : List Nat) : Nat → List Nat → Bool
  | _, [] => true
  | u, v :: r => Nat.blt v ops.size && (t.getD v 0).testBit u && go t v r
theorem chain_of {md : Region.Mode} {ops : Array Oper} : ∀ (u : Nat) (r : List Nat), chkWaitsF.go ops (masks md ops ops.size) u r = true → chkWaits.chain md ops u r = true
  | _, [], _ => rfl
  | u, v :: r, h => by
    simp only [chkWaitsF.go, Bool.and_eq_true] at h
    simp only [chkWaits.chain, Bool.and_eq_true]
    have hv : v < ops.size := by simpa using h.1.1
    exact ⟨waits_mono _ _ _ _ (by omega) (masks_sound _ v u hv h.1.2), chain_of v r h.2⟩
theorem waits_of {md : Region.Mode} {ops : Array Oper} {hd tl : List Nat} (h : chkWaitsF md ops hd tl = true) : chkWaits md ops hd tl = true := by
  cases tl with
  | nil => rfl
  | cons u r =>
    simp only [chkWaitsF, Bool.and_eq_true, List.all_eq_true] at h
    simp only [chkWaits, Bool.and_eq_true, List.all_eq_true]
    have hu : u < ops.size := by simpa using h.1.1
    exact ⟨fun i hi => waits_mono _ _ _ _ (by omega) (masks_sound _ u i hu (h.1.2 i hi)), chain_of u r h.2⟩
def chkAllF (ops : Array Oper) (ps hd tl : List Nat) : Bool :=
  let l0 := Array.replicate ops.size false
  Region.noSelect ops && chkSeq .any ops ps l0 && ps.all (fun i => ((opAt ops i).dst).isSome) && closedB .any ops (setAll l0 ps) && tl.all (fun t => !(setAll l0 ps).getD t true) && chkWaitsF .any ops hd tl &&
  (List.range ops.size).all (fun i => ps.contains i || hd.contains i || tl.contains i) && ps.all (fun i => (setAll l0 ps).getD i true) && hd.all (fun i => !tl.contains i) && chkSeq .any ops hd (setAll l0 ps) &&
  tl.all (fun i => (ops[i]?).isSome) && chkTail .any ops tl (setAll (setAll l0 ps) hd) && decide (ps.length + hd.length + tl.length = ops.size)
theorem chkAll_of {ops : Array Oper} {ps hd tl : List Nat} (h : chkAllF ops ps hd tl = true) : chkAll ops ps hd tl = true := by
  simp only [chkAllF, Bool.and_eq_true] at h
  simp only [chkAll, Bool.and_eq_true]
  obtain ⟨⟨⟨⟨⟨⟨⟨⟨⟨⟨⟨⟨h1, h2⟩, h3⟩, h4⟩, h5⟩, h6⟩, h7⟩, h8⟩, h9⟩, h10⟩, h11⟩, h12⟩, h13⟩ := h
  exact ⟨⟨⟨⟨⟨⟨⟨⟨⟨⟨⟨⟨h1, h2⟩, h3⟩, h4⟩, h5⟩, waits_of h6⟩, h7⟩, h8⟩, h9⟩, h10⟩, h11⟩, h12⟩, h13⟩
end Go.Lk
