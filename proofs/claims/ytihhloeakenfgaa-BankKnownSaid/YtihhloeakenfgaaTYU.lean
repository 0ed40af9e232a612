/-
  A part of the proof: what functions that the statement reaches do, or a plain law on what they do. Each theorem holds under its own premises alone.
-/
import Derived.Test.YtihhloeakenfgaaTYT
import Derived.Test.YtihhloeakenfgaaKit
namespace Go.Lk
open Go
/-! ### A region under way: each of the operations that may come next -/
theorem wpOp_of_list {P : Program} {ops : Array Oper} {j : Nat} {Q : Post} {K : Act → World → Prop} {a : Act} {w : World} (hi : (ops[j]?).isSome = true) (h : wpList P ops (QF K) [opAt ops j] a w) : wpOp P ops Q j K a w := by
  obtain ⟨oi, hoi⟩ := Option.isSome_iff_exists.1 hi
  have ho : opAt ops j = oi := by simp [opAt, hoi]
  rw [ho] at h
  simp only [wpList] at h
  unfold wpOp
  simp only [hoi]
  have hno : ¬ LetsOut (QF K) := fun ⟨_, _, h5⟩ => by cases h5.1
  by_cases hy : Region.wanted oi (yielded ops a.tmps) = true
  · rw [if_pos hy] at h ⊢
    rcases h with h | ⟨_, h⟩
    · left
      have h2 : oi.wp P a w K (QF K) := Oper.wp_mono (fun a' w' h3 => h3.2) h
      unfold Oper.wp at h2 ⊢
      generalize (execOp a.eval oi).run P w = r at h2 ⊢
      cases r with
      | halt x w' => cases x <;> first | exact h2 | (exact absurd h2.1 (by simp)) | (cases h2)
      | ok nx w' =>
        cases nx with
        | enter f args =>
          refine Calls.mono h2 fun e w'' he => ?_
          cases e with
          | returned v => exact he
          | panicked c => cases he.1
          | outgrown => exact absurd he hno
        | _ => exact h2
    · exact absurd h hno
  · rw [if_neg hy] at h ⊢
    exact h.2
section
variable {P : Program} {n : Nat} {Q : Post} {e E : Env} {w : World} {ops : Array Oper} {g : Nat} {listed : Array Bool}
theorem SG_env (h : SG P n ops Q g listed e w) (hl : ∀ d v, look e d = some v → look E d = some v) : SG P n ops Q g listed E w := fun a ha => h a ⟨ha.1, ha.2.1, fun i v hv => ha.2.2 i v (hl i v hv)⟩
theorem SG_pick (is : List Nat) (hr : Region.ready .any ops listed = is) (hne : is ≠ []) (his : is.all (fun i => (ops[i]?).isSome) = true) (h : ∀ i ∈ is, RL P n ops ([i].map (opAt ops)) (QF fun a w => wpAny P .any ops Q g (listed.setIfInBounds i true) a w) e w) : SG P n ops Q (g + 1) listed e w := fun a ha =>
  ⟨fun h0 => absurd (hr ▸ h0) hne, fun j hj => by
    rw [hr] at hj
    exact wpOp_of_list (List.all_eq_true.1 his j hj) (h j hj a ha)⟩
theorem SG_pick1 {i : Nat} {l1 : Array Bool} (hr : Region.ready .any ops listed = [i]) (his : [i].all (fun i => (ops[i]?).isSome) = true) (e1 : listed.setIfInBounds i true = l1)
    (h : RL P n ops ([i].map (opAt ops)) (QF fun a w => wpAny P .any ops Q g l1 a w) e w) : SG P n ops Q (g + 1) listed e w :=
  SG_pick [i] hr (by simp) his fun k hk => by
    simp only [List.mem_cons, List.not_mem_nil, or_false] at hk
    subst hk; rw [e1]; exact h
theorem SG_pick2 {i j : Nat} {l1 l2 : Array Bool} (hr : Region.ready .any ops listed = [i, j]) (his : [i, j].all (fun i => (ops[i]?).isSome) = true) (e1 : listed.setIfInBounds i true = l1) (e2 : listed.setIfInBounds j true = l2)
    (h : RL P n ops ([i].map (opAt ops)) (QF fun a w => wpAny P .any ops Q g l1 a w) e w) (h2 : RL P n ops ([j].map (opAt ops)) (QF fun a w => wpAny P .any ops Q g l2 a w) e w) : SG P n ops Q (g + 1) listed e w :=
  SG_pick [i, j] hr (by simp) his fun k hk => by
    simp only [List.mem_cons, List.not_mem_nil, or_false] at hk
    rcases hk with hk | hk
    · subst hk; rw [e1]; exact h
    · subst hk; rw [e2]; exact h2
theorem SG_pick3 {i j m : Nat} {l1 l2 l3 : Array Bool} (hr : Region.ready .any ops listed = [i, j, m]) (his : [i, j, m].all (fun i => (ops[i]?).isSome) = true) (e1 : listed.setIfInBounds i true = l1) (e2 : listed.setIfInBounds j true = l2) (e3 : listed.setIfInBounds m true = l3)
    (h : RL P n ops ([i].map (opAt ops)) (QF fun a w => wpAny P .any ops Q g l1 a w) e w) (h2 : RL P n ops ([j].map (opAt ops)) (QF fun a w => wpAny P .any ops Q g l2 a w) e w) (h3 : RL P n ops ([m].map (opAt ops)) (QF fun a w => wpAny P .any ops Q g l3 a w) e w) : SG P n ops Q (g + 1) listed e w :=
  SG_pick [i, j, m] hr (by simp) his fun k hk => by
    simp only [List.mem_cons, List.not_mem_nil, or_false] at hk
    rcases hk with hk | hk | hk
    · subst hk; rw [e1]; exact h
    · subst hk; rw [e2]; exact h2
    · subst hk; rw [e3]; exact h3
end
end Go.Lk
namespace Go.Lk
open Go
theorem SG_join {P : Program} {n : Nat} {Q : Post} {e : Env} {w : World} {ops : Array Oper} {g g' : Nat} {listed l' : Array Bool} (X : (Env → World → Prop) → Prop) (h : X (SG P n ops Q g' l') → SG P n ops Q g listed e w) (hend : X (SG P n ops Q g' l')) : SG P n ops Q g listed e w := h hend
end Go.Lk
