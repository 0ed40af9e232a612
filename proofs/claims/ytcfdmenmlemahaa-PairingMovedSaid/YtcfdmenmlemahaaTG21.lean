/-
  A part of the proof: what functions that the statement reaches do, or a plain law on what they do. Each theorem holds under its own premises alone.
-/
import Derived.Test.YtcfdmenmlemahaaTG20
import Derived.Test.YtcfdmenmlemahaaKit
import Derived.Test.YtcfdmenmlemahaaTYT
namespace Go.Proofs.Ytcfdmenmlemahaa
open Go Go.Lk Go.Pr
theorem tryF_len {rows : List (List Int)} {n k : Nat} {whole : Bool} : ∀ (d i : Nat) {p t : Int} {us : List Bool} {s : St}, s.mate.length = k → (s.found = true → s.L.length = k) → (tryF rows n whole d i p t us s).mate.length = k ∧ ((tryF rows n whole d i p t us s).found = true → (tryF rows n whole d i p t us s).L.length = k)
  | 0, i, p, t, us, s, h1, h2 => by
    simp only [tryF]
    split
    · exact ⟨h1, fun _ => h1⟩
    · exact ⟨h1, h2⟩
  | d + 1, i, p, t, us, s, h1, h2 => by
    have hall := foldl_inv (s := s) (f := fun s j => if 0 ≤ el rows i j ∧ us.getD j false = false then tryF rows n whole d (i + 1) (p + 1) (t + el rows i j) (us.set j true) { s with mate := s.mate.set i (j : Int) } else s)
      (R := fun _ s1 => s1.mate.length = k ∧ (s1.found = true → s1.L.length = k)) n ⟨h1, h2⟩ (fun j s1 hj ⟨b1, b2⟩ => by
        by_cases hc : 0 ≤ el rows i j ∧ us.getD j false = false
        · simp only [hc, and_self, if_true]
          exact tryF_len d (i + 1) (by rw [List.length_set]; exact b1) b2
        · simp only [hc, if_false]
          exact ⟨b1, b2⟩)
    simp only [tryF]
    split
    · exact hall
    · exact tryF_len d (i + 1) (by rw [List.length_set]; exact hall.1) hall.2
section
variable {V0 : World} {rows : List (List Int)} {rvs : List Value} {a : Option Addr} {k cp n B gU gM : Nat}
/-- what a column's trying does to what is held -/
def stepF (rows : List (List Int)) (n : Nat) (whole : Bool) (d i : Nat) (p t : Int) (us : List Bool) (s : St) (j : Nat) : St := if 0 ≤ el rows i j ∧ us.getD j false = false then tryF rows n whole d (i + 1) (p + 1) (t + el rows i j) (us.set j true) { s with mate := s.mate.set i (j : Int) } else s
set_option maxHeartbeats 2000000 in
theorem leaf_ok (whole : Bool) (p t : Int) (us : List Bool) (s : St) (lv : Value) (N : List (Nat × Obj)) (w0 : World) (hk : rows.length = k) (hk5 : k ≤ 5) (hml : s.mate.length = k) (hLl : s.found = true → s.L.length = k)
    (hO : ∀ {us : List Bool} {lv : Value} {s : St}, Own V0 (TryL B gU gM a k cp n us lv s)) (hs0 : HS V0 w0 (TryL B gU gM a k cp n us lv s ++ N)) (hb0 : Bl V0 3 1 lv s.L.length (il s.L) N) :
    Ret Try.prog 26 [.pointer (some ⟨B, 0, none⟩), .int .i64 k, .int .i64 p, .int .i64 t, .bool whole] w0 fun _ w' => ∃ lv' N', HS V0 w' (TryL B gU gM a k cp n us lv' (tryF rows n whole 0 k p t us s) ++ N') ∧ Bl V0 3 1 lv' (tryF rows n whole 0 k p t us s).L.length (il (tryF rows n whole 0 k p t us s).L) N' := by
  have hs := hs0
  clear hs0
  refine calls_of_W Try.func26 rfl rfl rfl ?_
  refine W_seq ?_
  refine W_seq ?_
  refine W_region ?_
  refine L_move rfl rfl ?_
  refine L_move rfl rfl ?_
  refine L_nilCheck rfl rfl ?_
  refine L_fieldAddr rfl (off := 0) Try.underlying33 rfl rfl Try.ti22 rfl ?_
  refine L_load rfl Try.one22 rfl (by exact hs.cellA (i := 2) rfl rfl) ?_
  refine L_len rfl Try.underlying22 rfl ?_
  first | refine L_eql rfl rfl rfl (dtrue (by omega)) ?_ | refine L_eql rfl rfl rfl (dfalse (by omega)) ?_ | refine L_eql rfl rfl rfl rfl ?_
  refine RL_then ?_
  refine W_if_true rfl ?_
  refine W_seq ?_
  refine W_cut2 (fun (bb : Bool) (w : World) => [(0, .pointer (some ⟨B, 0, none⟩)), (2, .int .i64 p), (3, .int .i64 t), (10, .bool bb)]) (fun (bb : Bool) (w : World) => w) (fun (bb : Bool) (w : World) => (bb = bet s p t s.mate) ∧ (HS V0 w (TryL B gU gM a k cp n us lv s ++ N))) ?_ ?_
  · obtain ⟨la, lc, hlv, _⟩ := hb0.slice
    refine W_pht [0, 1, 2] [3, 4, 5, 6, 7, 8, 9, 10, 11, 12, 13, 14, 15, 16, 17, 18, 19, 20, 21, 22, 23, 24, 25, 26, 27, 28, 29, 30, 31, 32, 33, 34, 35, 36, 37, 38, 39, 40, 41, 42] [43, 44, 45, 46, 47, 48] (fun _ _ _ => False) Try.mixed (chkAll_of (by kernel_rfl)) (fun _ _ _ _ _ h => h) hs ?_
    refine PL_val rfl (fun w => R_move rfl) ?_
    refine PL_val rfl (fun w => R_nilCheck rfl) ?_
    refine PL_val rfl (fun w => R_fieldAddr (off := 3) Try.underlying33 rfl rfl Try.ti4 rfl) ?_
    refine PL_end ?_
    refine HL_val rfl (fun w hs => R_load Try.one4 rfl (by exact hs.cellA (i := 2) rfl rfl)) ?_
    cases hf : s.found
    · refine HL_val rfl (fun w hs => R_not rfl) ?_
      refine HL_val rfl (fun w hs => R_move rfl) ?_
      first | (refine HL_want rfl rfl ?_; refine HL_val rfl (fun w hs => R_move rfl) ?_) | refine HL_skip rfl rfl rfl rfl ?_ | refine HL_skipU rfl rfl rfl ?_
      first | (refine HL_want rfl rfl ?_; refine HL_val rfl (fun w hs => R_move rfl) ?_) | refine HL_skip rfl rfl rfl rfl ?_ | refine HL_skipU rfl rfl rfl ?_
      first | (refine HL_want rfl rfl ?_; refine HL_val rfl (fun w hs => R_nilCheck rfl) ?_) | refine HL_skip rfl rfl rfl rfl ?_ | refine HL_skipU rfl rfl rfl ?_
      first | (refine HL_want rfl rfl ?_; refine HL_val rfl (fun w hs => R_fieldAddr (off := 4) Try.underlying33 rfl rfl Try.ti3 rfl) ?_) | refine HL_skip rfl rfl rfl rfl ?_ | refine HL_skipU rfl rfl rfl ?_
      first | (refine HL_want rfl rfl ?_; refine HL_val rfl (fun w hs => R_load Try.one3 rfl (by exact hs.cellA (i := 2) rfl rfl)) ?_) | refine HL_skip rfl rfl rfl rfl ?_ | refine HL_skipU rfl rfl rfl ?_
      first | (refine HL_want rfl rfl ?_; (first | refine HL_val rfl (fun w hs => R_gtr rfl rfl (dtrue (by omega))) ?_ | refine HL_val rfl (fun w hs => R_gtr rfl rfl (dfalse (by omega))) ?_ | refine HL_val rfl (fun w hs => R_gtr rfl rfl rfl) ?_)) | refine HL_skip rfl rfl rfl rfl ?_ | refine HL_skipU rfl rfl rfl ?_
      first | refine HL_val rfl (fun w hs => R_pick_t rfl rfl) ?_ | refine HL_val rfl (fun w hs => R_pick_f rfl rfl) ?_
      refine HL_val rfl (fun w hs => R_move rfl) ?_
      first | (refine HL_want rfl rfl ?_; refine HL_val rfl (fun w hs => R_move rfl) ?_) | refine HL_skip rfl rfl rfl rfl ?_ | refine HL_skipU rfl rfl rfl ?_
      first | (refine HL_want rfl rfl ?_; refine HL_val rfl (fun w hs => R_move rfl) ?_) | refine HL_skip rfl rfl rfl rfl ?_ | refine HL_skipU rfl rfl rfl ?_
      first | (refine HL_want rfl rfl ?_; refine HL_val rfl (fun w hs => R_nilCheck rfl) ?_) | refine HL_skip rfl rfl rfl rfl ?_ | refine HL_skipU rfl rfl rfl ?_
      first | (refine HL_want rfl rfl ?_; refine HL_val rfl (fun w hs => R_fieldAddr (off := 4) Try.underlying33 rfl rfl Try.ti3 rfl) ?_) | refine HL_skip rfl rfl rfl rfl ?_ | refine HL_skipU rfl rfl rfl ?_
      first | (refine HL_want rfl rfl ?_; refine HL_val rfl (fun w hs => R_load Try.one3 rfl (by exact hs.cellA (i := 2) rfl rfl)) ?_) | refine HL_skip rfl rfl rfl rfl ?_ | refine HL_skipU rfl rfl rfl ?_
      first | (refine HL_want rfl rfl ?_; (first | refine HL_val rfl (fun w hs => R_eql rfl rfl (dtrue (by omega))) ?_ | refine HL_val rfl (fun w hs => R_eql rfl rfl (dfalse (by omega))) ?_ | refine HL_val rfl (fun w hs => R_eql rfl rfl rfl) ?_)) | refine HL_skip rfl rfl rfl rfl ?_ | refine HL_skipU rfl rfl rfl ?_
      first | (refine HL_want rfl rfl ?_; refine HL_val rfl (fun w hs => R_move rfl) ?_) | refine HL_skip rfl rfl rfl rfl ?_ | refine HL_skipU rfl rfl rfl ?_
      first | (refine HL_want rfl rfl ?_; refine HL_val rfl (fun w hs => R_move rfl) ?_) | refine HL_skip rfl rfl rfl rfl ?_ | refine HL_skipU rfl rfl rfl ?_
      first | (refine HL_want rfl rfl ?_; refine HL_val rfl (fun w hs => R_move rfl) ?_) | refine HL_skip rfl rfl rfl rfl ?_ | refine HL_skipU rfl rfl rfl ?_
      first | (refine HL_want rfl rfl ?_; refine HL_val rfl (fun w hs => R_nilCheck rfl) ?_) | refine HL_skip rfl rfl rfl rfl ?_ | refine HL_skipU rfl rfl rfl ?_
      first | (refine HL_want rfl rfl ?_; refine HL_val rfl (fun w hs => R_fieldAddr (off := 5) Try.underlying33 rfl rfl Try.ti2 rfl) ?_) | refine HL_skip rfl rfl rfl rfl ?_ | refine HL_skipU rfl rfl rfl ?_
      first | (refine HL_want rfl rfl ?_; refine HL_val rfl (fun w hs => R_load Try.one2 rfl (by exact hs.cellA (i := 2) rfl rfl)) ?_) | refine HL_skip rfl rfl rfl rfl ?_ | refine HL_skipU rfl rfl rfl ?_
      first | (refine HL_want rfl rfl ?_; (first | refine HL_val rfl (fun w hs => R_lss rfl rfl (dtrue (by omega))) ?_ | refine HL_val rfl (fun w hs => R_lss rfl rfl (dfalse (by omega))) ?_ | refine HL_val rfl (fun w hs => R_lss rfl rfl rfl) ?_)) | refine HL_skip rfl rfl rfl rfl ?_ | refine HL_skipU rfl rfl rfl ?_
      first | (refine HL_want rfl rfl ?_; refine HL_val rfl (fun w hs => R_move rfl) ?_) | refine HL_skip rfl rfl rfl rfl ?_ | refine HL_skipU rfl rfl rfl ?_
      first | (refine HL_want rfl rfl ?_; refine HL_val rfl (fun w hs => R_move rfl) ?_) | refine HL_skip rfl rfl rfl rfl ?_ | refine HL_skipU rfl rfl rfl ?_
      first | (refine HL_want rfl rfl ?_; refine HL_val rfl (fun w hs => R_move rfl) ?_) | refine HL_skip rfl rfl rfl rfl ?_ | refine HL_skipU rfl rfl rfl ?_
      first | (refine HL_want rfl rfl ?_; refine HL_val rfl (fun w hs => R_nilCheck rfl) ?_) | refine HL_skip rfl rfl rfl rfl ?_ | refine HL_skipU rfl rfl rfl ?_
      first | (refine HL_want rfl rfl ?_; refine HL_val rfl (fun w hs => R_fieldAddr (off := 5) Try.underlying33 rfl rfl Try.ti2 rfl) ?_) | refine HL_skip rfl rfl rfl rfl ?_ | refine HL_skipU rfl rfl rfl ?_
      first | (refine HL_want rfl rfl ?_; refine HL_val rfl (fun w hs => R_load Try.one2 rfl (by exact hs.cellA (i := 2) rfl rfl)) ?_) | refine HL_skip rfl rfl rfl rfl ?_ | refine HL_skipU rfl rfl rfl ?_
      first | (refine HL_want rfl rfl ?_; (first | refine HL_val rfl (fun w hs => R_eql rfl rfl (dtrue (by omega))) ?_ | refine HL_val rfl (fun w hs => R_eql rfl rfl (dfalse (by omega))) ?_ | refine HL_val rfl (fun w hs => R_eql rfl rfl rfl) ?_)) | refine HL_skip rfl rfl rfl rfl ?_ | refine HL_skipU rfl rfl rfl ?_
      first | (refine HL_want rfl rfl ?_; refine HL_val rfl (fun w hs => R_move rfl) ?_) | refine HL_skip rfl rfl rfl rfl ?_ | refine HL_skipU rfl rfl rfl ?_
      first | (refine HL_want rfl rfl ?_; refine HL_val rfl (fun w hs => R_move rfl) ?_) | refine HL_skip rfl rfl rfl rfl ?_ | refine HL_skipU rfl rfl rfl ?_
      first | (refine HL_want rfl rfl ?_; refine HL_val rfl (fun w hs => R_nilCheck rfl) ?_) | refine HL_skip rfl rfl rfl rfl ?_ | refine HL_skipU rfl rfl rfl ?_
      first | (refine HL_want rfl rfl ?_; refine HL_val rfl (fun w hs => R_fieldAddr (off := 2) Try.underlying33 rfl rfl Try.ti25 rfl) ?_) | refine HL_skip rfl rfl rfl rfl ?_ | refine HL_skipU rfl rfl rfl ?_
      first | (refine HL_want rfl rfl ?_; refine HL_val rfl (fun w hs => R_load Try.one25 rfl (by exact hs.cellA (i := 2) rfl rfl)) ?_) | refine HL_skip rfl rfl rfl rfl ?_ | refine HL_skipU rfl rfl rfl ?_
      first | (refine HL_want rfl rfl ?_; refine HL_val rfl (fun w hs => R_move rfl) ?_) | refine HL_skip rfl rfl rfl rfl ?_ | refine HL_skipU rfl rfl rfl ?_
      first | (refine HL_want rfl rfl ?_; refine HL_val rfl (fun w hs => R_nilCheck rfl) ?_) | refine HL_skip rfl rfl rfl rfl ?_ | refine HL_skipU rfl rfl rfl ?_
      first | (refine HL_want rfl rfl ?_; refine HL_val rfl (fun w hs => R_fieldAddr (off := 6) Try.underlying33 rfl rfl Try.ti25 rfl) ?_) | refine HL_skip rfl rfl rfl rfl ?_ | refine HL_skipU rfl rfl rfl ?_
      first | (refine HL_want rfl rfl ?_; refine HL_val rfl (fun w hs => R_load Try.one25 rfl (by exact hs.cellA (i := 2) rfl rfl)) ?_) | refine HL_skip rfl rfl rfl rfl ?_ | refine HL_skipU rfl rfl rfl ?_
      refine HL_tail ?_
      intro w hs
      first | refine RL_skip rfl rfl rfl rfl ?_ | refine RL_skipU rfl rfl rfl ?_
      first | (refine RL_want rfl rfl ?_; (first | refine L_pick_t rfl rfl rfl ?_ | refine L_pick_f rfl rfl rfl ?_)) | refine RL_skip rfl rfl rfl rfl ?_ | refine RL_skipU rfl rfl rfl ?_
      first | (refine RL_want rfl rfl ?_; (first | refine L_pick_t rfl rfl rfl ?_ | refine L_pick_f rfl rfl rfl ?_)) | refine RL_skip rfl rfl rfl rfl ?_ | refine RL_skipU rfl rfl rfl ?_
      first | (refine RL_want rfl rfl ?_; (first | refine L_pick_t rfl rfl rfl ?_ | refine L_pick_f rfl rfl rfl ?_)) | refine RL_skip rfl rfl rfl rfl ?_ | refine RL_skipU rfl rfl rfl ?_
      first | refine L_pick_t rfl rfl rfl ?_ | refine L_pick_f rfl rfl rfl ?_
      refine L_assign rfl rfl ?_
      refine RL_nil' ?_
      refine Nx_cutP (true, _) (is := [0, 2, 3, 10]) (I' := (fun (bb : Bool) (w : World) => (bb = bet s p t s.mate) ∧ (HS V0 w (TryL B gU gM a k cp n us lv s ++ N))) (true) (_)) rfl rfl rfl ?_
      exact ⟨by unfold bet; rw [hf]; rfl, hs⟩
    · have hll := hLl hf
      by_cases h1 : s.P < p
      · refine HL_val rfl (fun w hs => R_not rfl) ?_
        refine HL_val rfl (fun w hs => R_move rfl) ?_
        first | (refine HL_want rfl rfl ?_; refine HL_val rfl (fun w hs => R_move rfl) ?_) | refine HL_skip rfl rfl rfl rfl ?_ | refine HL_skipU rfl rfl rfl ?_
        first | (refine HL_want rfl rfl ?_; refine HL_val rfl (fun w hs => R_move rfl) ?_) | refine HL_skip rfl rfl rfl rfl ?_ | refine HL_skipU rfl rfl rfl ?_
        first | (refine HL_want rfl rfl ?_; refine HL_val rfl (fun w hs => R_nilCheck rfl) ?_) | refine HL_skip rfl rfl rfl rfl ?_ | refine HL_skipU rfl rfl rfl ?_
        first | (refine HL_want rfl rfl ?_; refine HL_val rfl (fun w hs => R_fieldAddr (off := 4) Try.underlying33 rfl rfl Try.ti3 rfl) ?_) | refine HL_skip rfl rfl rfl rfl ?_ | refine HL_skipU rfl rfl rfl ?_
        first | (refine HL_want rfl rfl ?_; refine HL_val rfl (fun w hs => R_load Try.one3 rfl (by exact hs.cellA (i := 2) rfl rfl)) ?_) | refine HL_skip rfl rfl rfl rfl ?_ | refine HL_skipU rfl rfl rfl ?_
        first | (refine HL_want rfl rfl ?_; (first | refine HL_val rfl (fun w hs => R_gtr rfl rfl (dtrue (by omega))) ?_ | refine HL_val rfl (fun w hs => R_gtr rfl rfl (dfalse (by omega))) ?_ | refine HL_val rfl (fun w hs => R_gtr rfl rfl rfl) ?_)) | refine HL_skip rfl rfl rfl rfl ?_ | refine HL_skipU rfl rfl rfl ?_
        first | refine HL_val rfl (fun w hs => R_pick_t rfl rfl) ?_ | refine HL_val rfl (fun w hs => R_pick_f rfl rfl) ?_
        refine HL_val rfl (fun w hs => R_move rfl) ?_
        first | (refine HL_want rfl rfl ?_; refine HL_val rfl (fun w hs => R_move rfl) ?_) | refine HL_skip rfl rfl rfl rfl ?_ | refine HL_skipU rfl rfl rfl ?_
        first | (refine HL_want rfl rfl ?_; refine HL_val rfl (fun w hs => R_move rfl) ?_) | refine HL_skip rfl rfl rfl rfl ?_ | refine HL_skipU rfl rfl rfl ?_
        first | (refine HL_want rfl rfl ?_; refine HL_val rfl (fun w hs => R_nilCheck rfl) ?_) | refine HL_skip rfl rfl rfl rfl ?_ | refine HL_skipU rfl rfl rfl ?_
        first | (refine HL_want rfl rfl ?_; refine HL_val rfl (fun w hs => R_fieldAddr (off := 4) Try.underlying33 rfl rfl Try.ti3 rfl) ?_) | refine HL_skip rfl rfl rfl rfl ?_ | refine HL_skipU rfl rfl rfl ?_
        first | (refine HL_want rfl rfl ?_; refine HL_val rfl (fun w hs => R_load Try.one3 rfl (by exact hs.cellA (i := 2) rfl rfl)) ?_) | refine HL_skip rfl rfl rfl rfl ?_ | refine HL_skipU rfl rfl rfl ?_
        first | (refine HL_want rfl rfl ?_; (first | refine HL_val rfl (fun w hs => R_eql rfl rfl (dtrue (by omega))) ?_ | refine HL_val rfl (fun w hs => R_eql rfl rfl (dfalse (by omega))) ?_ | refine HL_val rfl (fun w hs => R_eql rfl rfl rfl) ?_)) | refine HL_skip rfl rfl rfl rfl ?_ | refine HL_skipU rfl rfl rfl ?_
        first | (refine HL_want rfl rfl ?_; refine HL_val rfl (fun w hs => R_move rfl) ?_) | refine HL_skip rfl rfl rfl rfl ?_ | refine HL_skipU rfl rfl rfl ?_
        first | (refine HL_want rfl rfl ?_; refine HL_val rfl (fun w hs => R_move rfl) ?_) | refine HL_skip rfl rfl rfl rfl ?_ | refine HL_skipU rfl rfl rfl ?_
        first | (refine HL_want rfl rfl ?_; refine HL_val rfl (fun w hs => R_move rfl) ?_) | refine HL_skip rfl rfl rfl rfl ?_ | refine HL_skipU rfl rfl rfl ?_
        first | (refine HL_want rfl rfl ?_; refine HL_val rfl (fun w hs => R_nilCheck rfl) ?_) | refine HL_skip rfl rfl rfl rfl ?_ | refine HL_skipU rfl rfl rfl ?_
        first | (refine HL_want rfl rfl ?_; refine HL_val rfl (fun w hs => R_fieldAddr (off := 5) Try.underlying33 rfl rfl Try.ti2 rfl) ?_) | refine HL_skip rfl rfl rfl rfl ?_ | refine HL_skipU rfl rfl rfl ?_
        first | (refine HL_want rfl rfl ?_; refine HL_val rfl (fun w hs => R_load Try.one2 rfl (by exact hs.cellA (i := 2) rfl rfl)) ?_) | refine HL_skip rfl rfl rfl rfl ?_ | refine HL_skipU rfl rfl rfl ?_
        first | (refine HL_want rfl rfl ?_; (first | refine HL_val rfl (fun w hs => R_lss rfl rfl (dtrue (by omega))) ?_ | refine HL_val rfl (fun w hs => R_lss rfl rfl (dfalse (by omega))) ?_ | refine HL_val rfl (fun w hs => R_lss rfl rfl rfl) ?_)) | refine HL_skip rfl rfl rfl rfl ?_ | refine HL_skipU rfl rfl rfl ?_
        first | (refine HL_want rfl rfl ?_; refine HL_val rfl (fun w hs => R_move rfl) ?_) | refine HL_skip rfl rfl rfl rfl ?_ | refine HL_skipU rfl rfl rfl ?_
        first | (refine HL_want rfl rfl ?_; refine HL_val rfl (fun w hs => R_move rfl) ?_) | refine HL_skip rfl rfl rfl rfl ?_ | refine HL_skipU rfl rfl rfl ?_
        first | (refine HL_want rfl rfl ?_; refine HL_val rfl (fun w hs => R_move rfl) ?_) | refine HL_skip rfl rfl rfl rfl ?_ | refine HL_skipU rfl rfl rfl ?_
        first | (refine HL_want rfl rfl ?_; refine HL_val rfl (fun w hs => R_nilCheck rfl) ?_) | refine HL_skip rfl rfl rfl rfl ?_ | refine HL_skipU rfl rfl rfl ?_
        first | (refine HL_want rfl rfl ?_; refine HL_val rfl (fun w hs => R_fieldAddr (off := 5) Try.underlying33 rfl rfl Try.ti2 rfl) ?_) | refine HL_skip rfl rfl rfl rfl ?_ | refine HL_skipU rfl rfl rfl ?_
        first | (refine HL_want rfl rfl ?_; refine HL_val rfl (fun w hs => R_load Try.one2 rfl (by exact hs.cellA (i := 2) rfl rfl)) ?_) | refine HL_skip rfl rfl rfl rfl ?_ | refine HL_skipU rfl rfl rfl ?_
        first | (refine HL_want rfl rfl ?_; (first | refine HL_val rfl (fun w hs => R_eql rfl rfl (dtrue (by omega))) ?_ | refine HL_val rfl (fun w hs => R_eql rfl rfl (dfalse (by omega))) ?_ | refine HL_val rfl (fun w hs => R_eql rfl rfl rfl) ?_)) | refine HL_skip rfl rfl rfl rfl ?_ | refine HL_skipU rfl rfl rfl ?_
        first | (refine HL_want rfl rfl ?_; refine HL_val rfl (fun w hs => R_move rfl) ?_) | refine HL_skip rfl rfl rfl rfl ?_ | refine HL_skipU rfl rfl rfl ?_
        first | (refine HL_want rfl rfl ?_; refine HL_val rfl (fun w hs => R_move rfl) ?_) | refine HL_skip rfl rfl rfl rfl ?_ | refine HL_skipU rfl rfl rfl ?_
        first | (refine HL_want rfl rfl ?_; refine HL_val rfl (fun w hs => R_nilCheck rfl) ?_) | refine HL_skip rfl rfl rfl rfl ?_ | refine HL_skipU rfl rfl rfl ?_
        first | (refine HL_want rfl rfl ?_; refine HL_val rfl (fun w hs => R_fieldAddr (off := 2) Try.underlying33 rfl rfl Try.ti25 rfl) ?_) | refine HL_skip rfl rfl rfl rfl ?_ | refine HL_skipU rfl rfl rfl ?_
        first | (refine HL_want rfl rfl ?_; refine HL_val rfl (fun w hs => R_load Try.one25 rfl (by exact hs.cellA (i := 2) rfl rfl)) ?_) | refine HL_skip rfl rfl rfl rfl ?_ | refine HL_skipU rfl rfl rfl ?_
        first | (refine HL_want rfl rfl ?_; refine HL_val rfl (fun w hs => R_move rfl) ?_) | refine HL_skip rfl rfl rfl rfl ?_ | refine HL_skipU rfl rfl rfl ?_
        first | (refine HL_want rfl rfl ?_; refine HL_val rfl (fun w hs => R_nilCheck rfl) ?_) | refine HL_skip rfl rfl rfl rfl ?_ | refine HL_skipU rfl rfl rfl ?_
        first | (refine HL_want rfl rfl ?_; refine HL_val rfl (fun w hs => R_fieldAddr (off := 6) Try.underlying33 rfl rfl Try.ti25 rfl) ?_) | refine HL_skip rfl rfl rfl rfl ?_ | refine HL_skipU rfl rfl rfl ?_
        first | (refine HL_want rfl rfl ?_; refine HL_val rfl (fun w hs => R_load Try.one25 rfl (by exact hs.cellA (i := 2) rfl rfl)) ?_) | refine HL_skip rfl rfl rfl rfl ?_ | refine HL_skipU rfl rfl rfl ?_
        refine HL_tail ?_
        intro w hs
        first | refine RL_skip rfl rfl rfl rfl ?_ | refine RL_skipU rfl rfl rfl ?_
        first | (refine RL_want rfl rfl ?_; (first | refine L_pick_t rfl rfl rfl ?_ | refine L_pick_f rfl rfl rfl ?_)) | refine RL_skip rfl rfl rfl rfl ?_ | refine RL_skipU rfl rfl rfl ?_
        first | (refine RL_want rfl rfl ?_; (first | refine L_pick_t rfl rfl rfl ?_ | refine L_pick_f rfl rfl rfl ?_)) | refine RL_skip rfl rfl rfl rfl ?_ | refine RL_skipU rfl rfl rfl ?_
        first | (refine RL_want rfl rfl ?_; (first | refine L_pick_t rfl rfl rfl ?_ | refine L_pick_f rfl rfl rfl ?_)) | refine RL_skip rfl rfl rfl rfl ?_ | refine RL_skipU rfl rfl rfl ?_
        first | refine L_pick_t rfl rfl rfl ?_ | refine L_pick_f rfl rfl rfl ?_
        refine L_assign rfl rfl ?_
        refine RL_nil' ?_
        refine Nx_cutP (true, _) (is := [0, 2, 3, 10]) (I' := (fun (bb : Bool) (w : World) => (bb = bet s p t s.mate) ∧ (HS V0 w (TryL B gU gM a k cp n us lv s ++ N))) (true) (_)) rfl rfl rfl ?_
        exact ⟨by unfold bet; rw [hf, decide_eq_true h1]; rfl, hs⟩
      · by_cases h2 : p = s.P
        · by_cases h3 : t < s.T
          · refine HL_val rfl (fun w hs => R_not rfl) ?_
            refine HL_val rfl (fun w hs => R_move rfl) ?_
            first | (refine HL_want rfl rfl ?_; refine HL_val rfl (fun w hs => R_move rfl) ?_) | refine HL_skip rfl rfl rfl rfl ?_ | refine HL_skipU rfl rfl rfl ?_
            first | (refine HL_want rfl rfl ?_; refine HL_val rfl (fun w hs => R_move rfl) ?_) | refine HL_skip rfl rfl rfl rfl ?_ | refine HL_skipU rfl rfl rfl ?_
            first | (refine HL_want rfl rfl ?_; refine HL_val rfl (fun w hs => R_nilCheck rfl) ?_) | refine HL_skip rfl rfl rfl rfl ?_ | refine HL_skipU rfl rfl rfl ?_
            first | (refine HL_want rfl rfl ?_; refine HL_val rfl (fun w hs => R_fieldAddr (off := 4) Try.underlying33 rfl rfl Try.ti3 rfl) ?_) | refine HL_skip rfl rfl rfl rfl ?_ | refine HL_skipU rfl rfl rfl ?_
            first | (refine HL_want rfl rfl ?_; refine HL_val rfl (fun w hs => R_load Try.one3 rfl (by exact hs.cellA (i := 2) rfl rfl)) ?_) | refine HL_skip rfl rfl rfl rfl ?_ | refine HL_skipU rfl rfl rfl ?_
            first | (refine HL_want rfl rfl ?_; (first | refine HL_val rfl (fun w hs => R_gtr rfl rfl (dtrue (by omega))) ?_ | refine HL_val rfl (fun w hs => R_gtr rfl rfl (dfalse (by omega))) ?_ | refine HL_val rfl (fun w hs => R_gtr rfl rfl rfl) ?_)) | refine HL_skip rfl rfl rfl rfl ?_ | refine HL_skipU rfl rfl rfl ?_
            first | refine HL_val rfl (fun w hs => R_pick_t rfl rfl) ?_ | refine HL_val rfl (fun w hs => R_pick_f rfl rfl) ?_
            refine HL_val rfl (fun w hs => R_move rfl) ?_
            first | (refine HL_want rfl rfl ?_; refine HL_val rfl (fun w hs => R_move rfl) ?_) | refine HL_skip rfl rfl rfl rfl ?_ | refine HL_skipU rfl rfl rfl ?_
            first | (refine HL_want rfl rfl ?_; refine HL_val rfl (fun w hs => R_move rfl) ?_) | refine HL_skip rfl rfl rfl rfl ?_ | refine HL_skipU rfl rfl rfl ?_
            first | (refine HL_want rfl rfl ?_; refine HL_val rfl (fun w hs => R_nilCheck rfl) ?_) | refine HL_skip rfl rfl rfl rfl ?_ | refine HL_skipU rfl rfl rfl ?_
            first | (refine HL_want rfl rfl ?_; refine HL_val rfl (fun w hs => R_fieldAddr (off := 4) Try.underlying33 rfl rfl Try.ti3 rfl) ?_) | refine HL_skip rfl rfl rfl rfl ?_ | refine HL_skipU rfl rfl rfl ?_
            first | (refine HL_want rfl rfl ?_; refine HL_val rfl (fun w hs => R_load Try.one3 rfl (by exact hs.cellA (i := 2) rfl rfl)) ?_) | refine HL_skip rfl rfl rfl rfl ?_ | refine HL_skipU rfl rfl rfl ?_
            first | (refine HL_want rfl rfl ?_; (first | refine HL_val rfl (fun w hs => R_eql rfl rfl (dtrue (by omega))) ?_ | refine HL_val rfl (fun w hs => R_eql rfl rfl (dfalse (by omega))) ?_ | refine HL_val rfl (fun w hs => R_eql rfl rfl rfl) ?_)) | refine HL_skip rfl rfl rfl rfl ?_ | refine HL_skipU rfl rfl rfl ?_
            first | (refine HL_want rfl rfl ?_; refine HL_val rfl (fun w hs => R_move rfl) ?_) | refine HL_skip rfl rfl rfl rfl ?_ | refine HL_skipU rfl rfl rfl ?_
            first | (refine HL_want rfl rfl ?_; refine HL_val rfl (fun w hs => R_move rfl) ?_) | refine HL_skip rfl rfl rfl rfl ?_ | refine HL_skipU rfl rfl rfl ?_
            first | (refine HL_want rfl rfl ?_; refine HL_val rfl (fun w hs => R_move rfl) ?_) | refine HL_skip rfl rfl rfl rfl ?_ | refine HL_skipU rfl rfl rfl ?_
            first | (refine HL_want rfl rfl ?_; refine HL_val rfl (fun w hs => R_nilCheck rfl) ?_) | refine HL_skip rfl rfl rfl rfl ?_ | refine HL_skipU rfl rfl rfl ?_
            first | (refine HL_want rfl rfl ?_; refine HL_val rfl (fun w hs => R_fieldAddr (off := 5) Try.underlying33 rfl rfl Try.ti2 rfl) ?_) | refine HL_skip rfl rfl rfl rfl ?_ | refine HL_skipU rfl rfl rfl ?_
            first | (refine HL_want rfl rfl ?_; refine HL_val rfl (fun w hs => R_load Try.one2 rfl (by exact hs.cellA (i := 2) rfl rfl)) ?_) | refine HL_skip rfl rfl rfl rfl ?_ | refine HL_skipU rfl rfl rfl ?_
            first | (refine HL_want rfl rfl ?_; (first | refine HL_val rfl (fun w hs => R_lss rfl rfl (dtrue (by omega))) ?_ | refine HL_val rfl (fun w hs => R_lss rfl rfl (dfalse (by omega))) ?_ | refine HL_val rfl (fun w hs => R_lss rfl rfl rfl) ?_)) | refine HL_skip rfl rfl rfl rfl ?_ | refine HL_skipU rfl rfl rfl ?_
            first | (refine HL_want rfl rfl ?_; refine HL_val rfl (fun w hs => R_move rfl) ?_) | refine HL_skip rfl rfl rfl rfl ?_ | refine HL_skipU rfl rfl rfl ?_
            first | (refine HL_want rfl rfl ?_; refine HL_val rfl (fun w hs => R_move rfl) ?_) | refine HL_skip rfl rfl rfl rfl ?_ | refine HL_skipU rfl rfl rfl ?_
            first | (refine HL_want rfl rfl ?_; refine HL_val rfl (fun w hs => R_move rfl) ?_) | refine HL_skip rfl rfl rfl rfl ?_ | refine HL_skipU rfl rfl rfl ?_
            first | (refine HL_want rfl rfl ?_; refine HL_val rfl (fun w hs => R_nilCheck rfl) ?_) | refine HL_skip rfl rfl rfl rfl ?_ | refine HL_skipU rfl rfl rfl ?_
            first | (refine HL_want rfl rfl ?_; refine HL_val rfl (fun w hs => R_fieldAddr (off := 5) Try.underlying33 rfl rfl Try.ti2 rfl) ?_) | refine HL_skip rfl rfl rfl rfl ?_ | refine HL_skipU rfl rfl rfl ?_
            first | (refine HL_want rfl rfl ?_; refine HL_val rfl (fun w hs => R_load Try.one2 rfl (by exact hs.cellA (i := 2) rfl rfl)) ?_) | refine HL_skip rfl rfl rfl rfl ?_ | refine HL_skipU rfl rfl rfl ?_
            first | (refine HL_want rfl rfl ?_; (first | refine HL_val rfl (fun w hs => R_eql rfl rfl (dtrue (by omega))) ?_ | refine HL_val rfl (fun w hs => R_eql rfl rfl (dfalse (by omega))) ?_ | refine HL_val rfl (fun w hs => R_eql rfl rfl rfl) ?_)) | refine HL_skip rfl rfl rfl rfl ?_ | refine HL_skipU rfl rfl rfl ?_
            first | (refine HL_want rfl rfl ?_; refine HL_val rfl (fun w hs => R_move rfl) ?_) | refine HL_skip rfl rfl rfl rfl ?_ | refine HL_skipU rfl rfl rfl ?_
            first | (refine HL_want rfl rfl ?_; refine HL_val rfl (fun w hs => R_move rfl) ?_) | refine HL_skip rfl rfl rfl rfl ?_ | refine HL_skipU rfl rfl rfl ?_
            first | (refine HL_want rfl rfl ?_; refine HL_val rfl (fun w hs => R_nilCheck rfl) ?_) | refine HL_skip rfl rfl rfl rfl ?_ | refine HL_skipU rfl rfl rfl ?_
            first | (refine HL_want rfl rfl ?_; refine HL_val rfl (fun w hs => R_fieldAddr (off := 2) Try.underlying33 rfl rfl Try.ti25 rfl) ?_) | refine HL_skip rfl rfl rfl rfl ?_ | refine HL_skipU rfl rfl rfl ?_
            first | (refine HL_want rfl rfl ?_; refine HL_val rfl (fun w hs => R_load Try.one25 rfl (by exact hs.cellA (i := 2) rfl rfl)) ?_) | refine HL_skip rfl rfl rfl rfl ?_ | refine HL_skipU rfl rfl rfl ?_
            first | (refine HL_want rfl rfl ?_; refine HL_val rfl (fun w hs => R_move rfl) ?_) | refine HL_skip rfl rfl rfl rfl ?_ | refine HL_skipU rfl rfl rfl ?_
            first | (refine HL_want rfl rfl ?_; refine HL_val rfl (fun w hs => R_nilCheck rfl) ?_) | refine HL_skip rfl rfl rfl rfl ?_ | refine HL_skipU rfl rfl rfl ?_
            first | (refine HL_want rfl rfl ?_; refine HL_val rfl (fun w hs => R_fieldAddr (off := 6) Try.underlying33 rfl rfl Try.ti25 rfl) ?_) | refine HL_skip rfl rfl rfl rfl ?_ | refine HL_skipU rfl rfl rfl ?_
            first | (refine HL_want rfl rfl ?_; refine HL_val rfl (fun w hs => R_load Try.one25 rfl (by exact hs.cellA (i := 2) rfl rfl)) ?_) | refine HL_skip rfl rfl rfl rfl ?_ | refine HL_skipU rfl rfl rfl ?_
            refine HL_tail ?_
            intro w hs
            first | refine RL_skip rfl rfl rfl rfl ?_ | refine RL_skipU rfl rfl rfl ?_
            first | (refine RL_want rfl rfl ?_; (first | refine L_pick_t rfl rfl rfl ?_ | refine L_pick_f rfl rfl rfl ?_)) | refine RL_skip rfl rfl rfl rfl ?_ | refine RL_skipU rfl rfl rfl ?_
            first | (refine RL_want rfl rfl ?_; (first | refine L_pick_t rfl rfl rfl ?_ | refine L_pick_f rfl rfl rfl ?_)) | refine RL_skip rfl rfl rfl rfl ?_ | refine RL_skipU rfl rfl rfl ?_
            first | (refine RL_want rfl rfl ?_; (first | refine L_pick_t rfl rfl rfl ?_ | refine L_pick_f rfl rfl rfl ?_)) | refine RL_skip rfl rfl rfl rfl ?_ | refine RL_skipU rfl rfl rfl ?_
            first | refine L_pick_t rfl rfl rfl ?_ | refine L_pick_f rfl rfl rfl ?_
            refine L_assign rfl rfl ?_
            refine RL_nil' ?_
            refine Nx_cutP (true, _) (is := [0, 2, 3, 10]) (I' := (fun (bb : Bool) (w : World) => (bb = bet s p t s.mate) ∧ (HS V0 w (TryL B gU gM a k cp n us lv s ++ N))) (true) (_)) rfl rfl rfl ?_
            exact ⟨by unfold bet; rw [hf, decide_eq_false h1, decide_eq_true h2, decide_eq_true h3]; rfl, hs⟩
          · by_cases h4 : t = s.T
            · refine HL_val rfl (fun w hs => R_not rfl) ?_
              refine HL_val rfl (fun w hs => R_move rfl) ?_
              first | (refine HL_want rfl rfl ?_; refine HL_val rfl (fun w hs => R_move rfl) ?_) | refine HL_skip rfl rfl rfl rfl ?_ | refine HL_skipU rfl rfl rfl ?_
              first | (refine HL_want rfl rfl ?_; refine HL_val rfl (fun w hs => R_move rfl) ?_) | refine HL_skip rfl rfl rfl rfl ?_ | refine HL_skipU rfl rfl rfl ?_
              first | (refine HL_want rfl rfl ?_; refine HL_val rfl (fun w hs => R_nilCheck rfl) ?_) | refine HL_skip rfl rfl rfl rfl ?_ | refine HL_skipU rfl rfl rfl ?_
              first | (refine HL_want rfl rfl ?_; refine HL_val rfl (fun w hs => R_fieldAddr (off := 4) Try.underlying33 rfl rfl Try.ti3 rfl) ?_) | refine HL_skip rfl rfl rfl rfl ?_ | refine HL_skipU rfl rfl rfl ?_
              first | (refine HL_want rfl rfl ?_; refine HL_val rfl (fun w hs => R_load Try.one3 rfl (by exact hs.cellA (i := 2) rfl rfl)) ?_) | refine HL_skip rfl rfl rfl rfl ?_ | refine HL_skipU rfl rfl rfl ?_
              first | (refine HL_want rfl rfl ?_; (first | refine HL_val rfl (fun w hs => R_gtr rfl rfl (dtrue (by omega))) ?_ | refine HL_val rfl (fun w hs => R_gtr rfl rfl (dfalse (by omega))) ?_ | refine HL_val rfl (fun w hs => R_gtr rfl rfl rfl) ?_)) | refine HL_skip rfl rfl rfl rfl ?_ | refine HL_skipU rfl rfl rfl ?_
              first | refine HL_val rfl (fun w hs => R_pick_t rfl rfl) ?_ | refine HL_val rfl (fun w hs => R_pick_f rfl rfl) ?_
              refine HL_val rfl (fun w hs => R_move rfl) ?_
              first | (refine HL_want rfl rfl ?_; refine HL_val rfl (fun w hs => R_move rfl) ?_) | refine HL_skip rfl rfl rfl rfl ?_ | refine HL_skipU rfl rfl rfl ?_
              first | (refine HL_want rfl rfl ?_; refine HL_val rfl (fun w hs => R_move rfl) ?_) | refine HL_skip rfl rfl rfl rfl ?_ | refine HL_skipU rfl rfl rfl ?_
              first | (refine HL_want rfl rfl ?_; refine HL_val rfl (fun w hs => R_nilCheck rfl) ?_) | refine HL_skip rfl rfl rfl rfl ?_ | refine HL_skipU rfl rfl rfl ?_
              first | (refine HL_want rfl rfl ?_; refine HL_val rfl (fun w hs => R_fieldAddr (off := 4) Try.underlying33 rfl rfl Try.ti3 rfl) ?_) | refine HL_skip rfl rfl rfl rfl ?_ | refine HL_skipU rfl rfl rfl ?_
              first | (refine HL_want rfl rfl ?_; refine HL_val rfl (fun w hs => R_load Try.one3 rfl (by exact hs.cellA (i := 2) rfl rfl)) ?_) | refine HL_skip rfl rfl rfl rfl ?_ | refine HL_skipU rfl rfl rfl ?_
              first | (refine HL_want rfl rfl ?_; (first | refine HL_val rfl (fun w hs => R_eql rfl rfl (dtrue (by omega))) ?_ | refine HL_val rfl (fun w hs => R_eql rfl rfl (dfalse (by omega))) ?_ | refine HL_val rfl (fun w hs => R_eql rfl rfl rfl) ?_)) | refine HL_skip rfl rfl rfl rfl ?_ | refine HL_skipU rfl rfl rfl ?_
              first | (refine HL_want rfl rfl ?_; refine HL_val rfl (fun w hs => R_move rfl) ?_) | refine HL_skip rfl rfl rfl rfl ?_ | refine HL_skipU rfl rfl rfl ?_
              first | (refine HL_want rfl rfl ?_; refine HL_val rfl (fun w hs => R_move rfl) ?_) | refine HL_skip rfl rfl rfl rfl ?_ | refine HL_skipU rfl rfl rfl ?_
              first | (refine HL_want rfl rfl ?_; refine HL_val rfl (fun w hs => R_move rfl) ?_) | refine HL_skip rfl rfl rfl rfl ?_ | refine HL_skipU rfl rfl rfl ?_
              first | (refine HL_want rfl rfl ?_; refine HL_val rfl (fun w hs => R_nilCheck rfl) ?_) | refine HL_skip rfl rfl rfl rfl ?_ | refine HL_skipU rfl rfl rfl ?_
              first | (refine HL_want rfl rfl ?_; refine HL_val rfl (fun w hs => R_fieldAddr (off := 5) Try.underlying33 rfl rfl Try.ti2 rfl) ?_) | refine HL_skip rfl rfl rfl rfl ?_ | refine HL_skipU rfl rfl rfl ?_
              first | (refine HL_want rfl rfl ?_; refine HL_val rfl (fun w hs => R_load Try.one2 rfl (by exact hs.cellA (i := 2) rfl rfl)) ?_) | refine HL_skip rfl rfl rfl rfl ?_ | refine HL_skipU rfl rfl rfl ?_
              first | (refine HL_want rfl rfl ?_; (first | refine HL_val rfl (fun w hs => R_lss rfl rfl (dtrue (by omega))) ?_ | refine HL_val rfl (fun w hs => R_lss rfl rfl (dfalse (by omega))) ?_ | refine HL_val rfl (fun w hs => R_lss rfl rfl rfl) ?_)) | refine HL_skip rfl rfl rfl rfl ?_ | refine HL_skipU rfl rfl rfl ?_
              first | (refine HL_want rfl rfl ?_; refine HL_val rfl (fun w hs => R_move rfl) ?_) | refine HL_skip rfl rfl rfl rfl ?_ | refine HL_skipU rfl rfl rfl ?_
              first | (refine HL_want rfl rfl ?_; refine HL_val rfl (fun w hs => R_move rfl) ?_) | refine HL_skip rfl rfl rfl rfl ?_ | refine HL_skipU rfl rfl rfl ?_
              first | (refine HL_want rfl rfl ?_; refine HL_val rfl (fun w hs => R_move rfl) ?_) | refine HL_skip rfl rfl rfl rfl ?_ | refine HL_skipU rfl rfl rfl ?_
              first | (refine HL_want rfl rfl ?_; refine HL_val rfl (fun w hs => R_nilCheck rfl) ?_) | refine HL_skip rfl rfl rfl rfl ?_ | refine HL_skipU rfl rfl rfl ?_
              first | (refine HL_want rfl rfl ?_; refine HL_val rfl (fun w hs => R_fieldAddr (off := 5) Try.underlying33 rfl rfl Try.ti2 rfl) ?_) | refine HL_skip rfl rfl rfl rfl ?_ | refine HL_skipU rfl rfl rfl ?_
              first | (refine HL_want rfl rfl ?_; refine HL_val rfl (fun w hs => R_load Try.one2 rfl (by exact hs.cellA (i := 2) rfl rfl)) ?_) | refine HL_skip rfl rfl rfl rfl ?_ | refine HL_skipU rfl rfl rfl ?_
              first | (refine HL_want rfl rfl ?_; (first | refine HL_val rfl (fun w hs => R_eql rfl rfl (dtrue (by omega))) ?_ | refine HL_val rfl (fun w hs => R_eql rfl rfl (dfalse (by omega))) ?_ | refine HL_val rfl (fun w hs => R_eql rfl rfl rfl) ?_)) | refine HL_skip rfl rfl rfl rfl ?_ | refine HL_skipU rfl rfl rfl ?_
              first | (refine HL_want rfl rfl ?_; refine HL_val rfl (fun w hs => R_move rfl) ?_) | refine HL_skip rfl rfl rfl rfl ?_ | refine HL_skipU rfl rfl rfl ?_
              first | (refine HL_want rfl rfl ?_; refine HL_val rfl (fun w hs => R_move rfl) ?_) | refine HL_skip rfl rfl rfl rfl ?_ | refine HL_skipU rfl rfl rfl ?_
              first | (refine HL_want rfl rfl ?_; refine HL_val rfl (fun w hs => R_nilCheck rfl) ?_) | refine HL_skip rfl rfl rfl rfl ?_ | refine HL_skipU rfl rfl rfl ?_
              first | (refine HL_want rfl rfl ?_; refine HL_val rfl (fun w hs => R_fieldAddr (off := 2) Try.underlying33 rfl rfl Try.ti25 rfl) ?_) | refine HL_skip rfl rfl rfl rfl ?_ | refine HL_skipU rfl rfl rfl ?_
              first | (refine HL_want rfl rfl ?_; refine HL_val rfl (fun w hs => R_load Try.one25 rfl (by exact hs.cellA (i := 2) rfl rfl)) ?_) | refine HL_skip rfl rfl rfl rfl ?_ | refine HL_skipU rfl rfl rfl ?_
              first | (refine HL_want rfl rfl ?_; refine HL_val rfl (fun w hs => R_move rfl) ?_) | refine HL_skip rfl rfl rfl rfl ?_ | refine HL_skipU rfl rfl rfl ?_
              first | (refine HL_want rfl rfl ?_; refine HL_val rfl (fun w hs => R_nilCheck rfl) ?_) | refine HL_skip rfl rfl rfl rfl ?_ | refine HL_skipU rfl rfl rfl ?_
              first | (refine HL_want rfl rfl ?_; refine HL_val rfl (fun w hs => R_fieldAddr (off := 6) Try.underlying33 rfl rfl Try.ti25 rfl) ?_) | refine HL_skip rfl rfl rfl rfl ?_ | refine HL_skipU rfl rfl rfl ?_
              first | (refine HL_want rfl rfl ?_; refine HL_val rfl (fun w hs => R_load Try.one25 rfl (by exact hs.cellA (i := 2) rfl rfl)) ?_) | refine HL_skip rfl rfl rfl rfl ?_ | refine HL_skipU rfl rfl rfl ?_
              refine HL_tail ?_
              intro w hs
              have hslm : ∀ {w : World}, HS V0 w (TryL B gU gM a k cp n us lv s ++ N) → SlC w (some ⟨gM, 0, none⟩) (il s.mate) := by intro w hs; exact SlC.of_row (sp := []) (by rw [List.append_nil]; exact hs.get (i := 1) rfl)
              have hsll : ∀ {w : World}, HS V0 w (TryL B gU gM a k cp n us lv s ++ N) → SlC w la (il s.L) := by intro w hs; rw [hlv] at hb0; exact hb0.slc hs
              rw [show lv = Value.slice la k lc by rw [hlv, hll]]
              refine RL_want rfl rfl ?_
              refine L_call rfl Try.fun31 rfl (ahead_ok (some ⟨gM, 0, none⟩) la k k lc s.mate s.L _ (hslm hs) (hsll hs) hml hll (by omega)) ?_
              rintro _ w' ⟨rfl, hs'⟩
              replace hs := hs.nil hs'
              first | (refine RL_want rfl rfl ?_; (first | refine L_pick_t rfl rfl rfl ?_ | refine L_pick_f rfl rfl rfl ?_)) | refine RL_skip rfl rfl rfl rfl ?_ | refine RL_skipU rfl rfl rfl ?_
              first | (refine RL_want rfl rfl ?_; (first | refine L_pick_t rfl rfl rfl ?_ | refine L_pick_f rfl rfl rfl ?_)) | refine RL_skip rfl rfl rfl rfl ?_ | refine RL_skipU rfl rfl rfl ?_
              first | (refine RL_want rfl rfl ?_; (first | refine L_pick_t rfl rfl rfl ?_ | refine L_pick_f rfl rfl rfl ?_)) | refine RL_skip rfl rfl rfl rfl ?_ | refine RL_skipU rfl rfl rfl ?_
              first | refine L_pick_t rfl rfl rfl ?_ | refine L_pick_f rfl rfl rfl ?_
              refine L_assign rfl rfl ?_
              refine RL_nil' ?_
              rw [show Value.slice la k lc = lv by rw [hlv, hll]]
              refine Nx_cutP (aheadB s.mate s.L, _) (is := [0, 2, 3, 10]) (I' := (fun (bb : Bool) (w : World) => (bb = bet s p t s.mate) ∧ (HS V0 w (TryL B gU gM a k cp n us lv s ++ N))) (aheadB s.mate s.L) (_)) rfl rfl rfl ?_
              exact ⟨by unfold bet; rw [hf, decide_eq_false h1, decide_eq_true h2, decide_eq_false h3, decide_eq_true h4]; rfl, hs⟩
            · refine HL_val rfl (fun w hs => R_not rfl) ?_
              refine HL_val rfl (fun w hs => R_move rfl) ?_
              first | (refine HL_want rfl rfl ?_; refine HL_val rfl (fun w hs => R_move rfl) ?_) | refine HL_skip rfl rfl rfl rfl ?_ | refine HL_skipU rfl rfl rfl ?_
              first | (refine HL_want rfl rfl ?_; refine HL_val rfl (fun w hs => R_move rfl) ?_) | refine HL_skip rfl rfl rfl rfl ?_ | refine HL_skipU rfl rfl rfl ?_
              first | (refine HL_want rfl rfl ?_; refine HL_val rfl (fun w hs => R_nilCheck rfl) ?_) | refine HL_skip rfl rfl rfl rfl ?_ | refine HL_skipU rfl rfl rfl ?_
              first | (refine HL_want rfl rfl ?_; refine HL_val rfl (fun w hs => R_fieldAddr (off := 4) Try.underlying33 rfl rfl Try.ti3 rfl) ?_) | refine HL_skip rfl rfl rfl rfl ?_ | refine HL_skipU rfl rfl rfl ?_
              first | (refine HL_want rfl rfl ?_; refine HL_val rfl (fun w hs => R_load Try.one3 rfl (by exact hs.cellA (i := 2) rfl rfl)) ?_) | refine HL_skip rfl rfl rfl rfl ?_ | refine HL_skipU rfl rfl rfl ?_
              first | (refine HL_want rfl rfl ?_; (first | refine HL_val rfl (fun w hs => R_gtr rfl rfl (dtrue (by omega))) ?_ | refine HL_val rfl (fun w hs => R_gtr rfl rfl (dfalse (by omega))) ?_ | refine HL_val rfl (fun w hs => R_gtr rfl rfl rfl) ?_)) | refine HL_skip rfl rfl rfl rfl ?_ | refine HL_skipU rfl rfl rfl ?_
              first | refine HL_val rfl (fun w hs => R_pick_t rfl rfl) ?_ | refine HL_val rfl (fun w hs => R_pick_f rfl rfl) ?_
              refine HL_val rfl (fun w hs => R_move rfl) ?_
              first | (refine HL_want rfl rfl ?_; refine HL_val rfl (fun w hs => R_move rfl) ?_) | refine HL_skip rfl rfl rfl rfl ?_ | refine HL_skipU rfl rfl rfl ?_
              first | (refine HL_want rfl rfl ?_; refine HL_val rfl (fun w hs => R_move rfl) ?_) | refine HL_skip rfl rfl rfl rfl ?_ | refine HL_skipU rfl rfl rfl ?_
              first | (refine HL_want rfl rfl ?_; refine HL_val rfl (fun w hs => R_nilCheck rfl) ?_) | refine HL_skip rfl rfl rfl rfl ?_ | refine HL_skipU rfl rfl rfl ?_
              first | (refine HL_want rfl rfl ?_; refine HL_val rfl (fun w hs => R_fieldAddr (off := 4) Try.underlying33 rfl rfl Try.ti3 rfl) ?_) | refine HL_skip rfl rfl rfl rfl ?_ | refine HL_skipU rfl rfl rfl ?_
              first | (refine HL_want rfl rfl ?_; refine HL_val rfl (fun w hs => R_load Try.one3 rfl (by exact hs.cellA (i := 2) rfl rfl)) ?_) | refine HL_skip rfl rfl rfl rfl ?_ | refine HL_skipU rfl rfl rfl ?_
              first | (refine HL_want rfl rfl ?_; (first | refine HL_val rfl (fun w hs => R_eql rfl rfl (dtrue (by omega))) ?_ | refine HL_val rfl (fun w hs => R_eql rfl rfl (dfalse (by omega))) ?_ | refine HL_val rfl (fun w hs => R_eql rfl rfl rfl) ?_)) | refine HL_skip rfl rfl rfl rfl ?_ | refine HL_skipU rfl rfl rfl ?_
              first | (refine HL_want rfl rfl ?_; refine HL_val rfl (fun w hs => R_move rfl) ?_) | refine HL_skip rfl rfl rfl rfl ?_ | refine HL_skipU rfl rfl rfl ?_
              first | (refine HL_want rfl rfl ?_; refine HL_val rfl (fun w hs => R_move rfl) ?_) | refine HL_skip rfl rfl rfl rfl ?_ | refine HL_skipU rfl rfl rfl ?_
              first | (refine HL_want rfl rfl ?_; refine HL_val rfl (fun w hs => R_move rfl) ?_) | refine HL_skip rfl rfl rfl rfl ?_ | refine HL_skipU rfl rfl rfl ?_
              first | (refine HL_want rfl rfl ?_; refine HL_val rfl (fun w hs => R_nilCheck rfl) ?_) | refine HL_skip rfl rfl rfl rfl ?_ | refine HL_skipU rfl rfl rfl ?_
              first | (refine HL_want rfl rfl ?_; refine HL_val rfl (fun w hs => R_fieldAddr (off := 5) Try.underlying33 rfl rfl Try.ti2 rfl) ?_) | refine HL_skip rfl rfl rfl rfl ?_ | refine HL_skipU rfl rfl rfl ?_
              first | (refine HL_want rfl rfl ?_; refine HL_val rfl (fun w hs => R_load Try.one2 rfl (by exact hs.cellA (i := 2) rfl rfl)) ?_) | refine HL_skip rfl rfl rfl rfl ?_ | refine HL_skipU rfl rfl rfl ?_
              first | (refine HL_want rfl rfl ?_; (first | refine HL_val rfl (fun w hs => R_lss rfl rfl (dtrue (by omega))) ?_ | refine HL_val rfl (fun w hs => R_lss rfl rfl (dfalse (by omega))) ?_ | refine HL_val rfl (fun w hs => R_lss rfl rfl rfl) ?_)) | refine HL_skip rfl rfl rfl rfl ?_ | refine HL_skipU rfl rfl rfl ?_
              first | (refine HL_want rfl rfl ?_; refine HL_val rfl (fun w hs => R_move rfl) ?_) | refine HL_skip rfl rfl rfl rfl ?_ | refine HL_skipU rfl rfl rfl ?_
              first | (refine HL_want rfl rfl ?_; refine HL_val rfl (fun w hs => R_move rfl) ?_) | refine HL_skip rfl rfl rfl rfl ?_ | refine HL_skipU rfl rfl rfl ?_
              first | (refine HL_want rfl rfl ?_; refine HL_val rfl (fun w hs => R_move rfl) ?_) | refine HL_skip rfl rfl rfl rfl ?_ | refine HL_skipU rfl rfl rfl ?_
              first | (refine HL_want rfl rfl ?_; refine HL_val rfl (fun w hs => R_nilCheck rfl) ?_) | refine HL_skip rfl rfl rfl rfl ?_ | refine HL_skipU rfl rfl rfl ?_
              first | (refine HL_want rfl rfl ?_; refine HL_val rfl (fun w hs => R_fieldAddr (off := 5) Try.underlying33 rfl rfl Try.ti2 rfl) ?_) | refine HL_skip rfl rfl rfl rfl ?_ | refine HL_skipU rfl rfl rfl ?_
              first | (refine HL_want rfl rfl ?_; refine HL_val rfl (fun w hs => R_load Try.one2 rfl (by exact hs.cellA (i := 2) rfl rfl)) ?_) | refine HL_skip rfl rfl rfl rfl ?_ | refine HL_skipU rfl rfl rfl ?_
              first | (refine HL_want rfl rfl ?_; (first | refine HL_val rfl (fun w hs => R_eql rfl rfl (dtrue (by omega))) ?_ | refine HL_val rfl (fun w hs => R_eql rfl rfl (dfalse (by omega))) ?_ | refine HL_val rfl (fun w hs => R_eql rfl rfl rfl) ?_)) | refine HL_skip rfl rfl rfl rfl ?_ | refine HL_skipU rfl rfl rfl ?_
              first | (refine HL_want rfl rfl ?_; refine HL_val rfl (fun w hs => R_move rfl) ?_) | refine HL_skip rfl rfl rfl rfl ?_ | refine HL_skipU rfl rfl rfl ?_
              first | (refine HL_want rfl rfl ?_; refine HL_val rfl (fun w hs => R_move rfl) ?_) | refine HL_skip rfl rfl rfl rfl ?_ | refine HL_skipU rfl rfl rfl ?_
              first | (refine HL_want rfl rfl ?_; refine HL_val rfl (fun w hs => R_nilCheck rfl) ?_) | refine HL_skip rfl rfl rfl rfl ?_ | refine HL_skipU rfl rfl rfl ?_
              first | (refine HL_want rfl rfl ?_; refine HL_val rfl (fun w hs => R_fieldAddr (off := 2) Try.underlying33 rfl rfl Try.ti25 rfl) ?_) | refine HL_skip rfl rfl rfl rfl ?_ | refine HL_skipU rfl rfl rfl ?_
              first | (refine HL_want rfl rfl ?_; refine HL_val rfl (fun w hs => R_load Try.one25 rfl (by exact hs.cellA (i := 2) rfl rfl)) ?_) | refine HL_skip rfl rfl rfl rfl ?_ | refine HL_skipU rfl rfl rfl ?_
              first | (refine HL_want rfl rfl ?_; refine HL_val rfl (fun w hs => R_move rfl) ?_) | refine HL_skip rfl rfl rfl rfl ?_ | refine HL_skipU rfl rfl rfl ?_
              first | (refine HL_want rfl rfl ?_; refine HL_val rfl (fun w hs => R_nilCheck rfl) ?_) | refine HL_skip rfl rfl rfl rfl ?_ | refine HL_skipU rfl rfl rfl ?_
              first | (refine HL_want rfl rfl ?_; refine HL_val rfl (fun w hs => R_fieldAddr (off := 6) Try.underlying33 rfl rfl Try.ti25 rfl) ?_) | refine HL_skip rfl rfl rfl rfl ?_ | refine HL_skipU rfl rfl rfl ?_
              first | (refine HL_want rfl rfl ?_; refine HL_val rfl (fun w hs => R_load Try.one25 rfl (by exact hs.cellA (i := 2) rfl rfl)) ?_) | refine HL_skip rfl rfl rfl rfl ?_ | refine HL_skipU rfl rfl rfl ?_
              refine HL_tail ?_
              intro w hs
              first | refine RL_skip rfl rfl rfl rfl ?_ | refine RL_skipU rfl rfl rfl ?_
              first | (refine RL_want rfl rfl ?_; (first | refine L_pick_t rfl rfl rfl ?_ | refine L_pick_f rfl rfl rfl ?_)) | refine RL_skip rfl rfl rfl rfl ?_ | refine RL_skipU rfl rfl rfl ?_
              first | (refine RL_want rfl rfl ?_; (first | refine L_pick_t rfl rfl rfl ?_ | refine L_pick_f rfl rfl rfl ?_)) | refine RL_skip rfl rfl rfl rfl ?_ | refine RL_skipU rfl rfl rfl ?_
              first | (refine RL_want rfl rfl ?_; (first | refine L_pick_t rfl rfl rfl ?_ | refine L_pick_f rfl rfl rfl ?_)) | refine RL_skip rfl rfl rfl rfl ?_ | refine RL_skipU rfl rfl rfl ?_
              first | refine L_pick_t rfl rfl rfl ?_ | refine L_pick_f rfl rfl rfl ?_
              refine L_assign rfl rfl ?_
              refine RL_nil' ?_
              refine Nx_cutP (false, _) (is := [0, 2, 3, 10]) (I' := (fun (bb : Bool) (w : World) => (bb = bet s p t s.mate) ∧ (HS V0 w (TryL B gU gM a k cp n us lv s ++ N))) (false) (_)) rfl rfl rfl ?_
              exact ⟨by unfold bet; rw [hf, decide_eq_false h1, decide_eq_true h2, decide_eq_false h3, decide_eq_false h4]; rfl, hs⟩
        · refine HL_val rfl (fun w hs => R_not rfl) ?_
          refine HL_val rfl (fun w hs => R_move rfl) ?_
          first | (refine HL_want rfl rfl ?_; refine HL_val rfl (fun w hs => R_move rfl) ?_) | refine HL_skip rfl rfl rfl rfl ?_ | refine HL_skipU rfl rfl rfl ?_
          first | (refine HL_want rfl rfl ?_; refine HL_val rfl (fun w hs => R_move rfl) ?_) | refine HL_skip rfl rfl rfl rfl ?_ | refine HL_skipU rfl rfl rfl ?_
          first | (refine HL_want rfl rfl ?_; refine HL_val rfl (fun w hs => R_nilCheck rfl) ?_) | refine HL_skip rfl rfl rfl rfl ?_ | refine HL_skipU rfl rfl rfl ?_
          first | (refine HL_want rfl rfl ?_; refine HL_val rfl (fun w hs => R_fieldAddr (off := 4) Try.underlying33 rfl rfl Try.ti3 rfl) ?_) | refine HL_skip rfl rfl rfl rfl ?_ | refine HL_skipU rfl rfl rfl ?_
          first | (refine HL_want rfl rfl ?_; refine HL_val rfl (fun w hs => R_load Try.one3 rfl (by exact hs.cellA (i := 2) rfl rfl)) ?_) | refine HL_skip rfl rfl rfl rfl ?_ | refine HL_skipU rfl rfl rfl ?_
          first | (refine HL_want rfl rfl ?_; (first | refine HL_val rfl (fun w hs => R_gtr rfl rfl (dtrue (by omega))) ?_ | refine HL_val rfl (fun w hs => R_gtr rfl rfl (dfalse (by omega))) ?_ | refine HL_val rfl (fun w hs => R_gtr rfl rfl rfl) ?_)) | refine HL_skip rfl rfl rfl rfl ?_ | refine HL_skipU rfl rfl rfl ?_
          first | refine HL_val rfl (fun w hs => R_pick_t rfl rfl) ?_ | refine HL_val rfl (fun w hs => R_pick_f rfl rfl) ?_
          refine HL_val rfl (fun w hs => R_move rfl) ?_
          first | (refine HL_want rfl rfl ?_; refine HL_val rfl (fun w hs => R_move rfl) ?_) | refine HL_skip rfl rfl rfl rfl ?_ | refine HL_skipU rfl rfl rfl ?_
          first | (refine HL_want rfl rfl ?_; refine HL_val rfl (fun w hs => R_move rfl) ?_) | refine HL_skip rfl rfl rfl rfl ?_ | refine HL_skipU rfl rfl rfl ?_
          first | (refine HL_want rfl rfl ?_; refine HL_val rfl (fun w hs => R_nilCheck rfl) ?_) | refine HL_skip rfl rfl rfl rfl ?_ | refine HL_skipU rfl rfl rfl ?_
          first | (refine HL_want rfl rfl ?_; refine HL_val rfl (fun w hs => R_fieldAddr (off := 4) Try.underlying33 rfl rfl Try.ti3 rfl) ?_) | refine HL_skip rfl rfl rfl rfl ?_ | refine HL_skipU rfl rfl rfl ?_
          first | (refine HL_want rfl rfl ?_; refine HL_val rfl (fun w hs => R_load Try.one3 rfl (by exact hs.cellA (i := 2) rfl rfl)) ?_) | refine HL_skip rfl rfl rfl rfl ?_ | refine HL_skipU rfl rfl rfl ?_
          first | (refine HL_want rfl rfl ?_; (first | refine HL_val rfl (fun w hs => R_eql rfl rfl (dtrue (by omega))) ?_ | refine HL_val rfl (fun w hs => R_eql rfl rfl (dfalse (by omega))) ?_ | refine HL_val rfl (fun w hs => R_eql rfl rfl rfl) ?_)) | refine HL_skip rfl rfl rfl rfl ?_ | refine HL_skipU rfl rfl rfl ?_
          first | (refine HL_want rfl rfl ?_; refine HL_val rfl (fun w hs => R_move rfl) ?_) | refine HL_skip rfl rfl rfl rfl ?_ | refine HL_skipU rfl rfl rfl ?_
          first | (refine HL_want rfl rfl ?_; refine HL_val rfl (fun w hs => R_move rfl) ?_) | refine HL_skip rfl rfl rfl rfl ?_ | refine HL_skipU rfl rfl rfl ?_
          first | (refine HL_want rfl rfl ?_; refine HL_val rfl (fun w hs => R_move rfl) ?_) | refine HL_skip rfl rfl rfl rfl ?_ | refine HL_skipU rfl rfl rfl ?_
          first | (refine HL_want rfl rfl ?_; refine HL_val rfl (fun w hs => R_nilCheck rfl) ?_) | refine HL_skip rfl rfl rfl rfl ?_ | refine HL_skipU rfl rfl rfl ?_
          first | (refine HL_want rfl rfl ?_; refine HL_val rfl (fun w hs => R_fieldAddr (off := 5) Try.underlying33 rfl rfl Try.ti2 rfl) ?_) | refine HL_skip rfl rfl rfl rfl ?_ | refine HL_skipU rfl rfl rfl ?_
          first | (refine HL_want rfl rfl ?_; refine HL_val rfl (fun w hs => R_load Try.one2 rfl (by exact hs.cellA (i := 2) rfl rfl)) ?_) | refine HL_skip rfl rfl rfl rfl ?_ | refine HL_skipU rfl rfl rfl ?_
          first | (refine HL_want rfl rfl ?_; (first | refine HL_val rfl (fun w hs => R_lss rfl rfl (dtrue (by omega))) ?_ | refine HL_val rfl (fun w hs => R_lss rfl rfl (dfalse (by omega))) ?_ | refine HL_val rfl (fun w hs => R_lss rfl rfl rfl) ?_)) | refine HL_skip rfl rfl rfl rfl ?_ | refine HL_skipU rfl rfl rfl ?_
          first | (refine HL_want rfl rfl ?_; refine HL_val rfl (fun w hs => R_move rfl) ?_) | refine HL_skip rfl rfl rfl rfl ?_ | refine HL_skipU rfl rfl rfl ?_
          first | (refine HL_want rfl rfl ?_; refine HL_val rfl (fun w hs => R_move rfl) ?_) | refine HL_skip rfl rfl rfl rfl ?_ | refine HL_skipU rfl rfl rfl ?_
          first | (refine HL_want rfl rfl ?_; refine HL_val rfl (fun w hs => R_move rfl) ?_) | refine HL_skip rfl rfl rfl rfl ?_ | refine HL_skipU rfl rfl rfl ?_
          first | (refine HL_want rfl rfl ?_; refine HL_val rfl (fun w hs => R_nilCheck rfl) ?_) | refine HL_skip rfl rfl rfl rfl ?_ | refine HL_skipU rfl rfl rfl ?_
          first | (refine HL_want rfl rfl ?_; refine HL_val rfl (fun w hs => R_fieldAddr (off := 5) Try.underlying33 rfl rfl Try.ti2 rfl) ?_) | refine HL_skip rfl rfl rfl rfl ?_ | refine HL_skipU rfl rfl rfl ?_
          first | (refine HL_want rfl rfl ?_; refine HL_val rfl (fun w hs => R_load Try.one2 rfl (by exact hs.cellA (i := 2) rfl rfl)) ?_) | refine HL_skip rfl rfl rfl rfl ?_ | refine HL_skipU rfl rfl rfl ?_
          first | (refine HL_want rfl rfl ?_; (first | refine HL_val rfl (fun w hs => R_eql rfl rfl (dtrue (by omega))) ?_ | refine HL_val rfl (fun w hs => R_eql rfl rfl (dfalse (by omega))) ?_ | refine HL_val rfl (fun w hs => R_eql rfl rfl rfl) ?_)) | refine HL_skip rfl rfl rfl rfl ?_ | refine HL_skipU rfl rfl rfl ?_
          first | (refine HL_want rfl rfl ?_; refine HL_val rfl (fun w hs => R_move rfl) ?_) | refine HL_skip rfl rfl rfl rfl ?_ | refine HL_skipU rfl rfl rfl ?_
          first | (refine HL_want rfl rfl ?_; refine HL_val rfl (fun w hs => R_move rfl) ?_) | refine HL_skip rfl rfl rfl rfl ?_ | refine HL_skipU rfl rfl rfl ?_
          first | (refine HL_want rfl rfl ?_; refine HL_val rfl (fun w hs => R_nilCheck rfl) ?_) | refine HL_skip rfl rfl rfl rfl ?_ | refine HL_skipU rfl rfl rfl ?_
          first | (refine HL_want rfl rfl ?_; refine HL_val rfl (fun w hs => R_fieldAddr (off := 2) Try.underlying33 rfl rfl Try.ti25 rfl) ?_) | refine HL_skip rfl rfl rfl rfl ?_ | refine HL_skipU rfl rfl rfl ?_
          first | (refine HL_want rfl rfl ?_; refine HL_val rfl (fun w hs => R_load Try.one25 rfl (by exact hs.cellA (i := 2) rfl rfl)) ?_) | refine HL_skip rfl rfl rfl rfl ?_ | refine HL_skipU rfl rfl rfl ?_
          first | (refine HL_want rfl rfl ?_; refine HL_val rfl (fun w hs => R_move rfl) ?_) | refine HL_skip rfl rfl rfl rfl ?_ | refine HL_skipU rfl rfl rfl ?_
          first | (refine HL_want rfl rfl ?_; refine HL_val rfl (fun w hs => R_nilCheck rfl) ?_) | refine HL_skip rfl rfl rfl rfl ?_ | refine HL_skipU rfl rfl rfl ?_
          first | (refine HL_want rfl rfl ?_; refine HL_val rfl (fun w hs => R_fieldAddr (off := 6) Try.underlying33 rfl rfl Try.ti25 rfl) ?_) | refine HL_skip rfl rfl rfl rfl ?_ | refine HL_skipU rfl rfl rfl ?_
          first | (refine HL_want rfl rfl ?_; refine HL_val rfl (fun w hs => R_load Try.one25 rfl (by exact hs.cellA (i := 2) rfl rfl)) ?_) | refine HL_skip rfl rfl rfl rfl ?_ | refine HL_skipU rfl rfl rfl ?_
          refine HL_tail ?_
          intro w hs
          first | refine RL_skip rfl rfl rfl rfl ?_ | refine RL_skipU rfl rfl rfl ?_
          first | (refine RL_want rfl rfl ?_; (first | refine L_pick_t rfl rfl rfl ?_ | refine L_pick_f rfl rfl rfl ?_)) | refine RL_skip rfl rfl rfl rfl ?_ | refine RL_skipU rfl rfl rfl ?_
          first | (refine RL_want rfl rfl ?_; (first | refine L_pick_t rfl rfl rfl ?_ | refine L_pick_f rfl rfl rfl ?_)) | refine RL_skip rfl rfl rfl rfl ?_ | refine RL_skipU rfl rfl rfl ?_
          first | (refine RL_want rfl rfl ?_; (first | refine L_pick_t rfl rfl rfl ?_ | refine L_pick_f rfl rfl rfl ?_)) | refine RL_skip rfl rfl rfl rfl ?_ | refine RL_skipU rfl rfl rfl ?_
          first | refine L_pick_t rfl rfl rfl ?_ | refine L_pick_f rfl rfl rfl ?_
          refine L_assign rfl rfl ?_
          refine RL_nil' ?_
          refine Nx_cutP (false, _) (is := [0, 2, 3, 10]) (I' := (fun (bb : Bool) (w : World) => (bb = bet s p t s.mate) ∧ (HS V0 w (TryL B gU gM a k cp n us lv s ++ N))) (false) (_)) rfl rfl rfl ?_
          exact ⟨by unfold bet; rw [hf, decide_eq_false h1, decide_eq_false h2]; rfl, hs⟩
  · clear hs
    intro bb w hI
    show W _ _ _ _ [(0, .pointer (some ⟨B, 0, none⟩)), (2, .int .i64 p), (3, .int .i64 t), (10, .bool bb)] w
    obtain ⟨hbb, hs⟩ := hI
    cases bb
    · refine W_seq ?_
      refine W_seq ?_
      refine W_region ?_
      refine L_move rfl rfl ?_
      refine RL_then ?_
      refine W_if_false rfl ?_
      refine W_skip' ?_
      refine Nx_then ?_
      refine W_ret' ?_
      refine Ex_then_ret ?_
      refine Ex_done0 (.inl rfl) rfl ?_
      refine ⟨_, rfl, lv, N, ?_⟩
      have e : tryF rows n whole 0 k p t us s = s := by simp only [tryF]; rw [← hbb]; rfl
      rw [e]
      exact ⟨hs, hb0⟩
    · have e : tryF rows n whole 0 k p t us s = { s with found := true, P := p, T := t, L := s.mate } := by simp only [tryF]; rw [← hbb]; rfl
      rw [e]
      refine W_seq ?_
      refine W_seq ?_
      refine W_region ?_
      refine L_move rfl rfl ?_
      refine RL_then ?_
      refine W_if_true rfl ?_
      refine W_seq ?_
      refine W_region ?_
      refine L_move rfl rfl ?_
      refine L_move rfl rfl ?_
      refine L_move rfl rfl ?_
      refine L_move rfl rfl ?_
      refine L_move rfl rfl ?_
      refine L_nilCheck rfl rfl ?_
      refine L_fieldAddr rfl (off := 3) Try.underlying33 rfl rfl Try.ti4 rfl ?_
      refine L_store hs (i := 2) rfl Try.ti4 rfl rfl (by first | rfl | exact add_lit0 _ _ | exact Addr.add_lit ..) (by first | omega | (simp; done) | (simp; omega)) rfl ?_
      intro w hs
      try dsimp only [List.set_cons_succ, List.set_cons_zero, List.cons_append, List.nil_append] at hs
      refine L_nilCheck rfl rfl ?_
      refine L_fieldAddr rfl (off := 4) Try.underlying33 rfl rfl Try.ti3 rfl ?_
      refine L_store hs (i := 2) rfl Try.ti3 rfl rfl (by first | rfl | exact add_lit0 _ _ | exact Addr.add_lit ..) (by first | omega | (simp; done) | (simp; omega)) rfl ?_
      intro w hs
      try dsimp only [List.set_cons_succ, List.set_cons_zero, List.cons_append, List.nil_append] at hs
      refine L_nilCheck rfl rfl ?_
      refine L_fieldAddr rfl (off := 5) Try.underlying33 rfl rfl Try.ti2 rfl ?_
      refine L_store hs (i := 2) rfl Try.ti2 rfl rfl (by first | rfl | exact add_lit0 _ _ | exact Addr.add_lit ..) (by first | omega | (simp; done) | (simp; omega)) rfl ?_
      intro w hs
      try dsimp only [List.set_cons_succ, List.set_cons_zero, List.cons_append, List.nil_append] at hs
      refine RL_then ?_
      refine W_region ?_
      refine L_move rfl rfl ?_
      refine L_move rfl rfl ?_
      refine L_nilCheck rfl rfl ?_
      refine L_fieldAddr rfl (off := 2) Try.underlying33 rfl rfl Try.ti25 rfl ?_
      refine L_load rfl Try.one25 rfl (by exact hs.cellA (i := 2) rfl rfl) ?_
      have hgl : SlC w (some ⟨gM, 0, none⟩) (il s.mate) := SlC.of_row (sp := []) (by rw [List.append_nil]; exact hs.get (i := 1) rfl)
      have hs2 : HS V0 w ((TryL B gU gM a k cp n us lv { s with found := true, P := p, T := t } ++ N) ++ []) := by rw [List.append_nil]; exact hs
      clear hs
      refine L_appendS rfl Try.underlying25 Try.ti3 rfl (by decide) (L := TryL B gU gM a k cp n us lv { s with found := true, P := p, T := t } ++ N) hs2 Bl.nil rfl rfl (by rw [il_length, hml, Nat.mul_one]) hgl (il_one _) (by omega) (by omega) ?_
      intro lv2 w M2 hs hb2
      rw [List.nil_append, Nat.zero_add] at hb2
      clear hs2 hgl
      obtain ⟨la2, lc2, rfl, _⟩ := hb2.slice
      refine L_nilCheck rfl rfl ?_
      refine L_fieldAddr rfl (off := 6) Try.underlying33 rfl rfl Try.ti25 rfl ?_
      refine L_store hs (i := 2) rfl Try.ti25 rfl rfl (by first | rfl | exact add_lit0 _ _ | exact Addr.add_lit ..) (by first | omega | (simp; done) | (simp; omega)) rfl ?_
      intro w hs
      try dsimp only [List.set_cons_succ, List.set_cons_zero, List.cons_append, List.nil_append] at hs
      refine RL_then ?_
      refine W_ret' ?_
      refine Ex_then_ret ?_
      refine Ex_done0 (.inl rfl) rfl ?_
      have hs3 : HS V0 w ((TryL B gU gM a k cp n us (.slice la2 k lc2) { s with found := true, P := p, T := t, L := s.mate } ++ N) ++ M2) := hs
      refine ⟨_, rfl, .slice la2 k lc2, M2, hs3.swap.dropR hb0.own, ?_⟩
      show Bl V0 3 1 (.slice la2 k lc2) s.mate.length (il s.mate) M2
      rw [hml]; exact hb2
end
end Go.Proofs.Ytcfdmenmlemahaa
