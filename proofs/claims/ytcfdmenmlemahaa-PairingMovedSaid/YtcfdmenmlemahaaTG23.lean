/-
  A part of the proof: what functions that the statement reaches do, or a plain law on what they do. Each theorem holds under its own premises alone.
-/
import Derived.Test.YtcfdmenmlemahaaTG22
namespace Go.Proofs.Ytcfdmenmlemahaa
open Go Go.Lk Go.Pr
/-- how the trying begins -/
def st0 (k : Nat) : St := ⟨List.replicate k 0, false, 0, 0, []⟩
abbrev bestF (rows : List (List Int)) (n : Nat) (whole : Bool) : St := tryF rows n whole rows.length 0 0 0 (List.replicate n false) (st0 rows.length)
set_option maxHeartbeats 1000000 in
theorem best_pos (whole : Bool) (a : Option Addr) (k cp n : Nat) (rows : List (List Int)) (rvs : List Value) (V0 : World) (hr : RowsI V0 a rows rvs) (hk : rows.length = k) (hk0 : 1 ≤ k) (hk5 : k ≤ 5) (hn5 : n ≤ 5) (hwid : ∀ i, i < k → (rows.getD i []).length = n) (hcost : ∀ i j, i < k → j < n → el rows i j ≤ 1099511627776) :
    Ret Try.prog 11 [.slice a k cp, .bool whole] V0 fun v w' => ∃ B gU gM lv us N, v = .pointer (some ⟨B, 0, none⟩) ∧ HS V0 w' (TryL B gU gM a k cp n us lv (bestF rows n whole) ++ N) ∧ Own V0 (TryL B gU gM a k cp n us lv (bestF rows n whole) ++ N) ∧ Bl V0 3 1 lv (bestF rows n whole).L.length (il (bestF rows n whole).L) N := by
  refine Ret.start fun w hs => ?_
  obtain ⟨a0, c0, g1, g2, g3, g4⟩ := hr.row 0 (by omega)
  rw [hwid 0 (by omega)] at g1 g2 g3
  have hra := hr.sl.ao (by rw [hr.len]; omega)
  refine calls_of_W Try.func11 rfl rfl rfl ?_
  refine W_seq ?_
  refine W_region ?_
  refine L_assign rfl rfl ?_
  refine RL_then ?_
  refine W_seq ?_
  refine W_region ?_
  refine L_move rfl rfl ?_
  refine L_move rfl rfl ?_
  refine L_len rfl Try.underlying22 rfl ?_
  refine L_make1 rfl hs Try.underlying25 Try.ti3 rfl rfl (by with_reducible first | exact natc_k _ | exact natc_a1 _ | exact natc_0 | exact natc_1 | exact natc_2 | exact natc_s1 _ (by omega) | exact natc_a2 _ | exact natc_add _ _ | exact natc_mul _ _ | exact natc (by omega)) (by with_reducible first | exact natc_k _ | exact natc_a1 _ | exact natc_0 | exact natc_1 | exact natc_2 | exact natc_s1 _ (by omega) | exact natc_a2 _ | exact natc_add _ _ | exact natc_mul _ _ | exact natc (by omega)) (by omega) (by omega) (by omega) rfl ?_
  intro b9 w hb9 hnb9 hs
  try dsimp only [List.set_cons_succ, List.set_cons_zero, List.cons_append, List.nil_append] at hs
  refine L_build rfl rfl (Pl.built Try.pl33 rfl) ?_
  refine L_box rfl hs rfl ?_
  intro b11 w hb11 hnb11 hs
  try dsimp only [List.set_cons_succ, List.set_cons_zero, List.cons_append, List.nil_append] at hs
  refine L_assign rfl rfl ?_
  refine RL_then ?_
  refine W_seq ?_
  refine W_seq ?_
  refine W_region ?_
  refine L_move rfl rfl ?_
  refine L_len rfl Try.underlying22 rfl ?_
  first | refine L_gtr rfl rfl rfl (dtrue (by omega)) ?_ | refine L_gtr rfl rfl rfl (dfalse (by omega)) ?_ | refine L_gtr rfl rfl rfl rfl ?_
  refine RL_then ?_
  have hrow : ∀ {w : World}, HS V0 w [(b9, Row 3 (List.replicate k (.int .i64 0))), (b11, Row 33 (BoxR a k cp (.slice none 0 0) (SlN b9 k) (.slice none 0 0) (st0 k)))] → w.cell? ((aD a).add 0) = some (.slice a0 n c0) := by intro w hs; exact (hr.sl.old hs (Own.cons hb9 (Own.cons hb11 Own.nil))).get g1
  replace hs : HS V0 w [(b9, Row 3 (List.replicate k (.int .i64 0))), (b11, Row 33 (BoxR a k cp (.slice none 0 0) (SlN b9 k) (.slice none 0 0) (st0 k)))] := hs
  refine W_if_true rfl ?_
  refine W_region ?_
  refine L_move rfl rfl ?_
  refine L_move rfl rfl ?_
  refine L_idx1 rfl Try.underlying22 Try.ti38 rfl rfl (by with_reducible first | exact natc_k _ | exact natc_a1 _ | exact natc_0 | exact natc_1 | exact natc_2 | exact natc_s1 _ (by omega) | exact natc_a2 _ | exact natc_add _ _ | exact natc_mul _ _ | exact natc (by omega)) (by omega) (by first | rfl | exact hra) ?_
  refine L_load rfl Try.one38 rfl (hrow hs) ?_
  refine L_len rfl Try.underlying38 rfl ?_
  refine L_make1 rfl hs Try.underlying31 Try.ti4 rfl rfl (by with_reducible first | exact natc_k _ | exact natc_a1 _ | exact natc_0 | exact natc_1 | exact natc_2 | exact natc_s1 _ (by omega) | exact natc_a2 _ | exact natc_add _ _ | exact natc_mul _ _ | exact natc (by omega)) (by with_reducible first | exact natc_k _ | exact natc_a1 _ | exact natc_0 | exact natc_1 | exact natc_2 | exact natc_s1 _ (by omega) | exact natc_a2 _ | exact natc_add _ _ | exact natc_mul _ _ | exact natc (by omega)) (by omega) (by omega) (by omega) rfl ?_
  intro b20 w hb20 hnb20 hs
  try dsimp only [List.set_cons_succ, List.set_cons_zero, List.cons_append, List.nil_append] at hs
  refine L_nilCheck rfl rfl ?_
  refine L_fieldAddr rfl (off := 1) Try.underlying33 rfl rfl Try.ti31 rfl ?_
  refine L_store hs (i := 1) rfl Try.ti31 rfl rfl (by first | rfl | exact add_lit0 _ _ | exact Addr.add_lit ..) (by first | omega | (simp; done) | (simp; omega)) rfl ?_
  intro w hs
  try dsimp only [List.set_cons_succ, List.set_cons_zero, List.cons_append, List.nil_append] at hs
  refine RL_then ?_
  refine W_seq ?_
  refine W_region ?_
  refine L_move rfl rfl ?_
  refine L_move rfl rfl ?_
  rw [bls_rep, il_rep] at hs
  have hO : ∀ {us : List Bool} {lv : Value} {s : St}, Own V0 (TryL b11 b20 b9 a k cp n us lv s) := Own.cons hb20 (Own.cons hb9 (Own.cons hb11 Own.nil))
  have hs2 : HS V0 w (TryL b11 b20 b9 a k cp n (List.replicate n false) (.slice none 0 0) (st0 k) ++ []) := by
    rw [List.append_nil]
    exact hs.mem_perm (List.perm_append_comm (l₁ := [_, _]) (l₂ := [_]))
  refine L_call rfl Try.fun26 rfl (try_ok whole hr hk hk5 hn5 hwid hcost hO k 0 0 0 (List.replicate n false) (st0 k) (.slice none 0 0) [] w (by omega) (by simp) (by simp [st0]) (fun h => by cases h) ⟨by omega, by omega⟩ ⟨by omega, by omega⟩ hs2 Bl.nil) ?_
  rintro _ w' ⟨lv2, N2, hs3, hb2⟩
  clear hs hs2
  have hs := hs3
  clear hs3
  refine RL_then ?_
  refine W_seq ?_
  refine W_region ?_
  refine L_move rfl rfl ?_
  refine L_assign rfl rfl ?_
  refine RL_then ?_
  refine W_ret' ?_
  refine Ex_done1 rfl rfl ?_
  rw [← hk] at hs hb2 hO ⊢
  exact ⟨_, rfl, b11, b20, b9, lv2, _, N2, rfl, hs, hO.app hb2.own, hb2⟩
abbrev TryL0 (B gM : Nat) (a : Option Addr) (cp : Nat) (f : Bool) (lv : Value) : List (Nat × Obj) := [(gM, Row 3 []), (B, Row 33 [.slice a 0 cp, .slice none 0 0, SlN gM 0, .bool f, .int .i64 0, .int .i64 0, lv])]
theorem leaf0 (whole : Bool) (a : Option Addr) (cp B gM : Nat) (V0 w0 : World) (hs0 : HS V0 w0 (TryL0 B gM a cp false (.slice none 0 0))) :
    Ret Try.prog 26 [.pointer (some ⟨B, 0, none⟩), .int .i64 0, .int .i64 0, .int .i64 0, .bool whole] w0 fun _ w' => ∃ lv N, HS V0 w' (TryL0 B gM a cp true lv ++ N) ∧ Bl V0 3 1 lv 0 [] N := by
  have hs := hs0
  clear hs0
  refine calls_of_W Try.func26 rfl rfl rfl ?_
  refine W_seq ?_
  refine W_seq ?_
  refine W_region ?_
  refine L_move rfl rfl ?_
  refine L_move rfl rfl ?_
  refine L_nilCheck rfl rfl ?_
  refine L_fieldAddr rfl (off := 0) Try.underlying33 rfl rfl Try.ti22 rfl ?_
  refine L_load rfl Try.one22 rfl (by exact hs.cellA (i := 1) rfl rfl) ?_
  refine L_len rfl Try.underlying22 rfl ?_
  first | refine L_eql rfl rfl rfl (dtrue (by omega)) ?_ | refine L_eql rfl rfl rfl (dfalse (by omega)) ?_ | refine L_eql rfl rfl rfl rfl ?_
  refine RL_then ?_
  refine W_if_true rfl ?_
  refine W_seq ?_
  refine W_pht [0, 1, 2] [3, 4, 5, 6, 7, 8, 9, 10, 11, 12, 13, 14, 15, 16, 17, 18, 19, 20, 21, 22, 23, 24, 25, 26, 27, 28, 29, 30, 31, 32, 33, 34, 35, 36, 37, 38, 39, 40, 41, 42] [43, 44, 45, 46, 47, 48] (fun _ _ _ => False) Try.mixed (chkAll_of (by kernel_rfl)) (fun _ _ _ _ _ h => h) hs ?_
  refine PL_val rfl (fun w => R_move rfl) ?_
  refine PL_val rfl (fun w => R_nilCheck rfl) ?_
  refine PL_val rfl (fun w => R_fieldAddr (off := 3) Try.underlying33 rfl rfl Try.ti4 rfl) ?_
  refine PL_end ?_
  refine HL_val rfl (fun w hs => R_load Try.one4 rfl (by exact hs.cellA (i := 1) rfl rfl)) ?_
  refine HL_val rfl (fun w hs => R_not rfl) ?_
  refine HL_val rfl (fun w hs => R_move rfl) ?_
  first | (refine HL_want rfl rfl ?_; refine HL_val rfl (fun w hs => R_move rfl) ?_) | refine HL_skip rfl rfl rfl rfl ?_ | refine HL_skipU rfl rfl rfl ?_
  first | (refine HL_want rfl rfl ?_; refine HL_val rfl (fun w hs => R_move rfl) ?_) | refine HL_skip rfl rfl rfl rfl ?_ | refine HL_skipU rfl rfl rfl ?_
  first | (refine HL_want rfl rfl ?_; refine HL_val rfl (fun w hs => R_nilCheck rfl) ?_) | refine HL_skip rfl rfl rfl rfl ?_ | refine HL_skipU rfl rfl rfl ?_
  first | (refine HL_want rfl rfl ?_; refine HL_val rfl (fun w hs => R_fieldAddr (off := 4) Try.underlying33 rfl rfl Try.ti3 rfl) ?_) | refine HL_skip rfl rfl rfl rfl ?_ | refine HL_skipU rfl rfl rfl ?_
  first | (refine HL_want rfl rfl ?_; refine HL_val rfl (fun w hs => R_load Try.one3 rfl (by exact hs.cellA (i := 1) rfl rfl)) ?_) | refine HL_skip rfl rfl rfl rfl ?_ | refine HL_skipU rfl rfl rfl ?_
  first | (refine HL_want rfl rfl ?_; (first | refine HL_val rfl (fun w hs => R_gtr rfl rfl (dtrue (by omega))) ?_ | refine HL_val rfl (fun w hs => R_gtr rfl rfl (dfalse (by omega))) ?_ | refine HL_val rfl (fun w hs => R_gtr rfl rfl rfl) ?_)) | refine HL_skip rfl rfl rfl rfl ?_ | refine HL_skipU rfl rfl rfl ?_
  first | refine HL_val rfl (fun w hs => R_pick_t rfl rfl) ?_ | refine HL_val rfl (fun w hs => R_pick_f rfl rfl) ?_
  refine HL_val rfl (fun w hs => R_move rfl) ?_
  first | (refine HL_want rfl rfl ?_; refine HL_val rfl (fun w hs => R_move rfl) ?_) | refine HL_skip rfl rfl rfl rfl ?_ | refine HL_skipU rfl rfl rfl ?_
  first | (refine HL_want rfl rfl ?_; refine HL_val rfl (fun w hs => R_move rfl) ?_) | refine HL_skip rfl rfl rfl rfl ?_ | refine HL_skipU rfl rfl rfl ?_
  first | (refine HL_want rfl rfl ?_; refine HL_val rfl (fun w hs => R_nilCheck rfl) ?_) | refine HL_skip rfl rfl rfl rfl ?_ | refine HL_skipU rfl rfl rfl ?_
  first | (refine HL_want rfl rfl ?_; refine HL_val rfl (fun w hs => R_fieldAddr (off := 4) Try.underlying33 rfl rfl Try.ti3 rfl) ?_) | refine HL_skip rfl rfl rfl rfl ?_ | refine HL_skipU rfl rfl rfl ?_
  first | (refine HL_want rfl rfl ?_; refine HL_val rfl (fun w hs => R_load Try.one3 rfl (by exact hs.cellA (i := 1) rfl rfl)) ?_) | refine HL_skip rfl rfl rfl rfl ?_ | refine HL_skipU rfl rfl rfl ?_
  first | (refine HL_want rfl rfl ?_; (first | refine HL_val rfl (fun w hs => R_eql rfl rfl (dtrue (by omega))) ?_ | refine HL_val rfl (fun w hs => R_eql rfl rfl (dfalse (by omega))) ?_ | refine HL_val rfl (fun w hs => R_eql rfl rfl rfl) ?_)) | refine HL_skip rfl rfl rfl rfl ?_ | refine HL_skipU rfl rfl rfl ?_
  first | (refine HL_want rfl rfl ?_; refine HL_val rfl (fun w hs => R_move rfl) ?_) | refine HL_skip rfl rfl rfl rfl ?_ | refine HL_skipU rfl rfl rfl ?_
  first | (refine HL_want rfl rfl ?_; refine HL_val rfl (fun w hs => R_move rfl) ?_) | refine HL_skip rfl rfl rfl rfl ?_ | refine HL_skipU rfl rfl rfl ?_
  first | (refine HL_want rfl rfl ?_; refine HL_val rfl (fun w hs => R_move rfl) ?_) | refine HL_skip rfl rfl rfl rfl ?_ | refine HL_skipU rfl rfl rfl ?_
  first | (refine HL_want rfl rfl ?_; refine HL_val rfl (fun w hs => R_nilCheck rfl) ?_) | refine HL_skip rfl rfl rfl rfl ?_ | refine HL_skipU rfl rfl rfl ?_
  first | (refine HL_want rfl rfl ?_; refine HL_val rfl (fun w hs => R_fieldAddr (off := 5) Try.underlying33 rfl rfl Try.ti2 rfl) ?_) | refine HL_skip rfl rfl rfl rfl ?_ | refine HL_skipU rfl rfl rfl ?_
  first | (refine HL_want rfl rfl ?_; refine HL_val rfl (fun w hs => R_load Try.one2 rfl (by exact hs.cellA (i := 1) rfl rfl)) ?_) | refine HL_skip rfl rfl rfl rfl ?_ | refine HL_skipU rfl rfl rfl ?_
  first | (refine HL_want rfl rfl ?_; (first | refine HL_val rfl (fun w hs => R_lss rfl rfl (dtrue (by omega))) ?_ | refine HL_val rfl (fun w hs => R_lss rfl rfl (dfalse (by omega))) ?_ | refine HL_val rfl (fun w hs => R_lss rfl rfl rfl) ?_)) | refine HL_skip rfl rfl rfl rfl ?_ | refine HL_skipU rfl rfl rfl ?_
  first | (refine HL_want rfl rfl ?_; refine HL_val rfl (fun w hs => R_move rfl) ?_) | refine HL_skip rfl rfl rfl rfl ?_ | refine HL_skipU rfl rfl rfl ?_
  first | (refine HL_want rfl rfl ?_; refine HL_val rfl (fun w hs => R_move rfl) ?_) | refine HL_skip rfl rfl rfl rfl ?_ | refine HL_skipU rfl rfl rfl ?_
  first | (refine HL_want rfl rfl ?_; refine HL_val rfl (fun w hs => R_move rfl) ?_) | refine HL_skip rfl rfl rfl rfl ?_ | refine HL_skipU rfl rfl rfl ?_
  first | (refine HL_want rfl rfl ?_; refine HL_val rfl (fun w hs => R_nilCheck rfl) ?_) | refine HL_skip rfl rfl rfl rfl ?_ | refine HL_skipU rfl rfl rfl ?_
  first | (refine HL_want rfl rfl ?_; refine HL_val rfl (fun w hs => R_fieldAddr (off := 5) Try.underlying33 rfl rfl Try.ti2 rfl) ?_) | refine HL_skip rfl rfl rfl rfl ?_ | refine HL_skipU rfl rfl rfl ?_
  first | (refine HL_want rfl rfl ?_; refine HL_val rfl (fun w hs => R_load Try.one2 rfl (by exact hs.cellA (i := 1) rfl rfl)) ?_) | refine HL_skip rfl rfl rfl rfl ?_ | refine HL_skipU rfl rfl rfl ?_
  first | (refine HL_want rfl rfl ?_; (first | refine HL_val rfl (fun w hs => R_eql rfl rfl (dtrue (by omega))) ?_ | refine HL_val rfl (fun w hs => R_eql rfl rfl (dfalse (by omega))) ?_ | refine HL_val rfl (fun w hs => R_eql rfl rfl rfl) ?_)) | refine HL_skip rfl rfl rfl rfl ?_ | refine HL_skipU rfl rfl rfl ?_
  first | (refine HL_want rfl rfl ?_; refine HL_val rfl (fun w hs => R_move rfl) ?_) | refine HL_skip rfl rfl rfl rfl ?_ | refine HL_skipU rfl rfl rfl ?_
  first | (refine HL_want rfl rfl ?_; refine HL_val rfl (fun w hs => R_move rfl) ?_) | refine HL_skip rfl rfl rfl rfl ?_ | refine HL_skipU rfl rfl rfl ?_
  first | (refine HL_want rfl rfl ?_; refine HL_val rfl (fun w hs => R_nilCheck rfl) ?_) | refine HL_skip rfl rfl rfl rfl ?_ | refine HL_skipU rfl rfl rfl ?_
  first | (refine HL_want rfl rfl ?_; refine HL_val rfl (fun w hs => R_fieldAddr (off := 2) Try.underlying33 rfl rfl Try.ti25 rfl) ?_) | refine HL_skip rfl rfl rfl rfl ?_ | refine HL_skipU rfl rfl rfl ?_
  first | (refine HL_want rfl rfl ?_; refine HL_val rfl (fun w hs => R_load Try.one25 rfl (by exact hs.cellA (i := 1) rfl rfl)) ?_) | refine HL_skip rfl rfl rfl rfl ?_ | refine HL_skipU rfl rfl rfl ?_
  first | (refine HL_want rfl rfl ?_; refine HL_val rfl (fun w hs => R_move rfl) ?_) | refine HL_skip rfl rfl rfl rfl ?_ | refine HL_skipU rfl rfl rfl ?_
  first | (refine HL_want rfl rfl ?_; refine HL_val rfl (fun w hs => R_nilCheck rfl) ?_) | refine HL_skip rfl rfl rfl rfl ?_ | refine HL_skipU rfl rfl rfl ?_
  first | (refine HL_want rfl rfl ?_; refine HL_val rfl (fun w hs => R_fieldAddr (off := 6) Try.underlying33 rfl rfl Try.ti25 rfl) ?_) | refine HL_skip rfl rfl rfl rfl ?_ | refine HL_skipU rfl rfl rfl ?_
  first | (refine HL_want rfl rfl ?_; refine HL_val rfl (fun w hs => R_load Try.one25 rfl (by exact hs.cellA (i := 1) rfl rfl)) ?_) | refine HL_skip rfl rfl rfl rfl ?_ | refine HL_skipU rfl rfl rfl ?_
  refine HL_tail ?_
  intro w hs
  first | refine RL_skip rfl rfl rfl rfl ?_ | refine RL_skipU rfl rfl rfl ?_
  first | (refine RL_want rfl rfl ?_; (first | refine L_pick_t rfl rfl rfl ?_ | refine L_pick_f rfl rfl rfl ?_)) | refine RL_skip rfl rfl rfl rfl ?_ | refine RL_skipU rfl rfl rfl ?_
  first | (refine RL_want rfl rfl ?_; (first | refine L_pick_t rfl rfl rfl ?_ | refine L_pick_f rfl rfl rfl ?_)) | refine RL_skip rfl rfl rfl rfl ?_ | refine RL_skipU rfl rfl rfl ?_
  first | (refine RL_want rfl rfl ?_; (first | refine L_pick_t rfl rfl rfl ?_ | refine L_pick_f rfl rfl rfl ?_)) | refine RL_skip rfl rfl rfl rfl ?_ | refine RL_skipU rfl rfl rfl ?_
  first | refine L_pick_t rfl rfl rfl ?_ | refine L_pick_f rfl rfl rfl ?_
  refine L_assign rfl rfl ?_
  refine RL_then ?_
  refine W_seq ?_
  refine W_seq ?_
  refine W_region ?_
  refine L_move rfl rfl ?_
  refine RL_then ?_
  refine W_if_true rfl ?_
  refine W_seq ?_
  refine W_region ?_
  refine L_move rfl rfl ?_
  refine L_move rfl rfl ?_
  refine L_move rfl rfl ?_
  refine L_move rfl rfl ?_
  refine L_move rfl rfl ?_
  refine L_nilCheck rfl rfl ?_
  refine L_fieldAddr rfl (off := 3) Try.underlying33 rfl rfl Try.ti4 rfl ?_
  refine L_store hs (i := 1) rfl Try.ti4 rfl rfl (by first | rfl | exact add_lit0 _ _ | exact Addr.add_lit ..) (by first | omega | (simp; done) | (simp; omega)) rfl ?_
  intro w hs
  try dsimp only [List.set_cons_succ, List.set_cons_zero, List.cons_append, List.nil_append] at hs
  refine L_nilCheck rfl rfl ?_
  refine L_fieldAddr rfl (off := 4) Try.underlying33 rfl rfl Try.ti3 rfl ?_
  refine L_store hs (i := 1) rfl Try.ti3 rfl rfl (by first | rfl | exact add_lit0 _ _ | exact Addr.add_lit ..) (by first | omega | (simp; done) | (simp; omega)) rfl ?_
  intro w hs
  try dsimp only [List.set_cons_succ, List.set_cons_zero, List.cons_append, List.nil_append] at hs
  refine L_nilCheck rfl rfl ?_
  refine L_fieldAddr rfl (off := 5) Try.underlying33 rfl rfl Try.ti2 rfl ?_
  refine L_store hs (i := 1) rfl Try.ti2 rfl rfl (by first | rfl | exact add_lit0 _ _ | exact Addr.add_lit ..) (by first | omega | (simp; done) | (simp; omega)) rfl ?_
  intro w hs
  try dsimp only [List.set_cons_succ, List.set_cons_zero, List.cons_append, List.nil_append] at hs
  refine RL_then ?_
  refine W_region ?_
  refine L_move rfl rfl ?_
  refine L_move rfl rfl ?_
  refine L_nilCheck rfl rfl ?_
  refine L_fieldAddr rfl (off := 2) Try.underlying33 rfl rfl Try.ti25 rfl ?_
  refine L_load rfl Try.one25 rfl (by exact hs.cellA (i := 1) rfl rfl) ?_
  have hgl : SlC w (some ⟨gM, 0, none⟩) (il []) := SlC.of_row (sp := []) (by rw [List.append_nil]; exact hs.get (i := 0) rfl)
  have hs2 : HS V0 w (TryL0 B gM a cp true (.slice none 0 0) ++ []) := by rw [List.append_nil]; exact hs
  clear hs
  refine L_appendS rfl Try.underlying25 Try.ti3 rfl (by decide) (L := TryL0 B gM a cp true (.slice none 0 0)) hs2 Bl.nil rfl rfl rfl hgl (il_one _) (by omega) (by omega) ?_
  intro lv2 w M2 hs hb2
  obtain ⟨la2, lc2, rfl, _⟩ := hb2.slice
  clear hs2 hgl
  refine L_nilCheck rfl rfl ?_
  refine L_fieldAddr rfl (off := 6) Try.underlying33 rfl rfl Try.ti25 rfl ?_
  refine L_store hs (i := 1) rfl Try.ti25 rfl rfl (by first | rfl | exact add_lit0 _ _ | exact Addr.add_lit ..) (by first | omega | (simp; done) | (simp; omega)) rfl ?_
  intro w hs
  try dsimp only [List.set_cons_succ, List.set_cons_zero, List.cons_append, List.nil_append] at hs
  refine RL_then ?_
  refine W_ret' ?_
  refine Ex_then_ret ?_
  refine Ex_done0 (.inl rfl) rfl ?_
  exact ⟨_, rfl, .slice la2 0 lc2, M2, hs, hb2⟩
/-- No rows: one pairing, of nothing. -/
theorem best_none (whole : Bool) (a : Option Addr) (cp : Nat) (V0 : World) :
    Ret Try.prog 11 [.slice a 0 cp, .bool whole] V0 fun v w' => ∃ B gM lv N, v = .pointer (some ⟨B, 0, none⟩) ∧ HS V0 w' (TryL0 B gM a cp true lv ++ N) ∧ Own V0 (TryL0 B gM a cp true lv ++ N) ∧ Bl V0 3 1 lv 0 [] N := by
  refine Ret.start fun w hs => ?_
  refine calls_of_W Try.func11 rfl rfl rfl ?_
  refine W_seq ?_
  refine W_region ?_
  refine L_assign rfl rfl ?_
  refine RL_then ?_
  refine W_seq ?_
  refine W_region ?_
  refine L_move rfl rfl ?_
  refine L_move rfl rfl ?_
  refine L_len rfl Try.underlying22 rfl ?_
  refine L_make1 rfl hs Try.underlying25 Try.ti3 rfl rfl (by with_reducible first | exact natc_k _ | exact natc_a1 _ | exact natc_0 | exact natc_1 | exact natc_2 | exact natc_s1 _ (by omega) | exact natc_a2 _ | exact natc_add _ _ | exact natc_mul _ _ | exact natc (by omega)) (by with_reducible first | exact natc_k _ | exact natc_a1 _ | exact natc_0 | exact natc_1 | exact natc_2 | exact natc_s1 _ (by omega) | exact natc_a2 _ | exact natc_add _ _ | exact natc_mul _ _ | exact natc (by omega)) (by omega) (by omega) (by omega) rfl ?_
  intro b9 w hb9 hnb9 hs
  try dsimp only [List.set_cons_succ, List.set_cons_zero, List.cons_append, List.nil_append] at hs
  refine L_build rfl rfl (Pl.built Try.pl33 rfl) ?_
  refine L_box rfl hs rfl ?_
  intro b11 w hb11 hnb11 hs
  try dsimp only [List.set_cons_succ, List.set_cons_zero, List.cons_append, List.nil_append] at hs
  refine L_assign rfl rfl ?_
  refine RL_then ?_
  refine W_seq ?_
  refine W_seq ?_
  refine W_region ?_
  refine L_move rfl rfl ?_
  refine L_len rfl Try.underlying22 rfl ?_
  first | refine L_gtr rfl rfl rfl (dtrue (by omega)) ?_ | refine L_gtr rfl rfl rfl (dfalse (by omega)) ?_ | refine L_gtr rfl rfl rfl rfl ?_
  refine RL_then ?_
  replace hs : HS V0 w (TryL0 b11 b9 a cp false (.slice none 0 0)) := hs
  refine W_if_false rfl ?_
  refine W_skip' ?_
  refine Nx_then ?_
  refine W_seq ?_
  refine W_region ?_
  refine L_move rfl rfl ?_
  refine L_move rfl rfl ?_
  refine L_call rfl Try.fun26 rfl (leaf0 whole a cp b11 b9 V0 w hs) ?_
  rintro _ w' ⟨lv2, N2, hs3, hb2⟩
  clear hs
  have hs := hs3
  refine RL_then ?_
  refine W_seq ?_
  refine W_region ?_
  refine L_move rfl rfl ?_
  refine L_assign rfl rfl ?_
  refine RL_then ?_
  refine W_ret' ?_
  refine Ex_done1 rfl rfl ?_
  exact ⟨_, rfl, b11, b9, lv2, N2, rfl, hs3, (Own.cons hb9 (Own.cons hb11 Own.nil)).app hb2.own, hb2⟩
end Go.Proofs.Ytcfdmenmlemahaa
