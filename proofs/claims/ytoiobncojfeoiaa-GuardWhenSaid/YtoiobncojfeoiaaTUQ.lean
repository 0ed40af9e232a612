/-
  A part of the proof: what functions that the statement reaches do, or a plain law on what they do. Each theorem holds under its own premises alone.
-/
import Derived.Test.YtoiobncojfeoiaaKitQ
import Derived.Test.YtoiobncojfeoiaaTUD
import Derived.Test.YtoiobncojfeoiaaTUL
import Derived.Test.YtoiobncojfeoiaaTUP
namespace Go.Proofs.Ytoiobncojfeoiaa
open Go Go.Lk
/-! ### GuardWhen -/
theorem sfB_self (x : Nat) : sfB x x = true := by unfold sfB; cases nnB x <;> simp
theorem whenS_lt (ps : List Pt) (p v : Pt) (most : Nat) : ∀ j, (whenS ps p v most j).1 < 18446744073709551616
  | 0 => by show 0 < _; decide
  | j + 1 => by
    have ih := whenS_lt ps p v most j
    show (whenStep p v most _ _ (whenS ps p v most j)).1 < _
    unfold whenStep
    split
    · exact ih
    · split
      · exact fop_lt _ _ _
      · exact ih
theorem whenF_R (ps : List Pt) (p v : Pt) (most : Nat) : (whenF ps p v most).1 = whenR ps p v most := by
  unfold whenF whenR
  split
  · rfl
  · split
    · rfl
    · exact fop_add0 (whenS_lt ps p v most ps.length) (whenS_num ps p v most ps.length)
set_option maxHeartbeats 2000000 in
theorem when_law (a : Option Addr) (n c : Nat) (ps : List Pt) (p v : Pt) (most : Nat) (w0 : World) (hx : SlC w0 a (pcs ps)) (hn : ps.length = n) :
    Ret Try.prog 3 [.slice a n c, .agg #[.float .f64 p.1, .float .f64 p.2], .agg #[.float .f64 v.1, .float .f64 v.2], .float .f64 most] w0 fun r w' => r = .bool true ∧ HS w0 w' [] := by
  refine Ret.start fun w hs => ?_
  refine calls_of_W Try.func3 rfl rfl rfl ?_
  refine W_seq ?_
  refine W_region ?_
  refine L_box rfl hs rfl ?_
  intro b5 w hb5 hnb5 hs
  try dsimp only [List.set_cons_succ, List.set_cons_zero, List.cons_append, List.nil_append] at hs
  refine L_box rfl hs rfl ?_
  intro b6 w hb6 hnb6 hs
  try dsimp only [List.set_cons_succ, List.set_cons_zero, List.cons_append, List.nil_append] at hs
  refine L_assign rfl rfl ?_
  refine RL_then ?_
  refine W_seq ?_
  refine W_seq ?_
  refine W_region ?_
  replace hs : HS w0 w [(b5, Row 25 [.float .f64 p.1, .float .f64 p.2]), (b6, Row 25 [.float .f64 v.1, .float .f64 v.2])] := hs
  have ho2 : Own w0 [(b5, Row 25 [.float .f64 p.1, .float .f64 p.2]), (b6, Row 25 [.float .f64 v.1, .float .f64 v.2])] := Own.cons hb5 (Own.cons hb6 Own.nil)
  by_cases hbig : 65536 < n
  · refine L_move rfl rfl ?_
    refine L_len rfl Try.underlying22 rfl ?_
    first | refine L_gtr rfl rfl rfl (dtrue (by omega)) ?_ | refine L_gtr rfl rfl rfl (dfalse (by omega)) ?_ | refine L_gtr rfl rfl rfl rfl ?_
    refine RL_then ?_
    refine W_if_true rfl ?_
    refine W_seq ?_
    refine W_region ?_
    refine L_call rfl Try.fun8 rfl (works_ok w) ?_
    rintro _ w' ⟨rfl, hs'⟩
    have hs2 := hs.nil hs'
    refine L_assign rfl rfl ?_
    refine RL_then ?_
    refine W_ret' ?_
    refine Ex_then_ret ?_
    refine Ex_done1 rfl rfl ?_
    exact ⟨_, rfl, rfl, hs2.forget ho2⟩
  · refine L_move rfl rfl ?_
    refine L_len rfl Try.underlying22 rfl ?_
    first | refine L_gtr rfl rfl rfl (dtrue (by omega)) ?_ | refine L_gtr rfl rfl rfl (dfalse (by omega)) ?_ | refine L_gtr rfl rfl rfl rfl ?_
    refine RL_then ?_
    refine W_if_false rfl ?_
    refine W_skip' ?_
    refine Nx_then ?_
    refine W_seq ?_
    refine W_region ?_
    refine L_move rfl rfl ?_
    refine L_appendS (L := [(b5, Row 25 [.float .f64 p.1, .float .f64 p.2]), (b6, Row 25 [.float .f64 v.1, .float .f64 v.2])]) (M := []) rfl Try.underlying22 Try.ti25 rfl (by decide) (by rw [List.append_nil]; exact hs) Bl.nil rfl rfl (news := pcs ps) (by rw [pcs_len, hn]) (hx.old hs ho2) (pcs_one _) (by omega) (by omega) ?_
    rintro v20 w M20 hs hb20
    rw [List.nil_append, Nat.zero_add] at hb20
    refine L_assign rfl rfl ?_
    refine RL_then ?_
    refine W_seq ?_
    refine W_region ?_
    refine L_move rfl rfl ?_
    refine L_build rfl rfl (Pl.built Try.pl25 rfl) ?_
    refine L_buildSlice rfl hs Try.underlying22 Try.ti25 rfl (by decide) rfl (by simp [Value.cells]) ?_
    intro b23 w hb23 hnb23 hs
    skip
    replace hs : HS w0 w (([(b5, Row 25 [.float .f64 p.1, .float .f64 p.2]), (b6, Row 25 [.float .f64 v.1, .float .f64 v.2])] ++ M20) ++ [(b23, Row 25 [.float .f64 4635118810238550016, .float .f64 0])]) := hs
    refine L_appendT (L := [(b5, Row 25 [.float .f64 p.1, .float .f64 p.2]), (b6, Row 25 [.float .f64 v.1, .float .f64 v.2])]) (M := M20) rfl Try.underlying22 Try.ti25 rfl hs hb23 hb20 rfl rfl rfl (by simp [Value.oneCell']) (by omega) (by omega) ?_
    rintro v24 w M24 hs hb24
    obtain ⟨q, cap, sp, rfl, rfl, hq, hcap, hle⟩ := hb24.own_row (by omega)
    have hq0 : w.heap[q]? = some (Row 25 (pcs ps ++ ([.float .f64 4635118810238550016, .float .f64 0] ++ sp))) := by
      have := hs.get (i := 2) rfl
      rw [← List.append_assoc]; exact this
    have hoA : Own w0 ([(b5, Row 25 [.float .f64 p.1, .float .f64 p.2]), (b6, Row 25 [.float .f64 v.1, .float .f64 v.2])] ++ [(q, Row 25 (pcs ps ++ [.float .f64 4635118810238550016, .float .f64 0] ++ sp))]) := ho2.app (Own.cons hq Own.nil)
    replace hs : HS w0 w ([(b5, Row 25 [.float .f64 p.1, .float .f64 p.2]), (b6, Row 25 [.float .f64 v.1, .float .f64 v.2])] ++ [(q, Row 25 (pcs ps ++ [.float .f64 4635118810238550016, .float .f64 0] ++ sp))]) := hs
    obtain ⟨LL, hLL⟩ : ∃ LL, [(b5, Row 25 [.float .f64 p.1, .float .f64 p.2]), (b6, Row 25 [.float .f64 v.1, .float .f64 v.2])] ++ [(q, Row 25 (pcs ps ++ [.float .f64 4635118810238550016, .float .f64 0] ++ sp))] = LL := ⟨_, rfl⟩
    have g5 : LL[0]? = some (b5, Row 25 [.float .f64 p.1, .float .f64 p.2]) := by rw [← hLL]; rfl
    have g6 : LL[1]? = some (b6, Row 25 [.float .f64 v.1, .float .f64 v.2]) := by rw [← hLL]; rfl
    have gq : ∀ w1, HS w0 w1 LL → w1.heap[q]? = some (Row 25 (pcs ps ++ ([.float .f64 4635118810238550016, .float .f64 0] ++ sp))) := fun w1 h => by
      rw [← List.append_assoc]; exact h.get (i := 2) (by rw [← hLL]; rfl)
    have cz : ∀ w1, HS w0 w1 LL → CellsAt w1 ((aD (some ⟨q, 0, none⟩)).add (n * 2)) [.float .f64 4635118810238550016, .float .f64 0] := fun w1 h => by
      have hsl : SlC w1 (some ⟨q, 0, none⟩) (pcs (ps ++ [(4635118810238550016, 0)])) := SlC.of_row (sp := sp) (by rw [pcs_app, List.append_assoc]; exact gq _ h)
      have := pt_at hsl (i := n) (by simp; omega)
      rw [show (ps ++ [((4635118810238550016, 0) : Pt)]).getD n (0, 0) = (4635118810238550016, 0) by simp [hn]] at this
      exact this
    rw [hLL] at hs hoA
    clear hLL hq0 hb24 hb20
    refine L_move rfl rfl ?_
    refine L_len rfl Try.underlying22 rfl ?_
    refine RL_val rfl (R_slice010 Try.underlying22 Try.ti25 rfl rfl (by with_reducible first | exact natc_k _ | exact natc_a1 _ | exact natc_0 | exact natc_1 | exact natc_2 | exact natc_s1 _ (by omega) | exact natc_a2 _ | exact natc_add _ _ | exact natc_mul _ _ | exact natc (by omega)) (by omega)) ?_
    refine L_assign rfl rfl ?_
    refine RL_then ?_
    refine W_seq ?_
    refine W_region ?_
    refine L_move rfl rfl ?_
    refine L_loadA rfl Try.agg25 Try.ti25 rfl (by exact cellsAt2' (hs.get g5) rfl rfl) ?_
    refine L_loadA rfl Try.agg25 Try.ti25 rfl (by exact cellsAt2' (hs.get g6) rfl rfl) ?_
    refine L_move rfl rfl ?_
    refine L_call rfl Try.fun9 rfl (when_ok (some ⟨q, 0, none⟩) n cap ps p v most w (SlC.of_row (gq _ hs)) hn) ?_
    rintro _ w1 ⟨rfl, hs'⟩
    rw [whenF_R]
    have hs2 := hs.nil hs'
    clear hs hs'
    have hs := hs2
    clear hs2
    refine L_move rfl rfl ?_
    refine L_extract rfl rfl rfl ?_
    refine L_extract rfl rfl rfl ?_
    refine L_assign rfl rfl ?_
    refine L_assign rfl rfl ?_
    refine RL_then ?_
    refine W_seq ?_
    refine W_region ?_
    refine L_move rfl rfl ?_
    refine L_loadA rfl Try.agg25 Try.ti25 rfl (by exact cellsAt2' (hs.get g5) rfl rfl) ?_
    refine L_loadA rfl Try.agg25 Try.ti25 rfl (by exact cellsAt2' (hs.get g6) rfl rfl) ?_
    refine L_move rfl rfl ?_
    refine L_call rfl Try.fun10 rfl (rwhen_ok a n c ps p v most w1 (hx.old hs hoA) hn) ?_
    rintro _ w2 ⟨rfl, hs'⟩
    have hs2 := hs.nil hs'
    clear hs hs'
    have hs := hs2
    clear hs2
    refine L_move rfl rfl ?_
    refine L_extract rfl rfl rfl ?_
    refine L_extract rfl rfl rfl ?_
    refine L_assign rfl rfl ?_
    refine L_assign rfl rfl ?_
    refine RL_then ?_
    refine W_seq ?_
    refine W_seq ?_
    refine W_region ?_
    refine L_move rfl rfl ?_
    refine L_len rfl Try.underlying22 rfl ?_
    refine L_move rfl rfl ?_
    refine RL_then ?_
    refine W_block ?_
    refine W_loop2 (fun (i : Nat) (w : World) => [(0, .slice a n c), (9, .slice (some ⟨q, 0, none⟩) n cap), (10, .float .f64 (whenR ps p v most)), (11, .bool (whenF ps p v most).2), (12, .float .f64 (whenR ps p v most)), (13, .bool (whenF ps p v most).2), (45, .int .i64 n), (46, .int .i64 i)]) (fun (i : Nat) (w : World) => w) (fun (i : Nat) (w : World) => (i ≤ n) ∧ (HS w0 w LL)) (fun (i : Nat) (w : World) => n - i) (0) (w2) (is := [0, 9, 10, 11, 12, 13, 45, 46]) rfl rfl ?_ ?_
    · exact ⟨Nat.zero_le _, hs⟩
    · clear hs
      intro i w hI
      show W _ _ _ _ [(0, .slice a n c), (9, .slice (some ⟨q, 0, none⟩) n cap), (10, .float .f64 (whenR ps p v most)), (11, .bool (whenF ps p v most).2), (12, .float .f64 (whenR ps p v most)), (13, .bool (whenF ps p v most).2), (45, .int .i64 n), (46, .int .i64 i)] w
      obtain ⟨hi, hs⟩ := hI
      by_cases hlt : i < n
      · refine W_seq ?_
        refine W_region ?_
        first | refine L_lss rfl rfl rfl (dtrue (by omega)) ?_ | refine L_lss rfl rfl rfl (dfalse (by omega)) ?_ | refine L_lss rfl rfl rfl rfl ?_
        refine RL_then ?_
        refine W_seq ?_
        refine W_if_true rfl ?_
        obtain ⟨e, hed⟩ : ∃ e, e = ps.getD i (0, 0) := ⟨_, rfl⟩
        have cx : ∀ w1, HS w0 w1 LL → CellsAt w1 ((aD (some ⟨q, 0, none⟩)).add (i * 2)) [.float .f64 e.1, .float .f64 e.2] := fun w1 h => by rw [hed]; exact pt_at (SlC.of_row (gq _ h)) (by omega)
        have cy : ∀ w1, HS w0 w1 LL → CellsAt w1 ((aD a).add (i * 2)) [.float .f64 e.1, .float .f64 e.2] := fun w1 h => by rw [hed]; exact pt_at (hx.old h hoA) (by omega)
        refine W_skip' ?_
        refine Nx_then ?_
        refine W_seq ?_
        refine W_block ?_
        refine W_seq ?_
        refine W_region ?_
        refine L_move rfl rfl ?_
        refine L_assign rfl rfl ?_
        refine RL_then ?_
        refine W_seq ?_
        refine W_sg Try.mixed ?_
        replace hs := hs.drewN 1
        refine SG_stage [0, 1, 2, 3, 5, 6, 7, 8] [4, 9] [10, 11, 12] (fun _ _ _ => False) (g' := 13) (by kernel_rfl) (by kernel_rfl) (fun _ _ _ _ _ h => h) hs ?_
        refine PL_val rfl (fun w => R_move rfl) ?_
        refine PL_val rfl (fun w => R_move rfl) ?_
        refine PL_val rfl (fun w => R_idxN Try.underlying22 Try.ti25 rfl rfl (by with_reducible first | exact natc_k _ | exact natc_a1 _ | exact natc_0 | exact natc_1 | exact natc_2 | exact natc_s1 _ (by omega) | exact natc_a2 _ | exact natc_add _ _ | exact natc_mul _ _ | exact natc (by omega)) (by omega) rfl) ?_
        refine PL_val rfl (fun w => R_fieldAddr (off := 0) Try.underlying25 rfl rfl Try.ti23 rfl) ?_
        refine PL_val rfl (fun w => R_move rfl) ?_
        refine PL_val rfl (fun w => R_move rfl) ?_
        refine PL_val rfl (fun w => R_idxN Try.underlying22 Try.ti25 rfl rfl (by with_reducible first | exact natc_k _ | exact natc_a1 _ | exact natc_0 | exact natc_1 | exact natc_2 | exact natc_s1 _ (by omega) | exact natc_a2 _ | exact natc_add _ _ | exact natc_mul _ _ | exact natc (by omega)) (by omega) (hx.ao (by rw [pcs_len]; omega))) ?_
        refine PL_val rfl (fun w => R_fieldAddr (off := 0) Try.underlying25 rfl rfl Try.ti23 rfl) ?_
        refine PL_end ?_
        refine HL_val rfl (fun w hs => R_load Try.one23 rfl (by exact cx _ hs 0 _ rfl)) ?_
        refine HL_val rfl (fun w hs => R_load Try.one23 rfl (by exact cy _ hs 0 _ rfl)) ?_
        refine HL_tail ?_
        intro w hs
        refine L_call rfl Try.fun11 rfl (sf_ok e.1 e.1 _) ?_
        rintro _ w ⟨rfl, rfl⟩
        rw [sfB_self]
        refine L_not rfl rfl ?_
        refine L_move rfl rfl ?_
        refine RL_sg ?_
        refine SG_stage [13, 14, 15, 16, 18, 19, 20, 21] [17, 22] [23, 24, 25] (fun _ _ _ => False) (g' := 0) (by kernel_rfl) (by kernel_rfl) (fun _ _ _ _ _ h => h) hs ?_
        first | refine PL_want rfl rfl rfl (fun w => R_move rfl) ?_ | refine PL_skip rfl rfl rfl rfl ?_ | refine PL_skipU rfl rfl rfl ?_
        first | refine PL_want rfl rfl rfl (fun w => R_move rfl) ?_ | refine PL_skip rfl rfl rfl rfl ?_ | refine PL_skipU rfl rfl rfl ?_
        first | refine PL_want rfl rfl rfl (fun w => R_idxN Try.underlying22 Try.ti25 rfl rfl (by with_reducible first | exact natc_k _ | exact natc_a1 _ | exact natc_0 | exact natc_1 | exact natc_2 | exact natc_s1 _ (by omega) | exact natc_a2 _ | exact natc_add _ _ | exact natc_mul _ _ | exact natc (by omega)) (by omega) rfl) ?_ | refine PL_skip rfl rfl rfl rfl ?_ | refine PL_skipU rfl rfl rfl ?_
        first | refine PL_want rfl rfl rfl (fun w => R_fieldAddr (off := 1) Try.underlying25 rfl rfl Try.ti23 rfl) ?_ | refine PL_skip rfl rfl rfl rfl ?_ | refine PL_skipU rfl rfl rfl ?_
        first | refine PL_want rfl rfl rfl (fun w => R_move rfl) ?_ | refine PL_skip rfl rfl rfl rfl ?_ | refine PL_skipU rfl rfl rfl ?_
        first | refine PL_want rfl rfl rfl (fun w => R_move rfl) ?_ | refine PL_skip rfl rfl rfl rfl ?_ | refine PL_skipU rfl rfl rfl ?_
        first | refine PL_want rfl rfl rfl (fun w => R_idxN Try.underlying22 Try.ti25 rfl rfl (by with_reducible first | exact natc_k _ | exact natc_a1 _ | exact natc_0 | exact natc_1 | exact natc_2 | exact natc_s1 _ (by omega) | exact natc_a2 _ | exact natc_add _ _ | exact natc_mul _ _ | exact natc (by omega)) (by omega) (hx.ao (by rw [pcs_len]; omega))) ?_ | refine PL_skip rfl rfl rfl rfl ?_ | refine PL_skipU rfl rfl rfl ?_
        first | refine PL_want rfl rfl rfl (fun w => R_fieldAddr (off := 1) Try.underlying25 rfl rfl Try.ti23 rfl) ?_ | refine PL_skip rfl rfl rfl rfl ?_ | refine PL_skipU rfl rfl rfl ?_
        refine PL_end ?_
        first | (refine HL_want rfl rfl ?_; refine HL_val rfl (fun w hs => R_load Try.one23 rfl (by exact cx _ hs 1 _ rfl)) ?_) | refine HL_skip rfl rfl rfl rfl ?_ | refine HL_skipU rfl rfl rfl ?_
        first | (refine HL_want rfl rfl ?_; refine HL_val rfl (fun w hs => R_load Try.one23 rfl (by exact cy _ hs 1 _ rfl)) ?_) | refine HL_skip rfl rfl rfl rfl ?_ | refine HL_skipU rfl rfl rfl ?_
        refine HL_tail ?_
        intro w hs
        skip
        refine RL_want rfl rfl ?_
        refine L_call rfl Try.fun11 rfl (sf_ok e.2 e.2 _) ?_
        rintro _ w ⟨rfl, rfl⟩
        rw [sfB_self]
        first | (refine RL_want rfl rfl ?_; refine L_not rfl rfl ?_) | refine RL_skip rfl rfl rfl rfl ?_ | refine RL_skipU rfl rfl rfl ?_
        first | refine L_pick_t rfl rfl rfl ?_ | refine L_pick_f rfl rfl rfl ?_
        refine RL_sg ?_
        refine SG_end (by kernel_rfl) ?_
        refine Nx_then ?_
        refine W_if_false rfl ?_
        refine W_skip' ?_
        refine Nx_block ?_
        refine Nx_then ?_
        refine W_region ?_
        first | refine L_add rfl rfl rfl (wrp_i64 (by omega)) ?_ | refine L_add rfl rfl rfl rfl ?_
        refine L_move rfl rfl ?_
        refine RL_nil' ?_
        refine Nx_loopP (i + 1, _) (is := [0, 9, 10, 11, 12, 13, 45, 46]) (I' := (fun (i : Nat) (w : World) => (i ≤ n) ∧ (HS w0 w LL)) (i + 1) (_)) rfl rfl rfl ?_ ?_
        · exact ⟨hlt, hs⟩
        · omega
      · obtain rfl : i = n := by omega
        refine W_seq ?_
        refine W_region ?_
        first | refine L_lss rfl rfl rfl (dtrue (by omega)) ?_ | refine L_lss rfl rfl rfl (dfalse (by omega)) ?_ | refine L_lss rfl rfl rfl rfl ?_
        refine RL_then ?_
        refine W_seq ?_
        refine W_if_false rfl ?_
        refine W_exit' ?_
        refine Ex_then_exit ?_
        refine Ex_loop_exit ?_
        refine Ex_block_hit ?_
        refine Nx_then ?_
        refine W_seq ?_
        refine W_region ?_
        refine L_move rfl rfl ?_
        refine L_move rfl rfl ?_
        refine L_call rfl Try.fun11 rfl (sf_ok (whenR ps p v most) (whenR ps p v most) _) ?_
        rintro _ w ⟨rfl, rfl⟩
        rw [sfB_self]
        refine L_move rfl rfl ?_
        first | (refine RL_want rfl rfl ?_; refine L_move rfl rfl ?_) | refine RL_skip rfl rfl rfl rfl ?_ | refine RL_skipU rfl rfl rfl ?_
        first | (refine RL_want rfl rfl ?_; refine L_move rfl rfl ?_) | refine RL_skip rfl rfl rfl rfl ?_ | refine RL_skipU rfl rfl rfl ?_
        first | (refine RL_want rfl rfl ?_; refine RL_val rfl (R_beql Try.underlying4 rfl rfl) ?_) | refine RL_skip rfl rfl rfl rfl ?_ | refine RL_skipU rfl rfl rfl ?_
        refine RL_set 82 (v' := .bool true) rfl ((congrArg Value.bool (beq_self_eq_true _))) ?_
        first | refine L_pick_t rfl rfl rfl ?_ | refine L_pick_f rfl rfl rfl ?_
        refine L_move rfl rfl ?_
        first | (refine RL_want rfl rfl ?_; refine L_move rfl rfl ?_) | refine RL_skip rfl rfl rfl rfl ?_ | refine RL_skipU rfl rfl rfl ?_
        first | (refine RL_want rfl rfl ?_; refine L_move rfl rfl ?_) | refine RL_skip rfl rfl rfl rfl ?_ | refine RL_skipU rfl rfl rfl ?_
        first | (refine RL_want rfl rfl ?_; refine L_len rfl Try.underlying22 rfl ?_) | refine RL_skip rfl rfl rfl rfl ?_ | refine RL_skipU rfl rfl rfl ?_
        first | (refine RL_want rfl rfl ?_; (first | refine L_add rfl rfl rfl (wrp_i64 (by omega)) ?_ | refine L_add rfl rfl rfl rfl ?_)) | refine RL_skip rfl rfl rfl rfl ?_ | refine RL_skipU rfl rfl rfl ?_
        first | (refine RL_want rfl rfl ?_; refine RL_val rfl (R_slice010 Try.underlying22 Try.ti25 rfl rfl (by with_reducible first | exact natc_k _ | exact natc_a1 _ | exact natc_0 | exact natc_1 | exact natc_2 | exact natc_s1 _ (by omega) | exact natc_a2 _ | exact natc_add _ _ | exact natc_mul _ _ | exact natc (by omega)) (by omega)) ?_) | refine RL_skip rfl rfl rfl rfl ?_ | refine RL_skipU rfl rfl rfl ?_
        first | (refine RL_want rfl rfl ?_; refine L_move rfl rfl ?_) | refine RL_skip rfl rfl rfl rfl ?_ | refine RL_skipU rfl rfl rfl ?_
        first | (refine RL_want rfl rfl ?_; refine L_len rfl Try.underlying22 rfl ?_) | refine RL_skip rfl rfl rfl rfl ?_ | refine RL_skipU rfl rfl rfl ?_
        first | (refine RL_want rfl rfl ?_; refine L_idxN rfl Try.underlying22 Try.ti25 rfl rfl (by with_reducible first | exact natc_k _ | exact natc_a1 _ | exact natc_0 | exact natc_1 | exact natc_2 | exact natc_s1 _ (by omega) | exact natc_a2 _ | exact natc_add _ _ | exact natc_mul _ _ | exact natc (by omega)) (by omega) rfl ?_) | refine RL_skip rfl rfl rfl rfl ?_ | refine RL_skipU rfl rfl rfl ?_
        first | (refine RL_want rfl rfl ?_; refine L_fieldAddr rfl (off := 0) Try.underlying25 rfl rfl Try.ti23 rfl ?_) | refine RL_skip rfl rfl rfl rfl ?_ | refine RL_skipU rfl rfl rfl ?_
        first | (refine RL_want rfl rfl ?_; refine L_load rfl Try.one23 rfl (by exact cz _ hs 0 _ rfl) ?_) | refine RL_skip rfl rfl rfl rfl ?_ | refine RL_skipU rfl rfl rfl ?_
        first | (refine RL_want rfl rfl ?_; refine L_fcmp rfl rfl rfl (fun _ => by rw [binOp_float_cmp_eql]; rfl) ?_) | refine RL_skip rfl rfl rfl rfl ?_ | refine RL_skipU rfl rfl rfl ?_
        refine RL_set 95 (v' := .bool true) rfl ((congrArg Value.bool (by kernel_rfl))) ?_
        first | refine L_pick_t rfl rfl rfl ?_ | refine L_pick_f rfl rfl rfl ?_
        refine L_move rfl rfl ?_
        refine RL_want rfl rfl ?_
        refine L_call rfl Try.fun8 rfl (works_ok _) ?_
        rintro _ w' ⟨rfl, hs'⟩
        have hs2 := hs.nil hs'
        first | refine L_pick_t rfl rfl rfl ?_ | refine L_pick_f rfl rfl rfl ?_
        refine L_assign rfl rfl ?_
        refine RL_then ?_
        refine W_ret' ?_
        refine Ex_done1 rfl rfl ?_
        exact ⟨_, rfl, rfl, hs2.forget hoA⟩
end Go.Proofs.Ytoiobncojfeoiaa
