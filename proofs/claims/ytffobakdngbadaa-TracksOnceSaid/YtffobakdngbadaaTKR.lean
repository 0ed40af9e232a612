/-
 A part of the proof: what functions that the statement reaches do, or a plain law on what they do. Each theorem holds under its own premises alone.
-/
import Derived.Test.YtffobakdngbadaaTKQ
namespace Go.Proofs.Ytffobakdngbadaa
open Go Go.Lk
/-! ### The same tracks -/
structure TEq (t u : Trk) : Prop where
 id : t.id = u.id
 kind : t.kind = u.kind
 seen : t.seen = u.seen
 steps : t.steps = u.steps
 last : cn t.last = cn u.last
 x : t.x.c = u.x.c
 y : t.y.c = u.y.c
theorem TEq.refl (t : Trk) : TEq t t := ⟨rfl, rfl, rfl, rfl, rfl, rfl, rfl⟩
theorem sameState_ok (s u : Stt) (h : s.c = u.c) (w0 : World) : Ret Try.prog 26 [.agg s.cells.toArray, .agg u.cells.toArray] w0 fun v w' => v = .bool true ∧ HS w0 w' [] := by
 obtain ⟨g1, g2, g3, g4, g5⟩ := Stt.parts h
 refine Ret.start fun w hs => ?_
 refine calls_of_W Try.func26 rfl rfl rfl (W_seq (W_region (L_box rfl hs rfl ?_)))
 intro b2 w hb2 hnb2 hs
 dsimp only [List.set_cons_succ, List.set_cons_zero, List.cons_append, List.nil_append] at hs
 refine L_box rfl hs rfl ?_
 intro b3 w hb3 hnb3 hs
 dsimp only [List.set_cons_succ, List.set_cons_zero, List.cons_append, List.nil_append] at hs
 replace hs : HS w0 w [(b2, Row 33 s.cells), (b3, Row 33 u.cells)] := hs
 refine L_assign rfl rfl (RL_then (W_seq (W_region (L_fieldAddr rfl (off := 0) Try.underlying33 rfl rfl Try.ti22 rfl (L_load rfl Try.one22 rfl (by exact hs.cell (i := 0) rfl rfl) ?_)))))
 refine L_fieldAddr rfl (off := 0) Try.underlying33 rfl rfl Try.ti22 rfl (L_load rfl Try.one22 rfl (by exact hs.cell (i := 1) rfl rfl) ?_)
 refine L_call rfl Try.fun56 rfl (floatS_ok _ _ g1 w) ?_
 rintro _ w ⟨rfl, rfl⟩
 refine L_move rfl rfl (RL_want rfl rfl (L_fieldAddr rfl (off := 1) Try.underlying33 rfl rfl Try.ti22 rfl (RL_want rfl rfl (L_load rfl Try.one22 rfl (by exact hs.cell (i := 0) rfl rfl) ?_))))
 refine RL_want rfl rfl (L_fieldAddr rfl (off := 1) Try.underlying33 rfl rfl Try.ti22 rfl (RL_want rfl rfl (L_load rfl Try.one22 rfl (by exact hs.cell (i := 1) rfl rfl) ?_)))
 refine RL_want rfl rfl (L_call rfl Try.fun56 rfl (floatS_ok _ _ g2 w) ?_)
 rintro _ w ⟨rfl, rfl⟩
 refine L_pick_t rfl rfl rfl (L_move rfl rfl (RL_want rfl rfl (L_fieldAddr rfl (off := 2) Try.underlying33 rfl rfl Try.ti22 rfl (RL_want rfl rfl (L_load rfl Try.one22 rfl (by exact hs.cell (i := 0) rfl rfl) ?_)))))
 refine RL_want rfl rfl (L_fieldAddr rfl (off := 2) Try.underlying33 rfl rfl Try.ti22 rfl (RL_want rfl rfl (L_load rfl Try.one22 rfl (by exact hs.cell (i := 1) rfl rfl) ?_)))
 refine RL_want rfl rfl (L_call rfl Try.fun56 rfl (floatS_ok _ _ g3 w) ?_)
 rintro _ w ⟨rfl, rfl⟩
 refine L_pick_t rfl rfl rfl (L_move rfl rfl (RL_want rfl rfl (L_fieldAddr rfl (off := 3) Try.underlying33 rfl rfl Try.ti22 rfl (RL_want rfl rfl (L_load rfl Try.one22 rfl (by exact hs.cell (i := 0) rfl rfl) ?_)))))
 refine RL_want rfl rfl (L_fieldAddr rfl (off := 3) Try.underlying33 rfl rfl Try.ti22 rfl (RL_want rfl rfl (L_load rfl Try.one22 rfl (by exact hs.cell (i := 1) rfl rfl) ?_)))
 refine RL_want rfl rfl (L_call rfl Try.fun56 rfl (floatS_ok _ _ g4 w) ?_)
 rintro _ w ⟨rfl, rfl⟩
 refine L_pick_t rfl rfl rfl (L_move rfl rfl (RL_want rfl rfl (L_fieldAddr rfl (off := 4) Try.underlying33 rfl rfl Try.ti22 rfl (RL_want rfl rfl (L_load rfl Try.one22 rfl (by exact hs.cell (i := 0) rfl rfl) ?_)))))
 refine RL_want rfl rfl (L_fieldAddr rfl (off := 4) Try.underlying33 rfl rfl Try.ti22 rfl (RL_want rfl rfl (L_load rfl Try.one22 rfl (by exact hs.cell (i := 1) rfl rfl) ?_)))
 refine RL_want rfl rfl (L_call rfl Try.fun56 rfl (floatS_ok _ _ g5 w) ?_)
 rintro _ w ⟨rfl, rfl⟩
 refine L_pick_t rfl rfl rfl (L_assign rfl rfl (RL_then (W_ret' (Ex_done1 rfl rfl ?_))))
 exact ⟨_, rfl, rfl, hs.forget (Own.cons hb2 (Own.cons hb3 Own.nil))⟩
theorem same_ok (t u : Trk) (h : TEq t u) (w0 : World) : Ret Try.prog 53 [.agg t.cells.toArray, .agg u.cells.toArray] w0 fun v w' => v = .bool true ∧ HS w0 w' [] := by
 have hid := h.id
 have hki := h.kind
 have hse := h.seen
 have hst := h.steps
 refine Ret.start fun w hs => ?_
 refine calls_of_W Try.func53 rfl rfl rfl (W_seq (W_region (L_box rfl hs rfl ?_)))
 intro b2 w hb2 hnb2 hs
 dsimp only [List.set_cons_succ, List.set_cons_zero, List.cons_append, List.nil_append] at hs
 refine L_box rfl hs rfl ?_
 intro b3 w hb3 hnb3 hs
 dsimp only [List.set_cons_succ, List.set_cons_zero, List.cons_append, List.nil_append] at hs
 replace hs : HS w0 w [(b2, Row 36 t.cells), (b3, Row 36 u.cells)] := hs
 refine L_assign rfl rfl (RL_then (W_seq (W_region (L_fieldAddr rfl (off := 0) Try.underlying36 rfl rfl Try.ti3 rfl (L_load rfl Try.one3 rfl (by exact hs.cell (i := 0) rfl rfl) ?_)))))
 refine L_fieldAddr rfl (off := 0) Try.underlying36 rfl rfl Try.ti3 rfl (L_load rfl Try.one3 rfl (by exact hs.cell (i := 1) rfl rfl) ?_)
 refine L_eql rfl rfl rfl (dtrue (by omega)) ?_
 refine L_move rfl rfl (RL_want rfl rfl (L_fieldAddr rfl (off := 1) Try.underlying36 rfl rfl Try.ti31 rfl (RL_want rfl rfl (L_load rfl Try.one31 rfl (by exact hs.cell (i := 0) rfl rfl) ?_))))
 refine RL_want rfl rfl (L_fieldAddr rfl (off := 1) Try.underlying36 rfl rfl Try.ti31 rfl (RL_want rfl rfl (L_load rfl Try.one31 rfl (by exact hs.cell (i := 1) rfl rfl) ?_)))
 refine RL_want rfl rfl (L_eql rfl rfl rfl (dtrue (by omega)) ?_)
 refine L_pick_t rfl rfl rfl (L_move rfl rfl (RL_want rfl rfl (L_fieldAddr rfl (off := 12) Try.underlying36 rfl rfl Try.ti34 rfl (RL_want rfl rfl (L_load rfl Try.one34 rfl (by exact hs.cell (i := 0) rfl rfl) ?_)))))
 refine RL_want rfl rfl (L_fieldAddr rfl (off := 12) Try.underlying36 rfl rfl Try.ti34 rfl (RL_want rfl rfl (L_load rfl Try.one34 rfl (by exact hs.cell (i := 1) rfl rfl) ?_)))
 refine RL_want rfl rfl (L_eql rfl rfl rfl (dtrue (by omega)) ?_)
 refine L_pick_t rfl rfl rfl (L_move rfl rfl (RL_want rfl rfl (L_fieldAddr rfl (off := 13) Try.underlying36 rfl rfl Try.ti3 rfl (RL_want rfl rfl (L_load rfl Try.one3 rfl (by exact hs.cell (i := 0) rfl rfl) ?_)))))
 refine RL_want rfl rfl (L_fieldAddr rfl (off := 13) Try.underlying36 rfl rfl Try.ti3 rfl (RL_want rfl rfl (L_load rfl Try.one3 rfl (by exact hs.cell (i := 1) rfl rfl) ?_)))
 refine RL_want rfl rfl (L_eql rfl rfl rfl (dtrue (by omega)) ?_)
 refine L_pick_t rfl rfl rfl (L_move rfl rfl (RL_want rfl rfl (L_fieldAddr rfl (off := 14) Try.underlying36 rfl rfl Try.ti22 rfl (RL_want rfl rfl (L_load rfl Try.one22 rfl (by exact hs.cell (i := 0) rfl rfl) ?_)))))
 refine RL_want rfl rfl (L_fieldAddr rfl (off := 14) Try.underlying36 rfl rfl Try.ti22 rfl (RL_want rfl rfl (L_load rfl Try.one22 rfl (by exact hs.cell (i := 1) rfl rfl) ?_)))
 refine RL_want rfl rfl (L_call rfl Try.fun56 rfl (floatS_ok _ _ h.last w) ?_)
 rintro _ w1 ⟨rfl, rfl⟩
 refine L_pick_t rfl rfl rfl (L_move rfl rfl (RL_want rfl rfl (L_fieldAddr rfl (off := 2) Try.underlying36 rfl rfl Try.ti33 rfl (RL_want rfl rfl (L_loadA rfl Try.agg33 Try.ti33 rfl (by exact cellsAt_part (n := 5) (cs := t.x.cells) (hs.get (i := 0) rfl) rfl) ?_)))))
 refine RL_want rfl rfl (L_fieldAddr rfl (off := 2) Try.underlying36 rfl rfl Try.ti33 rfl (RL_want rfl rfl (L_loadA rfl Try.agg33 Try.ti33 rfl (by exact cellsAt_part (n := 5) (cs := u.x.cells) (hs.get (i := 1) rfl) rfl) ?_)))
 refine RL_want rfl rfl (L_call rfl Try.fun26 rfl (sameState_ok t.x u.x h.x w1) ?_)
 rintro _ w2 ⟨rfl, hs'⟩
 replace hs := hs.nil hs'
 clear hs'
 refine L_pick_t rfl rfl rfl (L_move rfl rfl (RL_want rfl rfl (L_fieldAddr rfl (off := 7) Try.underlying36 rfl rfl Try.ti33 rfl (RL_want rfl rfl (L_loadA rfl Try.agg33 Try.ti33 rfl (by exact cellsAt_part (n := 5) (cs := t.y.cells) (hs.get (i := 0) rfl) rfl) ?_)))))
 refine RL_want rfl rfl (L_fieldAddr rfl (off := 7) Try.underlying36 rfl rfl Try.ti33 rfl (RL_want rfl rfl (L_loadA rfl Try.agg33 Try.ti33 rfl (by exact cellsAt_part (n := 5) (cs := u.y.cells) (hs.get (i := 1) rfl) rfl) ?_)))
 refine RL_want rfl rfl (L_call rfl Try.fun26 rfl (sameState_ok t.y u.y h.y w2) ?_)
 rintro _ w3 ⟨rfl, hs'⟩
 replace hs := hs.nil hs'
 clear hs'
 refine L_pick_t rfl rfl rfl (L_assign rfl rfl (RL_then (W_ret' (Ex_done1 rfl rfl ?_))))
 exact ⟨_, rfl, rfl, hs.forget (Own.cons hb2 (Own.cons hb3 Own.nil))⟩
theorem trk_at {w : World} {a : Option Addr} {ts : List Trk} (h : SlC w a (tcs ts)) {i : Nat} (hi : i < ts.length) : CellsAt w ((aD a).add (i * 15)) (ts.getD i trk0).cells := h.sub fun _ _ hv => tcs_get hi hv
theorem sameAll_ok (a b : Option Addr) (n c d : Nat) (ts us : List Trk) (h : All2 TEq ts us) (w0 : World) (ha : SlC w0 a (tcs ts)) (hb : SlC w0 b (tcs us)) (hn : ts.length = n) (hn2 : n ≤ 1000000) :
  Ret Try.prog 21 [.slice a n c, .slice b n d] w0 fun v w' => v = .bool true ∧ HS w0 w' [] := by
 have hul : us.length = n := by rw [h.len, hn]
 refine Ret.start fun w hs => ?_
 refine calls_of_W Try.func21 rfl rfl rfl (W_seq (W_region (L_assign rfl rfl (RL_then (W_seq (W_seq (W_region (L_move rfl rfl (L_len rfl Try.underlying44 rfl (L_move rfl rfl (L_len rfl Try.underlying44 rfl (L_neq rfl rfl rfl (dfalse (by omega)) ?_))))))))))))
 refine RL_then (W_if_false rfl (W_skip' (Nx_then (W_seq (W_seq (W_region (L_assign rfl rfl (RL_then (W_block ?_)))))))))
 refine W_loop2 (fun (i : Nat) (w : World) => [(0, .slice a n c), (1, .slice b n d), (5, .int .i64 i)]) (fun (i : Nat) (w : World) => w) (fun (i : Nat) (w : World) => (i ≤ n) ∧ (HS w0 w [])) (fun (i : Nat) (w : World) => n - i) (0) (_) (is := [0, 1, 5]) rfl rfl ?_ ?_
 ·
  exact ⟨Nat.zero_le _, hs⟩
 ·
  clear hs
  intro i w hI
  show W _ _ _ _ [(0, .slice a n c), (1, .slice b n d), (5, .int .i64 i)] w
  obtain ⟨hi, hs⟩ := hI
  by_cases hlt : i < n
  ·
   have ha' := ha.old hs Own.nil
   have hb' := hb.old hs Own.nil
   refine W_seq (W_seq (W_region (L_move rfl rfl (L_move rfl rfl (L_len rfl Try.underlying44 rfl (L_lss rfl rfl rfl (dtrue (by omega)) ?_))))))
   refine RL_then (W_if_true rfl (W_skip' (Nx_then (W_seq (W_block (W_seq (W_pht [0, 1, 2, 4, 5, 6] [3, 7] [8, 9] (fun _ _ _ => False) Try.mixed (by kernel_rfl) (fun _ _ _ _ _ h => h) hs ?_)))))))
   refine PL_val rfl (fun w => R_move rfl) ?_
   refine PL_val rfl (fun w => R_move rfl) ?_
   refine PL_val rfl (fun w => R_idxN Try.underlying44 Try.ti36 rfl rfl (natc_k _) (by omega) (ha'.ao (by rw [tcs_len]; omega))) ?_
   refine PL_val rfl (fun w => R_move rfl) ?_
   refine PL_val rfl (fun w => R_move rfl) ?_
   refine PL_val rfl (fun w => R_idxN Try.underlying44 Try.ti36 rfl rfl (natc_k _) (by omega) (hb'.ao (by rw [tcs_len]; omega))) ?_
   refine PL_end (HL_val rfl (fun w hs => R_loadA Try.agg36 Try.ti36 rfl (by exact trk_at (i := i) (ha.old hs Own.nil) (by omega))) ?_)
   refine HL_val rfl (fun w hs => R_loadA Try.agg36 Try.ti36 rfl (by exact trk_at (i := i) (hb.old hs Own.nil) (by omega))) ?_
   refine HL_tail ?_
   intro w hs
   refine L_call rfl Try.fun53 rfl (same_ok _ _ (h.at (by omega)) w) ?_
   rintro _ w1 ⟨rfl, hs'⟩
   replace hs := hs.nil hs'
   clear hs'
   refine L_not rfl rfl (RL_then (W_if_false rfl (W_skip' (Nx_block (Nx_then (W_region (L_move rfl rfl (L_add rfl rfl rfl (wrp_i64 (by omega)) ?_))))))))
   refine L_assign rfl rfl (RL_nil' ?_)
   refine Nx_loopP (i + 1, _) (is := [0, 1, 5]) (I' := (fun (i : Nat) (w : World) => (i ≤ n) ∧ (HS w0 w [])) (i + 1) (_)) rfl rfl rfl ?_ ?_
   ·
    exact ⟨by omega, hs⟩
   ·
    show n - (i + 1) < n - i; omega
  ·
   obtain rfl : n = i := by omega
   refine W_seq (W_seq (W_region (L_move rfl rfl (L_move rfl rfl (L_len rfl Try.underlying44 rfl (L_lss rfl rfl rfl (dfalse (by omega)) ?_))))))
   refine RL_then (W_if_false rfl (W_exit' (Ex_then_exit (Ex_loop_exit (Ex_block_hit (Nx_then (W_seq (W_region (L_assign rfl rfl (RL_then (W_ret' (Ex_done1 rfl rfl ?_))))))))))))
   exact ⟨_, rfl, rfl, hs⟩
end Go.Proofs.Ytffobakdngbadaa
