/-
 A part of the proof: what functions that the statement reaches do, or a plain law on what they do. Each theorem holds under its own premises alone.
-/
import Derived.Test.YtffobakdngbadaaTKU
namespace Go.Proofs.Ytffobakdngbadaa
open Go Go.Lk
/-! ### TracksNil -/
theorem tracksNil_law (q : Int) (time : Nat) (a : Option Addr) (n c : Nat) (id : Int) (w0 : World) : Ret Try.prog 3 [.agg #[.int .i64 q, .float .f64 time, .slice a n c, .int .i64 id]] w0 fun v w' => v = .bool true ∧ HS w0 w' [] := by
 refine Ret.start fun w hs => ?_
 refine calls_of_W Try.func3 rfl rfl rfl (W_seq (W_region (L_box rfl hs rfl ?_)))
 intro b1 w hb1 hnb1 hs
 dsimp only [List.set_cons_succ, List.set_cons_zero, List.cons_append, List.nil_append] at hs
 replace hs : HS w0 w [(b1, Row 25 [.int .i64 q, .float .f64 time, .slice a n c, .int .i64 id])] := hs
 refine L_assign rfl rfl (RL_then (W_seq (W_region (L_assign rfl rfl (RL_then (W_seq (W_region (L_move rfl rfl (L_fieldAddr rfl (off := 1) Try.underlying25 rfl rfl Try.ti22 rfl (L_load rfl Try.one22 rfl (by exact hs.cell (i := 0) rfl rfl) ?_))))))))))
 refine L_fieldAddr rfl (off := 2) Try.underlying25 rfl rfl Try.ti23 rfl (L_load rfl Try.one23 rfl (by exact hs.cell (i := 0) rfl rfl) ?_)
 refine L_call rfl Try.fun7 rfl (step_nil time _ w) ?_
 rintro _ w1 ⟨rfl, hs'⟩
 replace hs := hs.nil hs'
 clear hs'
 refine L_move rfl rfl (L_extract rfl rfl rfl (L_extract rfl rfl rfl (L_assign rfl rfl (L_assign rfl rfl (RL_then (W_seq (W_region (L_move rfl rfl (L_fieldAddr rfl (off := 3) Try.underlying25 rfl rfl Try.ti3 rfl (L_load rfl Try.one3 rfl (by exact hs.cell (i := 0) rfl rfl) ?_))))))))))
 refine L_call rfl Try.fun8 rfl (get_nil id w1) ?_
 rintro _ w2 ⟨rfl, hs'⟩
 replace hs := hs.nil hs'
 clear hs'
 refine L_move rfl rfl (L_extract rfl rfl rfl (L_extract rfl rfl rfl ?_))
 refine L_alloc rfl hs Try.ti36 ?_; intro b6 w2 hb6 _ hs
 refine L_storeA hs (i := 1) rfl Try.ti36 rfl rfl (by rfl) (by simp [Trk.cells]) (by exact Trk.one trk0) ?_
 intro w hs
 dsimp only [List.set_cons_succ, List.set_cons_zero, List.cons_append, List.nil_append] at hs
 refine L_assign rfl rfl (RL_then (W_seq (W_region (L_move rfl rfl (L_fieldAddr rfl (off := 3) Try.underlying25 rfl rfl Try.ti3 rfl (L_load rfl Try.one3 rfl (by exact hs.cell (i := 0) rfl rfl) ?_))))))
 refine L_call rfl Try.fun9 rfl (past_nil id w) ?_
 rintro _ w1 ⟨rfl, hs'⟩
 replace hs := hs.nil hs'
 clear hs'
 replace hs : HS w0 w1 [(b1, Row 25 [.int .i64 q, .float .f64 time, .slice a n c, .int .i64 id]), (b6, Row 36 trk0.cells)] := hs
 refine L_move rfl rfl (L_extract rfl rfl rfl (L_extract rfl rfl rfl (L_assign rfl rfl (L_assign rfl rfl (RL_then (W_seq (W_region (L_move rfl rfl (L_len rfl Try.underlying27 rfl (L_eql rfl rfl rfl (dtrue (by omega)) ?_))))))))))
 refine L_move rfl rfl (RL_want rfl rfl (L_move rfl rfl (RL_want rfl rfl (L_eql rfl rfl rfl (dtrue (by omega)) ?_))))
 refine L_pick_t rfl rfl rfl (L_move rfl rfl (RL_want rfl rfl (L_move rfl rfl (RL_want rfl rfl (L_not rfl rfl (L_pick_t rfl rfl rfl (L_move rfl rfl (RL_want rfl rfl (L_loadA rfl Try.agg36 Try.ti36 rfl (by exact cellsAt_whole (cs := trk0.cells) (hs.get (i := 1) rfl)) ?_)))))))))
 refine RL_want rfl rfl (L_build rfl rfl (Pl.built Try.pl36 rfl) (RL_want rfl rfl (L_call rfl Try.fun10 rfl (sameTrack_ok trk0 trk0 (TEq.refl _) w1) ?_)))
 rintro _ w2 ⟨rfl, hs'⟩
 replace hs := hs.nil hs'
 clear hs'
 refine L_pick_t rfl rfl rfl (L_move rfl rfl (RL_want rfl rfl (L_move rfl rfl (RL_want rfl rfl (L_len rfl Try.underlying39 rfl (RL_want rfl rfl (L_eql rfl rfl rfl (dtrue (by omega)) ?_)))))))
 refine L_pick_t rfl rfl rfl (L_move rfl rfl (RL_want rfl rfl (L_move rfl rfl (RL_want rfl rfl (L_len rfl Try.underlying39 rfl (RL_want rfl rfl (L_eql rfl rfl rfl (dtrue (by omega)) ?_)))))))
 refine L_pick_t rfl rfl rfl (L_move rfl rfl (RL_want rfl rfl (L_move rfl rfl (RL_want rfl rfl (L_fieldAddr rfl (off := 3) Try.underlying25 rfl rfl Try.ti3 rfl (RL_want rfl rfl (L_load rfl Try.one3 rfl (by exact hs.cell (i := 0) rfl rfl) ?_)))))))
 refine RL_want rfl rfl (L_call rfl Try.fun11 rfl (drop_nil id w2) ?_)
 rintro _ w3 ⟨rfl, hs'⟩
 replace hs := hs.nil hs'
 clear hs'
 refine RL_want rfl rfl (L_eql rfl rfl rfl (dtrue (by omega)) ?_)
 refine L_pick_t rfl rfl rfl (L_move rfl rfl (RL_want rfl rfl (L_move rfl rfl (RL_want rfl rfl (L_call rfl Try.fun12 rfl (tracks_nil w3) ?_)))))
 rintro _ w4 ⟨rfl, hs'⟩
 replace hs := hs.nil hs'
 clear hs'
 refine RL_want rfl rfl (L_len rfl Try.underlying44 rfl (RL_want rfl rfl (L_eql rfl rfl rfl (dtrue (by omega)) ?_)))
 refine L_pick_t rfl rfl rfl (L_move rfl rfl (RL_want rfl rfl (L_call rfl Try.fun13 rfl (wakes_ok w4) ?_)))
 rintro _ w5 ⟨rfl, hs'⟩
 replace hs := hs.nil hs'
 clear hs'
 refine L_pick_t rfl rfl rfl (L_assign rfl rfl (RL_then (W_ret' (Ex_done1 rfl rfl ?_))))
 exact ⟨_, rfl, rfl, hs.forget (Own.cons hb1 (Own.cons hb6 Own.nil))⟩
end Go.Proofs.Ytffobakdngbadaa
