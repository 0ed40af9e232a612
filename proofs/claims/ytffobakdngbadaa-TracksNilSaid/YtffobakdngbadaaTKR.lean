/-
 A part of the proof: what functions that the statement reaches do, or a plain law on what they do. Each theorem holds under its own premises alone.
-/
import Derived.Test.YtffobakdngbadaaTKQ
namespace Go.Proofs.Ytffobakdngbadaa
open Go Go.Lk
/-! ### The same tracks -/
structure TEq (t u : Trk) : Prop where
 id : t.id = u.id
 kind : t.kind = u.kind
 seen : t.seen = u.seen
 steps : t.steps = u.steps
 last : cn t.last = cn u.last
 x : t.x.c = u.x.c
 y : t.y.c = u.y.c
theorem TEq.refl (t : Trk) : TEq t t := ⟨rfl, rfl, rfl, rfl, rfl, rfl, rfl⟩
theorem sameTrack_ok (t u : Trk) (h : TEq t u) (w0 : World) : Ret Try.prog 10 [.agg t.cells.toArray, .agg u.cells.toArray] w0 fun v w' => v = .bool true ∧ HS w0 w' [] := by
 have hid := h.id
 have hki := h.kind
 have hse := h.seen
 have hst := h.steps
 refine Ret.start fun w hs => ?_
 refine calls_of_W Try.func10 rfl rfl rfl (W_seq (W_region (L_box rfl hs rfl ?_)))
 intro b2 w hb2 hnb2 hs
 dsimp only [List.set_cons_succ, List.set_cons_zero, List.cons_append, List.nil_append] at hs
 refine L_box rfl hs rfl ?_
 intro b3 w hb3 hnb3 hs
 dsimp only [List.set_cons_succ, List.set_cons_zero, List.cons_append, List.nil_append] at hs
 replace hs : HS w0 w [(b2, Row 36 t.cells), (b3, Row 36 u.cells)] := hs
 refine L_assign rfl rfl (RL_then (W_seq (W_region (L_fieldAddr rfl (off := 2) Try.underlying36 rfl rfl Try.ti33 rfl (L_loadA rfl Try.agg33 Try.ti33 rfl (by exact cellsAt_part (n := 5) (cs := t.x.cells) (hs.get (i := 0) rfl) rfl) ?_)))))
 refine L_fieldAddr rfl (off := 2) Try.underlying36 rfl rfl Try.ti33 rfl (L_loadA rfl Try.agg33 Try.ti33 rfl (by exact cellsAt_part (n := 5) (cs := u.x.cells) (hs.get (i := 1) rfl) rfl) ?_)
 refine L_call rfl Try.fun37 rfl (same37_ok t.x u.x h.x w) ?_
 rintro _ w1 ⟨rfl, hs'⟩
 replace hs := hs.nil hs'
 clear hs'
 refine L_assign rfl rfl (RL_then (W_seq (W_region (L_fieldAddr rfl (off := 7) Try.underlying36 rfl rfl Try.ti33 rfl (L_loadA rfl Try.agg33 Try.ti33 rfl (by exact cellsAt_part (n := 5) (cs := t.y.cells) (hs.get (i := 0) rfl) rfl) ?_)))))
 refine L_fieldAddr rfl (off := 7) Try.underlying36 rfl rfl Try.ti33 rfl (L_loadA rfl Try.agg33 Try.ti33 rfl (by exact cellsAt_part (n := 5) (cs := u.y.cells) (hs.get (i := 1) rfl) rfl) ?_)
 refine L_call rfl Try.fun37 rfl (same37_ok t.y u.y h.y w1) ?_
 rintro _ w2 ⟨rfl, hs'⟩
 replace hs := hs.nil hs'
 clear hs'
 refine L_assign rfl rfl (RL_then (W_seq (W_region (L_fieldAddr rfl (off := 14) Try.underlying36 rfl rfl Try.ti22 rfl (L_load rfl Try.one22 rfl (by exact hs.cell (i := 0) rfl rfl) ?_)))))
 refine L_fieldAddr rfl (off := 14) Try.underlying36 rfl rfl Try.ti22 rfl (L_load rfl Try.one22 rfl (by exact hs.cell (i := 1) rfl rfl) ?_)
 refine L_call rfl Try.fun38 rfl (sameF_ok _ _ h.last w2) ?_
 rintro _ w3 ⟨rfl, rfl⟩
 refine L_assign rfl rfl (RL_then (W_seq (W_region (L_fieldAddr rfl (off := 0) Try.underlying36 rfl rfl Try.ti3 rfl (L_load rfl Try.one3 rfl (by exact hs.cell (i := 0) rfl rfl) ?_)))))
 refine L_fieldAddr rfl (off := 0) Try.underlying36 rfl rfl Try.ti3 rfl (L_load rfl Try.one3 rfl (by exact hs.cell (i := 1) rfl rfl) ?_)
 refine L_eql rfl rfl rfl (dtrue (by omega)) ?_
 refine L_move rfl rfl (RL_want rfl rfl (L_fieldAddr rfl (off := 1) Try.underlying36 rfl rfl Try.ti31 rfl (RL_want rfl rfl (L_load rfl Try.one31 rfl (by exact hs.cell (i := 0) rfl rfl) ?_))))
 refine RL_want rfl rfl (L_fieldAddr rfl (off := 1) Try.underlying36 rfl rfl Try.ti31 rfl (RL_want rfl rfl (L_load rfl Try.one31 rfl (by exact hs.cell (i := 1) rfl rfl) ?_)))
 refine RL_want rfl rfl (L_eql rfl rfl rfl (dtrue (by omega)) ?_)
 refine L_pick_t rfl rfl rfl (L_move rfl rfl (RL_want rfl rfl (L_move rfl rfl (L_pick_t rfl rfl rfl (L_move rfl rfl (RL_want rfl rfl (L_move rfl rfl (L_pick_t rfl rfl rfl (L_move rfl rfl (RL_want rfl rfl (L_fieldAddr rfl (off := 12) Try.underlying36 rfl rfl Try.ti34 rfl (RL_want rfl rfl ?_))))))))))))
 refine L_load rfl Try.one34 rfl (by exact hs.cell (i := 0) rfl rfl) ?_
 refine RL_want rfl rfl (L_fieldAddr rfl (off := 12) Try.underlying36 rfl rfl Try.ti34 rfl (RL_want rfl rfl (L_load rfl Try.one34 rfl (by exact hs.cell (i := 1) rfl rfl) ?_)))
 refine RL_want rfl rfl (L_eql rfl rfl rfl (dtrue (by omega)) ?_)
 refine L_pick_t rfl rfl rfl (L_move rfl rfl (RL_want rfl rfl (L_fieldAddr rfl (off := 13) Try.underlying36 rfl rfl Try.ti3 rfl (RL_want rfl rfl (L_load rfl Try.one3 rfl (by exact hs.cell (i := 0) rfl rfl) ?_)))))
 refine RL_want rfl rfl (L_fieldAddr rfl (off := 13) Try.underlying36 rfl rfl Try.ti3 rfl (RL_want rfl rfl (L_load rfl Try.one3 rfl (by exact hs.cell (i := 1) rfl rfl) ?_)))
 refine RL_want rfl rfl (L_eql rfl rfl rfl (dtrue (by omega)) ?_)
 refine L_pick_t rfl rfl rfl (L_move rfl rfl (RL_want rfl rfl (L_move rfl rfl (L_pick_t rfl rfl rfl (L_assign rfl rfl (RL_then (W_ret' (Ex_done1 rfl rfl ?_))))))))
 exact ⟨_, rfl, rfl, hs.forget (Own.cons hb2 (Own.cons hb3 Own.nil))⟩
end Go.Proofs.Ytffobakdngbadaa
