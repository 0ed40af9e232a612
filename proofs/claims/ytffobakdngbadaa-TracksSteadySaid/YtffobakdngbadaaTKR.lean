/-
 A part of the proof: what functions that the statement reaches do, or a plain law on what they do. Each theorem holds under its own premises alone.
-/
import Derived.Test.YtffobakdngbadaaTKQ
namespace Go.Proofs.Ytffobakdngbadaa
open Go Go.Lk
/-! ### The same tracks -/
structure TEq (t u : Trk) : Prop where
 id : t.id = u.id
 kind : t.kind = u.kind
 seen : t.seen = u.seen
 steps : t.steps = u.steps
 last : cn t.last = cn u.last
 x : t.x.c = u.x.c
 y : t.y.c = u.y.c
theorem TEq.refl (t : Trk) : TEq t t := ⟨rfl, rfl, rfl, rfl, rfl, rfl, rfl⟩
theorem sameState_ok (s u : Stt) (h : s.c = u.c) (w0 : World) : Ret Try.prog 26 [.agg s.cells.toArray, .agg u.cells.toArray] w0 fun v w' => v = .bool true ∧ HS w0 w' [] := by
 obtain ⟨g1, g2, g3, g4, g5⟩ := Stt.parts h
 refine Ret.start fun w hs => ?_
 refine calls_of_W Try.func26 rfl rfl rfl (W_seq (W_region (L_box rfl hs rfl ?_)))
 intro b2 w hb2 hnb2 hs
 dsimp only [List.set_cons_succ, List.set_cons_zero, List.cons_append, List.nil_append] at hs
 refine L_box rfl hs rfl ?_
 intro b3 w hb3 hnb3 hs
 dsimp only [List.set_cons_succ, List.set_cons_zero, List.cons_append, List.nil_append] at hs
 replace hs : HS w0 w [(b2, Row 33 s.cells), (b3, Row 33 u.cells)] := hs
 refine L_assign rfl rfl (RL_then (W_seq (W_region (L_fieldAddr rfl (off := 0) Try.underlying33 rfl rfl Try.ti22 rfl (L_load rfl Try.one22 rfl (by exact hs.cell (i := 0) rfl rfl) ?_)))))
 refine L_fieldAddr rfl (off := 0) Try.underlying33 rfl rfl Try.ti22 rfl (L_load rfl Try.one22 rfl (by exact hs.cell (i := 1) rfl rfl) ?_)
 refine L_call rfl Try.fun56 rfl (floatS_ok _ _ g1 w) ?_
 rintro _ w ⟨rfl, rfl⟩
 refine L_move rfl rfl (RL_want rfl rfl (L_fieldAddr rfl (off := 1) Try.underlying33 rfl rfl Try.ti22 rfl (RL_want rfl rfl (L_load rfl Try.one22 rfl (by exact hs.cell (i := 0) rfl rfl) ?_))))
 refine RL_want rfl rfl (L_fieldAddr rfl (off := 1) Try.underlying33 rfl rfl Try.ti22 rfl (RL_want rfl rfl (L_load rfl Try.one22 rfl (by exact hs.cell (i := 1) rfl rfl) ?_)))
 refine RL_want rfl rfl (L_call rfl Try.fun56 rfl (floatS_ok _ _ g2 w) ?_)
 rintro _ w ⟨rfl, rfl⟩
 refine L_pick_t rfl rfl rfl (L_move rfl rfl (RL_want rfl rfl (L_fieldAddr rfl (off := 2) Try.underlying33 rfl rfl Try.ti22 rfl (RL_want rfl rfl (L_load rfl Try.one22 rfl (by exact hs.cell (i := 0) rfl rfl) ?_)))))
 refine RL_want rfl rfl (L_fieldAddr rfl (off := 2) Try.underlying33 rfl rfl Try.ti22 rfl (RL_want rfl rfl (L_load rfl Try.one22 rfl (by exact hs.cell (i := 1) rfl rfl) ?_)))
 refine RL_want rfl rfl (L_call rfl Try.fun56 rfl (floatS_ok _ _ g3 w) ?_)
 rintro _ w ⟨rfl, rfl⟩
 refine L_pick_t rfl rfl rfl (L_move rfl rfl (RL_want rfl rfl (L_fieldAddr rfl (off := 3) Try.underlying33 rfl rfl Try.ti22 rfl (RL_want rfl rfl (L_load rfl Try.one22 rfl (by exact hs.cell (i := 0) rfl rfl) ?_)))))
 refine RL_want rfl rfl (L_fieldAddr rfl (off := 3) Try.underlying33 rfl rfl Try.ti22 rfl (RL_want rfl rfl (L_load rfl Try.one22 rfl (by exact hs.cell (i := 1) rfl rfl) ?_)))
 refine RL_want rfl rfl (L_call rfl Try.fun56 rfl (floatS_ok _ _ g4 w) ?_)
 rintro _ w ⟨rfl, rfl⟩
 refine L_pick_t rfl rfl rfl (L_move rfl rfl (RL_want rfl rfl (L_fieldAddr rfl (off := 4) Try.underlying33 rfl rfl Try.ti22 rfl (RL_want rfl rfl (L_load rfl Try.one22 rfl (by exact hs.cell (i := 0) rfl rfl) ?_)))))
 refine RL_want rfl rfl (L_fieldAddr rfl (off := 4) Try.underlying33 rfl rfl Try.ti22 rfl (RL_want rfl rfl (L_load rfl Try.one22 rfl (by exact hs.cell (i := 1) rfl rfl) ?_)))
 refine RL_want rfl rfl (L_call rfl Try.fun56 rfl (floatS_ok _ _ g5 w) ?_)
 rintro _ w ⟨rfl, rfl⟩
 refine L_pick_t rfl rfl rfl (L_assign rfl rfl (RL_then (W_ret' (Ex_done1 rfl rfl ?_))))
 exact ⟨_, rfl, rfl, hs.forget (Own.cons hb2 (Own.cons hb3 Own.nil))⟩
end Go.Proofs.Ytffobakdngbadaa
