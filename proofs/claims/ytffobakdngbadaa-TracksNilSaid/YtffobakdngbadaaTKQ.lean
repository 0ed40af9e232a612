/-
 A part of the proof: what functions that the statement reaches do, or a plain law on what they do. Each theorem holds under its own premises alone.
-/
import Derived.Test.YtffobakdngbadaaTKP
import Derived.Test.YtffobakdngbadaaKitY
import Derived.Test.YtffobakdngbadaaKitQ
namespace Go.Proofs.Ytffobakdngbadaa
open Go Go.Lk
/-! ### The same floats, states, tracks -/
theorem sameF_ok (x y : Nat) (h : cn x = cn y) (w0 : World) : Ret Try.prog 38 [.float .f64 x, .float .f64 y] w0 fun v w' => v = .bool true ∧ w' = w0 := by
 have hn : isnan x = isnan y := by rw [← isnan_cn x, h, isnan_cn]
 refine calls_of_W Try.func38 rfl rfl rfl ?_
 cases hx : isnan x
 ·
  have h1 : (FloatKind.f64.format.order x x != some .eq) = false := by rw [order_self hx]; rfl
  have h2 : (FloatKind.f64.format.order y y != some .eq) = false := by rw [order_self (hn ▸ hx)]; rfl
  have e : x = y := by rw [cn_num hx, cn_num (hn ▸ hx)] at h; exact h
  subst e
  refine W_seq (W_region (L_assign rfl rfl (RL_then (W_seq (W_seq (W_region (L_move rfl rfl (L_move rfl rfl ?_))))))))
  refine L_fcmp rfl rfl rfl (fun _ => by rw [binOp_float_cmp_neq, h1]; rfl) ?_
  refine L_move rfl rfl (RL_want rfl rfl (L_move rfl rfl (RL_want rfl rfl (L_move rfl rfl (RL_want rfl rfl ?_)))))
  refine L_fcmp rfl rfl rfl (fun _ => by rw [binOp_float_cmp_neq, h2]; rfl) ?_
  refine L_pick_f rfl rfl rfl (RL_then (W_if_false rfl (W_skip' (Nx_then (W_seq (W_region (L_move rfl rfl (RL_val rfl (R_f64bits Try.ext55 rfl) (L_move rfl rfl (RL_val rfl (R_f64bits Try.ext55 rfl) (L_eql rfl rfl rfl (dtrue (by omega)) ?_)))))))))))
  refine L_assign rfl rfl (RL_then (W_ret' (Ex_done1 rfl rfl ?_)))
  exact ⟨_, rfl, by simp, rfl⟩
 ·
  have h1 : (FloatKind.f64.format.order x x != some .eq) = true := by rw [order_nanL hx]; rfl
  have h2 : (FloatKind.f64.format.order y y != some .eq) = true := by rw [order_nanL (hn ▸ hx)]; rfl
  refine W_seq (W_region (L_assign rfl rfl (RL_then (W_seq (W_seq (W_region (L_move rfl rfl (L_move rfl rfl ?_))))))))
  refine L_fcmp rfl rfl rfl (fun _ => by rw [binOp_float_cmp_neq, h1]; rfl) ?_
  refine L_move rfl rfl (RL_skip rfl rfl rfl rfl (RL_skip rfl rfl rfl rfl (RL_skip rfl rfl rfl rfl (L_pick_t rfl rfl rfl (RL_then (W_if_true rfl (W_seq (W_region (L_move rfl rfl (L_move rfl rfl ?_))))))))))
  refine L_fcmp rfl rfl rfl (fun _ => by rw [binOp_float_cmp_neq, h1]; rfl) ?_
  refine L_move rfl rfl (RL_want rfl rfl (L_move rfl rfl (RL_want rfl rfl (L_move rfl rfl (RL_want rfl rfl ?_)))))
  refine L_fcmp rfl rfl rfl (fun _ => by rw [binOp_float_cmp_neq, h2]; rfl) ?_
  refine L_pick_t rfl rfl rfl (L_assign rfl rfl (RL_then (W_ret' (Ex_then_ret (Ex_done1 rfl rfl ?_)))))
  exact ⟨_, rfl, rfl, rfl⟩
theorem Stt.parts {s u : Stt} (h : s.c = u.c) : cn s.x = cn u.x ∧ cn s.v = cn u.v ∧ cn s.p = cn u.p ∧ cn s.q = cn u.q ∧ cn s.r = cn u.r :=
 ⟨congrArg Stt.x h, congrArg Stt.v h, congrArg Stt.p h, congrArg Stt.q h, congrArg Stt.r h⟩
/-- the document's: two states -/
theorem same37_ok (s u : Stt) (h : s.c = u.c) (w0 : World) : Ret Try.prog 37 [.agg s.cells.toArray, .agg u.cells.toArray] w0 fun v w' => v = .bool true ∧ HS w0 w' [] := by
 obtain ⟨g1, g2, g3, g4, g5⟩ := Stt.parts h
 refine Ret.start fun w hs => ?_
 refine calls_of_W Try.func37 rfl rfl rfl (W_seq (W_region (L_box rfl hs rfl ?_)))
 intro b2 w hb2 hnb2 hs
 dsimp only [List.set_cons_succ, List.set_cons_zero, List.cons_append, List.nil_append] at hs
 refine L_box rfl hs rfl ?_
 intro b3 w hb3 hnb3 hs
 dsimp only [List.set_cons_succ, List.set_cons_zero, List.cons_append, List.nil_append] at hs
 replace hs : HS w0 w [(b2, Row 33 s.cells), (b3, Row 33 u.cells)] := hs
 refine L_assign rfl rfl (RL_then (W_seq (W_region (L_fieldAddr rfl (off := 0) Try.underlying33 rfl rfl Try.ti22 rfl (L_load rfl Try.one22 rfl (by exact hs.cell (i := 0) rfl rfl) ?_)))))
 refine L_fieldAddr rfl (off := 0) Try.underlying33 rfl rfl Try.ti22 rfl (L_load rfl Try.one22 rfl (by exact hs.cell (i := 1) rfl rfl) ?_)
 refine L_call rfl Try.fun38 rfl (sameF_ok _ _ g1 w) ?_
 rintro _ w ⟨rfl, rfl⟩
 refine L_move rfl rfl (RL_want rfl rfl (L_fieldAddr rfl (off := 1) Try.underlying33 rfl rfl Try.ti22 rfl (RL_want rfl rfl (L_load rfl Try.one22 rfl (by exact hs.cell (i := 0) rfl rfl) ?_))))
 refine RL_want rfl rfl (L_fieldAddr rfl (off := 1) Try.underlying33 rfl rfl Try.ti22 rfl (RL_want rfl rfl (L_load rfl Try.one22 rfl (by exact hs.cell (i := 1) rfl rfl) ?_)))
 refine RL_want rfl rfl (L_call rfl Try.fun38 rfl (sameF_ok _ _ g2 w) ?_)
 rintro _ w ⟨rfl, rfl⟩
 refine L_pick_t rfl rfl rfl (L_assign rfl rfl (RL_then (W_seq (W_region (L_fieldAddr rfl (off := 2) Try.underlying33 rfl rfl Try.ti22 rfl (L_load rfl Try.one22 rfl (by exact hs.cell (i := 0) rfl rfl) ?_))))))
 refine L_fieldAddr rfl (off := 2) Try.underlying33 rfl rfl Try.ti22 rfl (L_load rfl Try.one22 rfl (by exact hs.cell (i := 1) rfl rfl) ?_)
 refine L_call rfl Try.fun38 rfl (sameF_ok _ _ g3 w) ?_
 rintro _ w ⟨rfl, rfl⟩
 refine L_move rfl rfl (RL_want rfl rfl (L_fieldAddr rfl (off := 3) Try.underlying33 rfl rfl Try.ti22 rfl (RL_want rfl rfl (L_load rfl Try.one22 rfl (by exact hs.cell (i := 0) rfl rfl) ?_))))
 refine RL_want rfl rfl (L_fieldAddr rfl (off := 3) Try.underlying33 rfl rfl Try.ti22 rfl (RL_want rfl rfl (L_load rfl Try.one22 rfl (by exact hs.cell (i := 1) rfl rfl) ?_)))
 refine RL_want rfl rfl (L_call rfl Try.fun38 rfl (sameF_ok _ _ g4 w) ?_)
 rintro _ w ⟨rfl, rfl⟩
 refine L_pick_t rfl rfl rfl (L_move rfl rfl (RL_want rfl rfl (L_fieldAddr rfl (off := 4) Try.underlying33 rfl rfl Try.ti22 rfl (RL_want rfl rfl (L_load rfl Try.one22 rfl (by exact hs.cell (i := 0) rfl rfl) ?_)))))
 refine RL_want rfl rfl (L_fieldAddr rfl (off := 4) Try.underlying33 rfl rfl Try.ti22 rfl (RL_want rfl rfl (L_load rfl Try.one22 rfl (by exact hs.cell (i := 1) rfl rfl) ?_)))
 refine RL_want rfl rfl (L_call rfl Try.fun38 rfl (sameF_ok _ _ g5 w) ?_)
 rintro _ w ⟨rfl, rfl⟩
 refine L_pick_t rfl rfl rfl (L_assign rfl rfl (RL_then (W_seq (W_region (L_move rfl rfl (L_move rfl rfl (RL_want rfl rfl (L_move rfl rfl (L_pick_t rfl rfl rfl (L_assign rfl rfl (RL_then (W_ret' ?_))))))))))))
 refine Ex_done1 rfl rfl ?_
 exact ⟨_, rfl, rfl, hs.forget (Own.cons hb2 (Own.cons hb3 Own.nil))⟩
end Go.Proofs.Ytffobakdngbadaa
