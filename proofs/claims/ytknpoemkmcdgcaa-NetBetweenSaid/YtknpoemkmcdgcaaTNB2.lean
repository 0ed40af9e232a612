/-
  A part of the proof: what functions that the statement reaches do, or a plain law on what they do. Each theorem holds under its own premises alone.
-/
import Derived.Test.YtknpoemkmcdgcaaTNA
namespace Go.Proofs.Ytknpoemkmcdgcaa
open Go Go.Lk
theorem new_ok (far : Nat) (w0 : World) (hlt : far < 18446744073709551616) (hf : finB far = true) (h1 : (FloatKind.f64.format.order far 4156822456062967808 == some .lt) = false) (h2 : (FloatKind.f64.format.order far 5057542381537067008 == some .gt) = false) :
    Ret Try.prog 12 [.float .f64 far] w0 fun v w' => ∃ B, v = .tuple #[.pointer (some ⟨B, 0, none⟩), .int .i64 0] ∧ HS w0 w' [(B, Row 76 [.float .f64 far, .slice none 0 0])] ∧ w0.heap.size ≤ B := by
  refine Ret.start fun w hs => ?_
  refine calls_of_W Try.func12 rfl rfl rfl ?_
  refine W_seq ?_
  refine W_region ?_
  refine L_assign rfl rfl ?_
  refine L_assign rfl rfl ?_
  refine RL_then ?_
  refine W_seq ?_
  refine W_block ?_
  refine W_seq ?_
  refine W_region ?_
  refine L_move rfl rfl ?_
  refine L_buildSlice1 rfl hs Try.underlying106 Try.ti22 rfl (by decide) rfl rfl ?_
  intro b6 w hb6 hnb6 hs
  simp only [List.map_cons, List.map_nil] at hs
  try dsimp only [List.set_cons_succ, List.set_cons_zero, List.cons_append, List.nil_append] at hs
  have hx : SlC w (some ⟨b6, 0, none⟩) (fl [far]) := SlC.of_row (sp := []) (hs.get (i := 0) rfl)
  replace hs := hs.forget (Own.cons hb6 Own.nil)
  refine L_call rfl Try.fun30 rfl (finite_ok (some ⟨b6, 0, none⟩) 1 1 [far] w hx rfl (by decide) (fun i hi => by match i, hi with | 0, _ => exact hlt)) ?_
  rw [show [far].all finB = true by simp [hf]]
  rintro _ w1 ⟨rfl, hs'⟩
  replace hs := hs.nil hs'
  clear hx hs'
  refine L_not rfl rfl ?_
  refine L_assign rfl rfl ?_
  refine RL_then ?_
  refine W_if_false rfl ?_
  refine W_seq ?_
  refine W_region ?_
  refine L_move rfl rfl ?_
  refine L_fcmp rfl rfl rfl (fun _ => by rw [binOp_float_cmp_lss, h1]; rfl) ?_
  refine L_move rfl rfl ?_
  first | (refine RL_want rfl rfl ?_; refine L_move rfl rfl ?_) | refine RL_skip rfl rfl rfl rfl ?_ | refine RL_skipU rfl rfl rfl ?_
  first | (refine RL_want rfl rfl ?_; refine L_fcmp rfl rfl rfl (fun _ => by rw [binOp_float_cmp_gtr, h2]; rfl) ?_) | refine RL_skip rfl rfl rfl rfl ?_ | refine RL_skipU rfl rfl rfl ?_
  first | refine L_pick_t rfl rfl rfl ?_ | refine L_pick_f rfl rfl rfl ?_
  refine L_assign rfl rfl ?_
  refine RL_then ?_
  refine W_if_false rfl ?_
  refine W_skip' ?_
  refine Nx_block ?_
  refine Nx_then ?_
  refine W_seq ?_
  refine W_region ?_
  refine L_move rfl rfl ?_
  refine L_build rfl rfl (Pl.builtN Try.pl76 rfl) ?_
  refine L_box rfl hs rfl ?_
  intro b18 w hb18 hnb18 hs
  try dsimp only [List.set_cons_succ, List.set_cons_zero, List.cons_append, List.nil_append] at hs
  refine L_assign rfl rfl ?_
  refine L_assign rfl rfl ?_
  refine RL_then ?_
  refine W_ret' ?_
  refine Ex_done2 rfl rfl rfl ?_
  exact ⟨_, rfl, b18, rfl, hs, hb18⟩
theorem HS.ins2 {w0 w : World} {q p : Nat × Obj} {L : Bks} (h : HS w0 w ((q :: L) ++ [p])) : HS w0 w (q :: p :: L) := h.mem_perm (List.Perm.cons _ (List.perm_append_comm (l₂ := [_])))
theorem HS.ins1 {w0 w : World} {p : Nat × Obj} {L : Bks} (h : HS w0 w (L ++ [p])) : HS w0 w (p :: L) := h.mem_perm (List.perm_append_comm (l₂ := [_]))
/-- a net's memory: its radars -/
theorem add_ok (w0 w : World) (B far k : Nat) (v : Value) (xs : List Value) (M R : Bks) (x y t : Nat) (hs : HS w0 w (((B, Row 76 [.float .f64 far, v]) :: R) ++ M)) (hb : Bl w0 84 4 v k xs M) (hk : k < 16)
    (hx : x < 18446744073709551616) (hy : y < 18446744073709551616) (ht : t < 18446744073709551616) (hf : [x, y, t].all finB = true) :
    Ret Try.prog 20 [.pointer (some ⟨B, 0, none⟩), .agg #[.float .f64 x, .float .f64 y, .float .f64 t]] w fun r w' => ∃ v' M', r = .tuple #[.int .i64 k, .int .i64 0] ∧ HS w0 w' (((B, Row 76 [.float .f64 far, v']) :: R) ++ M') ∧ Bl w0 84 4 v' (k + 1) (xs ++ [.float .f64 x, .float .f64 y, .float .f64 t, .slice none 0 0]) M' := by
  obtain ⟨ao, c, rfl, hkc⟩ := hb.slice
  refine calls_of_W Try.func20 rfl rfl rfl ?_
  refine W_seq ?_
  refine W_region ?_
  refine L_box rfl hs rfl ?_
  intro b3 w hb3 hnb3 hs
  try dsimp only [List.set_cons_succ, List.set_cons_zero, List.cons_append, List.nil_append] at hs
  refine L_assign rfl rfl ?_
  refine L_assign rfl rfl ?_
  refine RL_then ?_
  refine W_seq ?_
  refine W_block ?_
  refine W_seq ?_
  refine W_region ?_
  replace hs : HS w0 w ((B, Row 76 [.float .f64 far, .slice ao k c]) :: (b3, Row 37 [.float .f64 x, .float .f64 y, .float .f64 t]) :: (R ++ M)) := HS.ins2 (L := R ++ M) hs
  refine L_move rfl rfl ?_
  refine L_ptrNil rfl Try.underlying26 rfl rfl ?_
  refine L_assign rfl rfl ?_
  refine RL_then ?_
  refine W_if_false rfl ?_
  refine W_seq ?_
  refine W_region ?_
  refine L_move rfl rfl ?_
  refine L_nilCheck rfl rfl ?_
  refine L_fieldAddr rfl (off := 1) Try.underlying76 rfl rfl Try.ti74 rfl ?_
  refine L_load rfl Try.one74 rfl (by first | exact hs.cell (i := 0) rfl rfl | exact hs.cell (i := 1) rfl rfl) ?_
  refine L_len rfl Try.underlying74 rfl ?_
  first | refine L_geq rfl rfl rfl (dtrue (by omega)) ?_ | refine L_geq rfl rfl rfl (dfalse (by omega)) ?_ | refine L_geq rfl rfl rfl rfl ?_
  refine L_assign rfl rfl ?_
  refine RL_then ?_
  refine W_if_false rfl ?_
  refine W_seq ?_
  refine W_region ?_
  refine L_fieldAddr rfl (off := 0) Try.underlying37 rfl rfl Try.ti35 rfl ?_
  refine L_fieldAddr rfl (off := 0) Try.underlying35 rfl rfl Try.ti22 rfl ?_
  refine L_load rfl Try.one22 rfl (by first | exact hs.cell (i := 0) rfl rfl | exact hs.cell (i := 1) rfl rfl) ?_
  refine L_fieldAddr rfl (off := 0) Try.underlying37 rfl rfl Try.ti35 rfl ?_
  refine L_fieldAddr rfl (off := 1) Try.underlying35 rfl rfl Try.ti22 rfl ?_
  refine L_load rfl Try.one22 rfl (by first | exact hs.cell (i := 0) rfl rfl | exact hs.cell (i := 1) rfl rfl) ?_
  refine L_fieldAddr rfl (off := 2) Try.underlying37 rfl rfl Try.ti22 rfl ?_
  refine L_load rfl Try.one22 rfl (by first | exact hs.cell (i := 0) rfl rfl | exact hs.cell (i := 1) rfl rfl) ?_
  refine L_buildSlice1 rfl hs Try.underlying106 Try.ti22 rfl (by decide) rfl rfl ?_
  intro b25 w hb25 hnb25 hs
  simp only [List.map_cons, List.map_nil] at hs
  try dsimp only [List.set_cons_succ, List.set_cons_zero, List.cons_append, List.nil_append] at hs
  replace hs : HS w0 w (((B, Row 76 [.float .f64 far, .slice ao k c]) :: (b3, Row 37 [.float .f64 x, .float .f64 y, .float .f64 t]) :: (R ++ M)) ++ [(b25, Row 22 (fl [x, y, t]))]) := hs
  have hx' : SlC w (some ⟨b25, 0, none⟩) (fl [x, y, t]) := SlC.of_row (sp := []) (hs.has _ (List.mem_append_right _ (List.mem_cons_self ..)))
  replace hs := hs.dropR (Own.cons hb25 Own.nil)
  refine L_call rfl Try.fun30 rfl (finite_ok (some ⟨b25, 0, none⟩) 3 3 [x, y, t] w hx' rfl (by decide) (fun i hi => by match i, hi with | 0, _ => exact hx | 1, _ => exact hy | 2, _ => exact ht)) ?_
  rw [hf]
  rintro _ w1 ⟨rfl, hs'⟩
  replace hs := hs.nil hs'
  clear hx' hs'
  refine L_not rfl rfl ?_
  refine L_assign rfl rfl ?_
  refine RL_then ?_
  refine W_if_false rfl ?_
  refine W_skip' ?_
  refine Nx_block ?_
  refine Nx_then ?_
  refine W_seq ?_
  refine W_sg Try.mixed ?_
  replace hs := hs.drewN 1
  refine SG_stageB [0, 1, 2, 3] [4, 5, 6, 7] [8, 9, 10, 11] (noBk (fun _ _ _ => False)) (g' := 0) (by kernel_rfl) (by kernel_rfl) (fun _ _ _ _ _ h => h) hs ?_
  refine PL_val rfl (fun w => R_move rfl) ?_
  refine PL_val rfl (fun w => R_move rfl) ?_
  refine PL_val rfl (fun w => R_nilCheck rfl) ?_
  refine PL_val rfl (fun w => R_fieldAddr (off := 1) Try.underlying76 rfl rfl Try.ti74 rfl) ?_
  refine PL_endB ?_
  refine HB_val rfl (fun w R hR hs => R_load Try.one74 rfl (by first | exact hs.cell (i := 0) rfl rfl | exact hs.cell (i := 1) rfl rfl)) ?_
  refine HB_val rfl (fun w R hR hs => R_loadA Try.agg37 Try.ti37 rfl (by exact cellsAt_whole (hs.get (i := 1) rfl))) ?_
  refine HB_val rfl (fun w R hR hs => R_build rfl (Pl.builtN Try.pl84 rfl)) ?_
  refine HB_buildSlice rfl Try.underlying74 Try.ti84 rfl (by decide) rfl (by simp [Value.cells]) ?_
  intro b35 hb35
  refine HB_tail ?_
  intro w hs
  replace hs : HS w0 w (((B, Row 76 [.float .f64 far, .slice ao k c]) :: (b3, Row 37 [.float .f64 x, .float .f64 y, .float .f64 t]) :: (R ++ M)) ++ [(b35, Row 84 [.float .f64 x, .float .f64 y, .float .f64 t, .slice none 0 0])]) := hs
  replace hs : HS w0 w (((((B, Row 76 [.float .f64 far, .slice ao k c]) :: (b3, Row 37 [.float .f64 x, .float .f64 y, .float .f64 t]) :: R) ++ M)) ++ [(b35, Row 84 [.float .f64 x, .float .f64 y, .float .f64 t, .slice none 0 0])]) := by
    rw [List.append_assoc]; simpa using hs
  refine L_appendT (L := (B, Row 76 [.float .f64 far, .slice ao k c]) :: (b3, Row 37 [.float .f64 x, .float .f64 y, .float .f64 t]) :: R) rfl Try.underlying74 Try.ti84 rfl hs hb35 hb rfl rfl rfl (by simp [Value.oneCell']) (by omega) (by omega) ?_
  intro v' w M' hs hb'
  obtain ⟨ao', c', rfl, hkc'⟩ := hb'.slice
  refine L_nilCheck rfl rfl ?_
  refine L_fieldAddr rfl (off := 1) Try.underlying76 rfl rfl Try.ti74 rfl ?_
  refine L_store hs (i := 0) rfl Try.ti74 rfl rfl (by first | rfl | exact add_lit0 _ _ | exact Addr.add_lit .. | (rw [add_add]; exact add_lit0 _ _)) (by simp) rfl ?_
  intro w hs
  try dsimp only [List.set_cons_succ, List.set_cons_zero, List.cons_append, List.nil_append] at hs
  refine RL_sg ?_
  refine SG_end (by kernel_rfl) ?_
  refine Nx_then ?_
  refine W_seq ?_
  refine W_region ?_
  refine L_move rfl rfl ?_
  refine L_nilCheck rfl rfl ?_
  refine L_fieldAddr rfl (off := 1) Try.underlying76 rfl rfl Try.ti74 rfl ?_
  refine L_load rfl Try.one74 rfl (by first | exact hs.cell (i := 0) rfl rfl | exact hs.cell (i := 1) rfl rfl) ?_
  refine L_len rfl Try.underlying74 rfl ?_
  first | refine L_sub rfl rfl rfl (wrp_i64 (by omega)) ?_ | refine L_sub rfl rfl rfl rfl ?_
  refine L_assign rfl rfl ?_
  refine L_assign rfl rfl ?_
  refine RL_then ?_
  refine W_ret' ?_
  refine Ex_done2 rfl rfl rfl ?_
  refine ⟨_, rfl, _, M', ?_, ?_, hb'⟩
  · show Value.tuple #[.int .i64 (((k + 1 : Nat) : Int) - 1), .int .i64 0] = _
    rw [show (((k + 1 : Nat) : Int) - 1) = (k : Int) by omega]
  · replace hs : HS w0 w (((B, Row 76 [.float .f64 far, .slice ao' (k + 1) c']) :: (b3, Row 37 [.float .f64 x, .float .f64 y, .float .f64 t]) :: R) ++ M') := hs
    exact hs.sub (fun p hp => by simp at hp ⊢; rcases hp with h | h | h <;> simp [h]) (by
      have := hs.nodup
      simp only [List.map_append, List.map_cons, List.cons_append, List.nodup_cons, List.mem_cons, List.mem_append, not_or] at this ⊢
      exact ⟨this.1.2, this.2.2⟩) (fun p hp => by
      simp only [List.cons_append, List.mem_cons, List.mem_append] at hp ⊢
      rcases hp with h | h | h | h
      · exact .inl (.inl h)
      · exact .inr (by rw [h]; exact hb3)
      · exact .inl (.inr (.inl h))
      · exact .inl (.inr (.inr h)))
end Go.Proofs.Ytknpoemkmcdgcaa
