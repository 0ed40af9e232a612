/-
  A part of the proof: what functions that the statement reaches do, or a plain law on what they do. Each theorem holds under its own premises alone.
-/
import Derived.Test.YtknpoemkmcdgcaaTNN
namespace Go.Proofs.Ytknpoemkmcdgcaa
open Go Go.Lk
/-! ### NetNil, NetBoth -/
theorem addNil_ok (x y t : Nat) (w0 : World) : Ret Try.prog 20 [.pointer none, .agg #[.float .f64 x, .float .f64 y, .float .f64 t]] w0 fun v w' => v = .tuple #[.int .i64 0, .int .i64 1] ∧ HS w0 w' [] := by
  refine Ret.start fun w hs => ?_
  refine calls_of_W Try.func20 rfl rfl rfl ?_
  refine W_seq ?_
  refine W_region ?_
  refine L_box rfl hs rfl ?_
  intro b3 w hb3 hnb3 hs
  try dsimp only [List.set_cons_succ, List.set_cons_zero, List.cons_append, List.nil_append] at hs
  refine L_assign rfl rfl ?_
  refine L_assign rfl rfl ?_
  refine RL_then ?_
  refine W_seq ?_
  refine W_block ?_
  refine W_seq ?_
  refine W_region ?_
  refine L_move rfl rfl ?_
  refine L_ptrNil rfl Try.underlying26 rfl rfl ?_
  refine L_assign rfl rfl ?_
  refine RL_then ?_
  refine W_if_true rfl ?_
  refine W_seq ?_
  refine W_region ?_
  refine L_assign rfl rfl ?_
  refine L_assign rfl rfl ?_
  refine RL_then ?_
  refine W_ret' ?_
  refine Ex_block_ret ?_
  refine Ex_then_ret ?_
  refine Ex_done2 rfl rfl rfl ?_
  exact ⟨_, rfl, rfl, hs.forget (Own.cons hb3 Own.nil)⟩
theorem tellNil_ok (q : Int) (a : Option Addr) (n c : Nat) (w0 : World) : Ret Try.prog 21 [.pointer none, .int .i64 q, .slice a n c] w0 fun v w' => v = .int .i64 1 ∧ HS w0 w' [] := by
  refine Ret.start fun w hs => ?_
  refine calls_of_W Try.func21 rfl rfl rfl ?_
  refine W_seq ?_
  refine W_region ?_
  refine L_assign rfl rfl ?_
  refine RL_then ?_
  refine W_seq ?_
  refine W_block ?_
  refine W_seq ?_
  refine W_region ?_
  refine L_move rfl rfl ?_
  refine L_ptrNil rfl Try.underlying26 rfl rfl ?_
  refine L_assign rfl rfl ?_
  refine RL_then ?_
  refine W_if_true rfl ?_
  refine W_seq ?_
  refine W_region ?_
  refine L_assign rfl rfl ?_
  refine RL_then ?_
  refine W_ret' ?_
  refine Ex_block_ret ?_
  refine Ex_then_ret ?_
  refine Ex_done1 rfl rfl ?_
  exact ⟨_, rfl, rfl, hs⟩
theorem fusedNil_ok (w0 : World) : Ret Try.prog 22 [.pointer none] w0 fun v w' => v = .slice none 0 0 ∧ HS w0 w' [] := by
  refine Ret.start fun w hs => ?_
  refine calls_of_W Try.func22 rfl rfl rfl ?_
  refine W_seq ?_
  refine W_region ?_
  refine L_assign rfl rfl ?_
  refine RL_then ?_
  refine W_seq ?_
  refine W_seq ?_
  refine W_region ?_
  refine L_move rfl rfl ?_
  refine L_ptrNil rfl Try.underlying26 rfl rfl ?_
  refine RL_then ?_
  refine W_if_true rfl ?_
  refine W_seq ?_
  refine W_region ?_
  refine L_assign rfl rfl ?_
  refine RL_then ?_
  refine W_ret' ?_
  refine Ex_then_ret ?_
  refine Ex_done1 rfl rfl ?_
  exact ⟨_, rfl, rfl, hs⟩
theorem nil_law (d : Int) (x y t : Nat) (q : Int) (a : Option Addr) (n c : Nat) (w0 : World) : Ret Try.prog 6 [.agg #[.int .i64 d, .float .f64 x, .float .f64 y, .float .f64 t, .int .i64 q, .slice a n c]] w0 fun v w' => v = .bool true ∧ HS w0 w' [] := by
  refine Ret.start fun w hs => ?_
  refine calls_of_W Try.func6 rfl rfl rfl ?_
  refine W_seq ?_
  refine W_region ?_
  refine L_box rfl hs rfl ?_
  intro b1 w hb1 hnb1 hs
  try dsimp only [List.set_cons_succ, List.set_cons_zero, List.cons_append, List.nil_append] at hs
  refine L_assign rfl rfl ?_
  refine RL_then ?_
  refine W_seq ?_
  refine W_region ?_
  replace hs : HS w0 w [(b1, Row 40 [.int .i64 d, .float .f64 x, .float .f64 y, .float .f64 t, .int .i64 q, .slice a n c])] := hs
  refine L_assign rfl rfl ?_
  refine RL_then ?_
  refine W_seq ?_
  refine W_region ?_
  refine L_move rfl rfl ?_
  refine L_fieldAddr rfl (off := 1) Try.underlying40 rfl rfl Try.ti37 rfl ?_
  refine L_loadA rfl Try.agg37 Try.ti37 rfl (by exact cellsAt_lit (n := 3) (cs := [.float .f64 x, .float .f64 y, .float .f64 t]) (hs.get (i := 0) rfl) rfl) ?_
  refine L_call rfl Try.fun20 rfl (addNil_ok x y t w) ?_
  rintro _ w1 ⟨rfl, hs'⟩
  replace hs := hs.nil hs'
  clear hs'
  refine L_move rfl rfl ?_
  refine L_extract rfl rfl rfl ?_
  refine L_extract rfl rfl rfl ?_
  refine L_assign rfl rfl ?_
  refine L_assign rfl rfl ?_
  refine RL_then ?_
  refine W_seq ?_
  refine W_region ?_
  refine L_move rfl rfl ?_
  first | refine L_eql rfl rfl rfl (dtrue (by omega)) ?_ | refine L_eql rfl rfl rfl (dfalse (by omega)) ?_ | refine L_eql rfl rfl rfl rfl ?_
  refine L_move rfl rfl ?_
  first | (refine RL_want rfl rfl ?_; refine L_move rfl rfl ?_) | refine RL_skip rfl rfl rfl rfl ?_ | refine RL_skipU rfl rfl rfl ?_
  first | (refine RL_want rfl rfl ?_; (first | refine L_eql rfl rfl rfl (dtrue (by omega)) ?_ | refine L_eql rfl rfl rfl (dfalse (by omega)) ?_ | refine L_eql rfl rfl rfl rfl ?_)) | refine RL_skip rfl rfl rfl rfl ?_ | refine RL_skipU rfl rfl rfl ?_
  first | refine L_pick_t rfl rfl rfl ?_ | refine L_pick_f rfl rfl rfl ?_
  refine L_move rfl rfl ?_
  first | (refine RL_want rfl rfl ?_; refine L_move rfl rfl ?_) | refine RL_skip rfl rfl rfl rfl ?_ | refine RL_skipU rfl rfl rfl ?_
  first | (refine RL_want rfl rfl ?_; refine L_fieldAddr rfl (off := 4) Try.underlying40 rfl rfl Try.ti3 rfl ?_) | refine RL_skip rfl rfl rfl rfl ?_ | refine RL_skipU rfl rfl rfl ?_
  first | (refine RL_want rfl rfl ?_; refine L_load rfl Try.one3 rfl (by exact hs.cell (i := 0) rfl rfl) ?_) | refine RL_skip rfl rfl rfl rfl ?_ | refine RL_skipU rfl rfl rfl ?_
  first | (refine RL_want rfl rfl ?_; refine L_fieldAddr rfl (off := 5) Try.underlying40 rfl rfl Try.ti38 rfl ?_) | refine RL_skip rfl rfl rfl rfl ?_ | refine RL_skipU rfl rfl rfl ?_
  first | (refine RL_want rfl rfl ?_; refine L_load rfl Try.one38 rfl (by exact hs.cell (i := 0) rfl rfl) ?_) | refine RL_skip rfl rfl rfl rfl ?_ | refine RL_skipU rfl rfl rfl ?_
  refine RL_want rfl rfl ?_
  refine L_call rfl Try.fun21 rfl (tellNil_ok q a n c _) ?_
  rintro _ w1 ⟨rfl, hs'⟩
  replace hs := hs.nil hs'
  clear hs'
  first | (refine RL_want rfl rfl ?_; (first | refine L_eql rfl rfl rfl (dtrue (by omega)) ?_ | refine L_eql rfl rfl rfl (dfalse (by omega)) ?_ | refine L_eql rfl rfl rfl rfl ?_)) | refine RL_skip rfl rfl rfl rfl ?_ | refine RL_skipU rfl rfl rfl ?_
  first | refine L_pick_t rfl rfl rfl ?_ | refine L_pick_f rfl rfl rfl ?_
  refine L_move rfl rfl ?_
  first | (refine RL_want rfl rfl ?_; refine L_move rfl rfl ?_) | refine RL_skip rfl rfl rfl rfl ?_ | refine RL_skipU rfl rfl rfl ?_
  refine RL_want rfl rfl ?_
  refine L_call rfl Try.fun22 rfl (fusedNil_ok _) ?_
  rintro _ w1 ⟨rfl, hs'⟩
  replace hs := hs.nil hs'
  clear hs'
  first | (refine RL_want rfl rfl ?_; refine L_len rfl Try.underlying55 rfl ?_) | refine RL_skip rfl rfl rfl rfl ?_ | refine RL_skipU rfl rfl rfl ?_
  first | (refine RL_want rfl rfl ?_; (first | refine L_eql rfl rfl rfl (dtrue (by omega)) ?_ | refine L_eql rfl rfl rfl (dfalse (by omega)) ?_ | refine L_eql rfl rfl rfl rfl ?_)) | refine RL_skip rfl rfl rfl rfl ?_ | refine RL_skipU rfl rfl rfl ?_
  first | refine L_pick_t rfl rfl rfl ?_ | refine L_pick_f rfl rfl rfl ?_
  refine L_move rfl rfl ?_
  refine RL_want rfl rfl ?_
  refine L_call rfl Try.fun11 rfl (wakes_ok _) ?_
  rintro _ w1 ⟨rfl, hs'⟩
  replace hs := hs.nil hs'
  clear hs'
  first | refine L_pick_t rfl rfl rfl ?_ | refine L_pick_f rfl rfl rfl ?_
  refine L_assign rfl rfl ?_
  refine RL_then ?_
  refine W_ret' ?_
  refine Ex_done1 rfl rfl ?_
  exact ⟨_, rfl, rfl, hs.forget (Own.cons hb1 Own.nil)⟩
theorem sameF_ok (x y : Nat) (h : cn x = cn y) (w0 : World) : Ret Try.prog 36 [.float .f64 x, .float .f64 y] w0 fun v w' => v = .bool true ∧ w' = w0 := by
  have hn : isnan x = isnan y := by rw [← isnan_cn x, h, isnan_cn]
  refine calls_of_W Try.func36 rfl rfl rfl ?_
  cases hx : isnan x
  · have h1 : (FloatKind.f64.format.order x x != some .eq) = false := by rw [order_self hx]; rfl
    have h2 : (FloatKind.f64.format.order y y != some .eq) = false := by rw [order_self (hn ▸ hx)]; rfl
    have e : x = y := by rw [cn_num hx, cn_num (hn ▸ hx)] at h; exact h
    subst e
    refine W_seq ?_
    refine W_region ?_
    refine L_assign rfl rfl ?_
    refine RL_then ?_
    refine W_seq ?_
    refine W_seq ?_
    refine W_region ?_
    refine L_move rfl rfl ?_
    refine L_move rfl rfl ?_
    refine L_fcmp rfl rfl rfl (fun _ => by rw [binOp_float_cmp_neq, h1]; rfl) ?_
    refine L_move rfl rfl ?_
    first | (refine RL_want rfl rfl ?_; refine L_move rfl rfl ?_) | refine RL_skip rfl rfl rfl rfl ?_ | refine RL_skipU rfl rfl rfl ?_
    first | (refine RL_want rfl rfl ?_; refine L_move rfl rfl ?_) | refine RL_skip rfl rfl rfl rfl ?_ | refine RL_skipU rfl rfl rfl ?_
    first | (refine RL_want rfl rfl ?_; refine L_fcmp rfl rfl rfl (fun _ => by rw [binOp_float_cmp_neq, h2]; rfl) ?_) | refine RL_skip rfl rfl rfl rfl ?_ | refine RL_skipU rfl rfl rfl ?_
    first | refine L_pick_t rfl rfl rfl ?_ | refine L_pick_f rfl rfl rfl ?_
    refine RL_then ?_
    refine W_if_false rfl ?_
    refine W_skip' ?_
    refine Nx_then ?_
    refine W_seq ?_
    refine W_region ?_
    refine L_move rfl rfl ?_
    refine RL_val rfl (R_f64bits Try.ext27 rfl) ?_
    refine L_move rfl rfl ?_
    refine RL_val rfl (R_f64bits Try.ext27 rfl) ?_
    first | refine L_eql rfl rfl rfl (dtrue (by omega)) ?_ | refine L_eql rfl rfl rfl (dfalse (by omega)) ?_ | refine L_eql rfl rfl rfl rfl ?_
    refine L_assign rfl rfl ?_
    refine RL_then ?_
    refine W_ret' ?_
    refine Ex_done1 rfl rfl ?_
    exact ⟨_, rfl, by simp, rfl⟩
  · have h1 : (FloatKind.f64.format.order x x != some .eq) = true := by rw [order_nanL hx]; rfl
    have h2 : (FloatKind.f64.format.order y y != some .eq) = true := by rw [order_nanL (hn ▸ hx)]; rfl
    refine W_seq ?_
    refine W_region ?_
    refine L_assign rfl rfl ?_
    refine RL_then ?_
    refine W_seq ?_
    refine W_seq ?_
    refine W_region ?_
    refine L_move rfl rfl ?_
    refine L_move rfl rfl ?_
    refine L_fcmp rfl rfl rfl (fun _ => by rw [binOp_float_cmp_neq, h1]; rfl) ?_
    refine L_move rfl rfl ?_
    first | (refine RL_want rfl rfl ?_; refine L_move rfl rfl ?_) | refine RL_skip rfl rfl rfl rfl ?_ | refine RL_skipU rfl rfl rfl ?_
    first | (refine RL_want rfl rfl ?_; refine L_move rfl rfl ?_) | refine RL_skip rfl rfl rfl rfl ?_ | refine RL_skipU rfl rfl rfl ?_
    first | (refine RL_want rfl rfl ?_; refine L_fcmp rfl rfl rfl (fun _ => by rw [binOp_float_cmp_neq]; rfl) ?_) | refine RL_skip rfl rfl rfl rfl ?_ | refine RL_skipU rfl rfl rfl ?_
    first | refine L_pick_t rfl rfl rfl ?_ | refine L_pick_f rfl rfl rfl ?_
    refine RL_then ?_
    refine W_if_true rfl ?_
    refine W_seq ?_
    refine W_region ?_
    refine L_move rfl rfl ?_
    refine L_move rfl rfl ?_
    refine L_fcmp rfl rfl rfl (fun _ => by rw [binOp_float_cmp_neq, h1]; rfl) ?_
    refine L_move rfl rfl ?_
    first | (refine RL_want rfl rfl ?_; refine L_move rfl rfl ?_) | refine RL_skip rfl rfl rfl rfl ?_ | refine RL_skipU rfl rfl rfl ?_
    first | (refine RL_want rfl rfl ?_; refine L_move rfl rfl ?_) | refine RL_skip rfl rfl rfl rfl ?_ | refine RL_skipU rfl rfl rfl ?_
    first | (refine RL_want rfl rfl ?_; refine L_fcmp rfl rfl rfl (fun _ => by rw [binOp_float_cmp_neq, h2]; rfl) ?_) | refine RL_skip rfl rfl rfl rfl ?_ | refine RL_skipU rfl rfl rfl ?_
    first | refine L_pick_t rfl rfl rfl ?_ | refine L_pick_f rfl rfl rfl ?_
    refine L_assign rfl rfl ?_
    refine RL_then ?_
    refine W_ret' ?_
    refine Ex_then_ret ?_
    refine Ex_done1 rfl rfl ?_
    exact ⟨_, rfl, rfl, rfl⟩
theorem rboth_ok (a p b q : Nat) (w0 : World) : Ret Try.prog 38 [.float .f64 a, .float .f64 p, .float .f64 b, .float .f64 q] w0 fun v w' => ∃ x y, v = .tuple #[.float .f64 x, .float .f64 y] ∧ HS w0 w' [] ∧ cn x = cn (bX a p b q) ∧ cn y = cn (bP p q) := by
  refine Ret.start fun w hs => ?_
  refine calls_of_W Try.func38 rfl rfl rfl ?_
  refine W_seq ?_
  refine W_region ?_
  refine L_assign rfl rfl ?_
  refine L_assign rfl rfl ?_
  refine RL_then ?_
  refine W_seq ?_
  refine W_region ?_
  refine L_move rfl rfl ?_
  refine L_move rfl rfl ?_
  refine L_farith rfl (op := .add) rfl rfl rfl ?_
  intro r16 k16 hr16
  try replace hs := hs.drewN k16
  refine L_assign rfl rfl ?_
  refine RL_then ?_
  refine W_seq ?_
  refine W_seq ?_
  refine W_region ?_
  refine L_move rfl rfl ?_
  have en : cn r16 = cn (fop .add p q) := (Fs.cn hr16).trans (cn_fop ..).symm
  cases hn : FloatKind.f64.format.order r16 0 == some .gt
  · have h0 : bN p q = false := by unfold bN; rw [← order_congr en rfl]; exact hn
    refine L_fcmp rfl rfl rfl (fun _ => by rw [binOp_float_cmp_gtr, hn]; rfl) ?_
    refine L_not rfl rfl ?_
    refine RL_then ?_
    refine W_if_true rfl ?_
    refine W_seq ?_
    refine W_region ?_
    refine L_move rfl rfl ?_
    refine L_move rfl rfl ?_
    refine L_assign rfl rfl ?_
    refine L_assign rfl rfl ?_
    refine RL_then ?_
    refine W_ret' ?_
    refine Ex_then_ret ?_
    refine Ex_done2 rfl rfl rfl ?_
    refine ⟨_, rfl, _, _, rfl, hs, ?_, ?_⟩
    · unfold bX; rw [h0, if_neg (by decide)]
    · unfold bP; rw [h0, if_neg (by decide)]
  · have h0 : bN p q = true := by unfold bN; rw [← order_congr en rfl]; exact hn
    refine L_fcmp rfl rfl rfl (fun _ => by rw [binOp_float_cmp_gtr, hn]; rfl) ?_
    refine L_not rfl rfl ?_
    refine RL_then ?_
    refine W_if_false rfl ?_
    refine W_skip' ?_
    refine Nx_then ?_
    refine W_seq ?_
    refine W_region ?_
    refine L_move rfl rfl ?_
    refine L_move rfl rfl ?_
    refine L_farith rfl (op := .quo) rfl rfl rfl ?_
    intro r24 k24 hr24
    try replace hs := hs.drewN k24
    refine L_assign rfl rfl ?_
    refine RL_then ?_
    refine W_seq ?_
    refine W_region ?_
    refine L_move rfl rfl ?_
    refine L_move rfl rfl ?_
    refine L_move rfl rfl ?_
    refine L_farith rfl (op := .sub) rfl rfl rfl ?_
    intro r28 k28 hr28
    try replace hs := hs.drewN k28
    refine L_move rfl rfl ?_
    refine L_farith rfl (op := .mul) rfl rfl rfl ?_
    intro r30 k30 hr30
    try replace hs := hs.drewN k30
    refine L_farith rfl (op := .add) rfl rfl rfl ?_
    intro r31 k31 hr31
    try replace hs := hs.drewN k31
    refine L_assign rfl rfl ?_
    refine RL_then ?_
    refine W_seq ?_
    refine W_region ?_
    refine L_move rfl rfl ?_
    refine L_move rfl rfl ?_
    refine L_farith rfl (op := .mul) rfl rfl rfl ?_
    intro r34 k34 hr34
    try replace hs := hs.drewN k34
    refine L_farith rfl (op := .mul) rfl rfl rfl ?_
    intro r35 k35 hr35
    try replace hs := hs.drewN k35
    refine L_move rfl rfl ?_
    refine L_farith rfl (op := .quo) rfl rfl rfl ?_
    intro r37 k37 hr37
    try replace hs := hs.drewN k37
    refine L_assign rfl rfl ?_
    refine RL_then ?_
    refine W_seq ?_
    refine W_region ?_
    refine L_move rfl rfl ?_
    refine L_move rfl rfl ?_
    refine L_assign rfl rfl ?_
    refine L_assign rfl rfl ?_
    refine RL_then ?_
    refine W_ret' ?_
    refine Ex_done2 rfl rfl rfl ?_
    refine ⟨_, rfl, _, _, rfl, hs, ?_, ?_⟩
    · unfold bX
      rw [h0, if_pos rfl, cn_fop]
      exact (Fs.cn hr31).trans (fop_congr rfl ((Fs.cn hr30).trans ((fop_congr ((Fs.cn hr28).trans (cn_fop ..).symm) ((Fs.cn hr24).trans ((fop_congr rfl en).trans (cn_fop ..).symm))).trans (cn_fop ..).symm)))
    · unfold bP
      rw [h0, if_pos rfl, cn_fop]
      exact (Fs.cn hr37).trans (fop_congr ((Fs.cn hr35).trans ((fop_congr rfl ((Fs.cn hr34).trans (cn_fop ..).symm)).trans (cn_fop ..).symm)) en)
theorem rBoth_ok (a b : Sta) (w0 : World) : Ret Try.prog 19 [.agg a.cells.toArray, .agg b.cells.toArray] w0 fun v w' => ∃ x y p q, v = .agg #[.float .f64 x, .float .f64 y, .float .f64 p, .float .f64 0, .float .f64 q] ∧ HS w0 w' [] ∧ cn x = cn (bX a.x a.xx b.x b.xx) ∧ cn p = cn (bP a.xx b.xx) ∧ cn y = cn (bX a.v a.vv b.v b.vv) ∧ cn q = cn (bP a.vv b.vv) := by
  refine Ret.start fun w hs => ?_
  refine calls_of_W Try.func19 rfl rfl rfl ?_
  refine W_seq ?_
  refine W_region ?_
  refine L_box rfl hs rfl ?_
  intro b2 w hb2 hnb2 hs
  try dsimp only [List.set_cons_succ, List.set_cons_zero, List.cons_append, List.nil_append] at hs
  refine L_box rfl hs rfl ?_
  intro b3 w hb3 hnb3 hs
  try dsimp only [List.set_cons_succ, List.set_cons_zero, List.cons_append, List.nil_append] at hs
  refine L_alloc rfl hs Try.ti45 ?_
  intro b4 w hb4 hnb4 hs
  try dsimp only [List.set_cons_succ, List.set_cons_zero, List.cons_append, List.nil_append] at hs
  refine RL_then ?_
  refine W_seq ?_
  refine W_region ?_
  refine L_build rfl rfl (Pl.built Try.pl45 rfl) ?_
  refine L_alloc rfl hs Try.ti45 ?_
  intro b5 w hb5 hnb5 hs
  try dsimp only [List.set_cons_succ, List.set_cons_zero, List.cons_append, List.nil_append] at hs
  refine L_storeA hs (i := 3) rfl Try.ti45 rfl rfl (by first | rfl | exact add_lit0 _ _ | exact Addr.add_lit .. | (rw [add_add]; exact add_lit0 _ _)) (by simp) (by first | (simp; done) | simp [Value.oneCell']) ?_
  intro w hs
  try dsimp only [List.set_cons_succ, List.set_cons_zero, List.cons_append, List.nil_append] at hs
  refine RL_then ?_
  refine W_seq ?_
  refine W_region ?_
  refine L_fieldAddr rfl (off := 0) Try.underlying45 rfl rfl Try.ti22 rfl ?_
  replace hs : HS w0 w [(b2, Row 45 a.cells), (b3, Row 45 b.cells), (b4, Row 45 [.float .f64 0, .float .f64 0, .float .f64 0, .float .f64 0, .float .f64 0]), (b5, Row 45 [.float .f64 0, .float .f64 0, .float .f64 0, .float .f64 0, .float .f64 0])] := hs
  refine L_load rfl Try.one22 rfl (by first | exact hs.cell (i := 0) rfl rfl | exact hs.cell (i := 1) rfl rfl) ?_
  refine L_fieldAddr rfl (off := 2) Try.underlying45 rfl rfl Try.ti22 rfl ?_
  refine L_load rfl Try.one22 rfl (by first | exact hs.cell (i := 0) rfl rfl | exact hs.cell (i := 1) rfl rfl) ?_
  refine L_fieldAddr rfl (off := 0) Try.underlying45 rfl rfl Try.ti22 rfl ?_
  refine L_load rfl Try.one22 rfl (by first | exact hs.cell (i := 0) rfl rfl | exact hs.cell (i := 1) rfl rfl) ?_
  refine L_fieldAddr rfl (off := 2) Try.underlying45 rfl rfl Try.ti22 rfl ?_
  refine L_load rfl Try.one22 rfl (by first | exact hs.cell (i := 0) rfl rfl | exact hs.cell (i := 1) rfl rfl) ?_
  refine L_call rfl Try.fun38 rfl (rboth_ok _ _ _ _ w) ?_
  rintro _ w1 ⟨x, p, rfl, hs', hx, hp⟩
  replace hs := hs.nil hs'
  clear hs'
  refine L_move rfl rfl ?_
  refine L_extract rfl rfl rfl ?_
  refine L_extract rfl rfl rfl ?_
  refine L_fieldAddr rfl (off := 0) Try.underlying45 rfl rfl Try.ti22 rfl ?_
  refine L_store hs (i := 3) rfl Try.ti22 rfl rfl (by first | rfl | exact add_lit0 _ _ | exact Addr.add_lit .. | (rw [add_add]; exact add_lit0 _ _)) (by simp) rfl ?_
  intro w hs
  try dsimp only [List.set_cons_succ, List.set_cons_zero, List.cons_append, List.nil_append] at hs
  refine L_fieldAddr rfl (off := 2) Try.underlying45 rfl rfl Try.ti22 rfl ?_
  refine L_store hs (i := 3) rfl Try.ti22 rfl rfl (by first | rfl | exact add_lit0 _ _ | exact Addr.add_lit .. | (rw [add_add]; exact add_lit0 _ _)) (by simp) rfl ?_
  intro w hs
  try dsimp only [List.set_cons_succ, List.set_cons_zero, List.cons_append, List.nil_append] at hs
  refine RL_then ?_
  refine W_seq ?_
  refine W_region ?_
  refine L_fieldAddr rfl (off := 1) Try.underlying45 rfl rfl Try.ti22 rfl ?_
  refine L_load rfl Try.one22 rfl (by first | exact hs.cell (i := 0) rfl rfl | exact hs.cell (i := 1) rfl rfl) ?_
  refine L_fieldAddr rfl (off := 4) Try.underlying45 rfl rfl Try.ti22 rfl ?_
  refine L_load rfl Try.one22 rfl (by first | exact hs.cell (i := 0) rfl rfl | exact hs.cell (i := 1) rfl rfl) ?_
  refine L_fieldAddr rfl (off := 1) Try.underlying45 rfl rfl Try.ti22 rfl ?_
  refine L_load rfl Try.one22 rfl (by first | exact hs.cell (i := 0) rfl rfl | exact hs.cell (i := 1) rfl rfl) ?_
  refine L_fieldAddr rfl (off := 4) Try.underlying45 rfl rfl Try.ti22 rfl ?_
  refine L_load rfl Try.one22 rfl (by first | exact hs.cell (i := 0) rfl rfl | exact hs.cell (i := 1) rfl rfl) ?_
  refine L_call rfl Try.fun38 rfl (rboth_ok _ _ _ _ _) ?_
  rintro _ w1 ⟨y, q, rfl, hs', hy, hq⟩
  replace hs := hs.nil hs'
  clear hs'
  refine L_move rfl rfl ?_
  refine L_extract rfl rfl rfl ?_
  refine L_extract rfl rfl rfl ?_
  refine L_fieldAddr rfl (off := 1) Try.underlying45 rfl rfl Try.ti22 rfl ?_
  refine L_store hs (i := 3) rfl Try.ti22 rfl rfl (by first | rfl | exact add_lit0 _ _ | exact Addr.add_lit .. | (rw [add_add]; exact add_lit0 _ _)) (by simp) rfl ?_
  intro w hs
  try dsimp only [List.set_cons_succ, List.set_cons_zero, List.cons_append, List.nil_append] at hs
  refine L_fieldAddr rfl (off := 4) Try.underlying45 rfl rfl Try.ti22 rfl ?_
  refine L_store hs (i := 3) rfl Try.ti22 rfl rfl (by first | rfl | exact add_lit0 _ _ | exact Addr.add_lit .. | (rw [add_add]; exact add_lit0 _ _)) (by simp) rfl ?_
  intro w hs
  try dsimp only [List.set_cons_succ, List.set_cons_zero, List.cons_append, List.nil_append] at hs
  refine RL_then ?_
  refine W_seq ?_
  refine W_region ?_
  replace hs : HS w0 w [(b2, Row 45 a.cells), (b3, Row 45 b.cells), (b4, Row 45 [.float .f64 0, .float .f64 0, .float .f64 0, .float .f64 0, .float .f64 0]), (b5, Row 45 [.float .f64 x, .float .f64 y, .float .f64 p, .float .f64 0, .float .f64 q])] := hs
  refine L_loadA rfl Try.agg45 Try.ti45 rfl (by exact cellsAt_whole (cs := [.float .f64 x, .float .f64 y, .float .f64 p, .float .f64 0, .float .f64 q]) (hs.get (i := 3) rfl)) ?_
  refine L_storeA hs (i := 2) rfl Try.ti45 rfl rfl (by first | rfl | exact add_lit0 _ _ | exact Addr.add_lit .. | (rw [add_add]; exact add_lit0 _ _)) (by simp) (by first | (simp; done) | simp [Value.oneCell']) ?_
  intro w hs
  try dsimp only [List.set_cons_succ, List.set_cons_zero, List.cons_append, List.nil_append] at hs
  refine RL_then ?_
  refine W_ret' ?_
  refine Ex_doneC rfl rfl Try.agg45 Try.ti45 (by exact cellsAt_whole (cs := [.float .f64 x, .float .f64 y, .float .f64 p, .float .f64 0, .float .f64 q]) (hs.get (i := 2) rfl)) ?_
  exact ⟨_, rfl, x, y, p, q, rfl, hs.forget (Own.cons hb2 (Own.cons hb3 (Own.cons hb4 (Own.cons hb5 Own.nil)))), hx, hp, hy, hq⟩
theorem Same_ok (a b : Sta) (w0 : World) (h1 : cn a.x = cn b.x) (h2 : cn a.v = cn b.v) (h3 : cn a.xx = cn b.xx) (h4 : cn a.xv = cn b.xv) (h5 : cn a.vv = cn b.vv) : Ret Try.prog 17 [.agg a.cells.toArray, .agg b.cells.toArray] w0 fun v w' => v = .bool true ∧ HS w0 w' [] := by
  refine Ret.start fun w hs => ?_
  refine calls_of_W Try.func17 rfl rfl rfl ?_
  refine W_seq ?_
  refine W_region ?_
  refine L_box rfl hs rfl ?_
  intro b2 w hb2 hnb2 hs
  try dsimp only [List.set_cons_succ, List.set_cons_zero, List.cons_append, List.nil_append] at hs
  refine L_box rfl hs rfl ?_
  intro b3 w hb3 hnb3 hs
  try dsimp only [List.set_cons_succ, List.set_cons_zero, List.cons_append, List.nil_append] at hs
  refine L_assign rfl rfl ?_
  refine RL_then ?_
  refine W_seq ?_
  refine W_region ?_
  replace hs : HS w0 w [(b2, Row 45 a.cells), (b3, Row 45 b.cells)] := hs
  refine L_fieldAddr rfl (off := 0) Try.underlying45 rfl rfl Try.ti22 rfl ?_
  refine L_load rfl Try.one22 rfl (by first | exact hs.cell (i := 0) rfl rfl | exact hs.cell (i := 1) rfl rfl) ?_
  refine L_fieldAddr rfl (off := 0) Try.underlying45 rfl rfl Try.ti22 rfl ?_
  refine L_load rfl Try.one22 rfl (by first | exact hs.cell (i := 0) rfl rfl | exact hs.cell (i := 1) rfl rfl) ?_
  refine L_call rfl Try.fun36 rfl (sameF_ok _ _ h1 _) ?_
  rintro _ _ ⟨rfl, rfl⟩
  refine L_move rfl rfl ?_
  first | (refine RL_want rfl rfl ?_; refine L_fieldAddr rfl (off := 1) Try.underlying45 rfl rfl Try.ti22 rfl ?_) | refine RL_skip rfl rfl rfl rfl ?_ | refine RL_skipU rfl rfl rfl ?_
  first | (refine RL_want rfl rfl ?_; refine L_load rfl Try.one22 rfl (by first | exact hs.cell (i := 0) rfl rfl | exact hs.cell (i := 1) rfl rfl) ?_) | refine RL_skip rfl rfl rfl rfl ?_ | refine RL_skipU rfl rfl rfl ?_
  first | (refine RL_want rfl rfl ?_; refine L_fieldAddr rfl (off := 1) Try.underlying45 rfl rfl Try.ti22 rfl ?_) | refine RL_skip rfl rfl rfl rfl ?_ | refine RL_skipU rfl rfl rfl ?_
  first | (refine RL_want rfl rfl ?_; refine L_load rfl Try.one22 rfl (by first | exact hs.cell (i := 0) rfl rfl | exact hs.cell (i := 1) rfl rfl) ?_) | refine RL_skip rfl rfl rfl rfl ?_ | refine RL_skipU rfl rfl rfl ?_
  refine RL_want rfl rfl ?_
  refine L_call rfl Try.fun36 rfl (sameF_ok _ _ h2 _) ?_
  rintro _ _ ⟨rfl, rfl⟩
  first | refine L_pick_t rfl rfl rfl ?_ | refine L_pick_f rfl rfl rfl ?_
  refine L_assign rfl rfl ?_
  refine RL_then ?_
  refine W_seq ?_
  refine W_region ?_
  refine L_fieldAddr rfl (off := 2) Try.underlying45 rfl rfl Try.ti22 rfl ?_
  refine L_load rfl Try.one22 rfl (by first | exact hs.cell (i := 0) rfl rfl | exact hs.cell (i := 1) rfl rfl) ?_
  refine L_fieldAddr rfl (off := 2) Try.underlying45 rfl rfl Try.ti22 rfl ?_
  refine L_load rfl Try.one22 rfl (by first | exact hs.cell (i := 0) rfl rfl | exact hs.cell (i := 1) rfl rfl) ?_
  refine L_call rfl Try.fun36 rfl (sameF_ok _ _ h3 _) ?_
  rintro _ _ ⟨rfl, rfl⟩
  refine L_move rfl rfl ?_
  first | (refine RL_want rfl rfl ?_; refine L_fieldAddr rfl (off := 3) Try.underlying45 rfl rfl Try.ti22 rfl ?_) | refine RL_skip rfl rfl rfl rfl ?_ | refine RL_skipU rfl rfl rfl ?_
  first | (refine RL_want rfl rfl ?_; refine L_load rfl Try.one22 rfl (by first | exact hs.cell (i := 0) rfl rfl | exact hs.cell (i := 1) rfl rfl) ?_) | refine RL_skip rfl rfl rfl rfl ?_ | refine RL_skipU rfl rfl rfl ?_
  first | (refine RL_want rfl rfl ?_; refine L_fieldAddr rfl (off := 3) Try.underlying45 rfl rfl Try.ti22 rfl ?_) | refine RL_skip rfl rfl rfl rfl ?_ | refine RL_skipU rfl rfl rfl ?_
  first | (refine RL_want rfl rfl ?_; refine L_load rfl Try.one22 rfl (by first | exact hs.cell (i := 0) rfl rfl | exact hs.cell (i := 1) rfl rfl) ?_) | refine RL_skip rfl rfl rfl rfl ?_ | refine RL_skipU rfl rfl rfl ?_
  refine RL_want rfl rfl ?_
  refine L_call rfl Try.fun36 rfl (sameF_ok _ _ h4 _) ?_
  rintro _ _ ⟨rfl, rfl⟩
  first | refine L_pick_t rfl rfl rfl ?_ | refine L_pick_f rfl rfl rfl ?_
  refine L_move rfl rfl ?_
  first | (refine RL_want rfl rfl ?_; refine L_fieldAddr rfl (off := 4) Try.underlying45 rfl rfl Try.ti22 rfl ?_) | refine RL_skip rfl rfl rfl rfl ?_ | refine RL_skipU rfl rfl rfl ?_
  first | (refine RL_want rfl rfl ?_; refine L_load rfl Try.one22 rfl (by first | exact hs.cell (i := 0) rfl rfl | exact hs.cell (i := 1) rfl rfl) ?_) | refine RL_skip rfl rfl rfl rfl ?_ | refine RL_skipU rfl rfl rfl ?_
  first | (refine RL_want rfl rfl ?_; refine L_fieldAddr rfl (off := 4) Try.underlying45 rfl rfl Try.ti22 rfl ?_) | refine RL_skip rfl rfl rfl rfl ?_ | refine RL_skipU rfl rfl rfl ?_
  first | (refine RL_want rfl rfl ?_; refine L_load rfl Try.one22 rfl (by first | exact hs.cell (i := 0) rfl rfl | exact hs.cell (i := 1) rfl rfl) ?_) | refine RL_skip rfl rfl rfl rfl ?_ | refine RL_skipU rfl rfl rfl ?_
  refine RL_want rfl rfl ?_
  refine L_call rfl Try.fun36 rfl (sameF_ok _ _ h5 _) ?_
  rintro _ _ ⟨rfl, rfl⟩
  first | refine L_pick_t rfl rfl rfl ?_ | refine L_pick_f rfl rfl rfl ?_
  refine L_assign rfl rfl ?_
  refine RL_then ?_
  refine W_seq ?_
  refine W_region ?_
  refine L_move rfl rfl ?_
  refine L_move rfl rfl ?_
  first | (refine RL_want rfl rfl ?_; refine L_move rfl rfl ?_) | refine RL_skip rfl rfl rfl rfl ?_ | refine RL_skipU rfl rfl rfl ?_
  first | refine L_pick_t rfl rfl rfl ?_ | refine L_pick_f rfl rfl rfl ?_
  refine L_assign rfl rfl ?_
  refine RL_then ?_
  refine W_ret' ?_
  refine Ex_done1 rfl rfl ?_
  exact ⟨_, rfl, rfl, hs.forget (Own.cons hb2 (Own.cons hb3 Own.nil))⟩
def SPB (f : FuncId) (args : Array Value) (v : Value) : Prop := match f, args.toList with
  | 18, [.agg s, .agg t] => (match s.toList, t.toList with
    | [.float .f64 ax, .float .f64 av, .float .f64 aq, .float .f64 _, .float .f64 ar], [.float .f64 bx, .float .f64 bv, .float .f64 bq, .float .f64 _, .float .f64 br] => ∃ x y p q, v = .agg #[.float .f64 x, .float .f64 y, .float .f64 p, .float .f64 0, .float .f64 q] ∧ cn x = cn (bX ax aq bx bq) ∧ cn p = cn (bP aq bq) ∧ cn y = cn (bX av ar bv br) ∧ cn q = cn (bP ar br)
    | _, _ => False)
  | 19, [.agg s, .agg t] => (match s.toList, t.toList with
    | [.float .f64 ax, .float .f64 av, .float .f64 aq, .float .f64 _, .float .f64 ar], [.float .f64 bx, .float .f64 bv, .float .f64 bq, .float .f64 _, .float .f64 br] => ∃ x y p q, v = .agg #[.float .f64 x, .float .f64 y, .float .f64 p, .float .f64 0, .float .f64 q] ∧ cn x = cn (bX ax aq bx bq) ∧ cn p = cn (bP aq bq) ∧ cn y = cn (bX av ar bv br) ∧ cn q = cn (bP ar br)
    | _, _ => False)
  | 17, _ => v = .bool true
  | 11, _ => v = .bool true
  | _, _ => False
theorem BothH {w0 w : World} {L : Bks} (hs : HS w0 w L) (a b : Sta) : Ret Try.prog 18 [.agg a.cells.toArray, .agg b.cells.toArray] w fun v w' => SPB 18 [.agg a.cells.toArray, .agg b.cells.toArray].toArray v ∧ HS w0 w' L :=
  Calls.mono (Both_ok a b w) fun e w' => by
    rintro ⟨v, rfl, x, y, p, q, rfl, hs', h⟩
    exact ⟨_, rfl, ⟨x, y, p, q, rfl, h⟩, hs.nil hs'⟩
theorem rBothH {w0 w : World} {L : Bks} (hs : HS w0 w L) (a b : Sta) : Ret Try.prog 19 [.agg a.cells.toArray, .agg b.cells.toArray] w fun v w' => SPB 19 [.agg a.cells.toArray, .agg b.cells.toArray].toArray v ∧ HS w0 w' L :=
  Calls.mono (rBoth_ok a b w) fun e w' => by
    rintro ⟨v, rfl, x, y, p, q, rfl, hs', h⟩
    exact ⟨_, rfl, ⟨x, y, p, q, rfl, h⟩, hs.nil hs'⟩
theorem SameH {w0 w : World} {L : Bks} (hs : HS w0 w L) (a b : Sta) (h1 : cn a.x = cn b.x) (h2 : cn a.v = cn b.v) (h3 : cn a.xx = cn b.xx) (h4 : cn a.xv = cn b.xv) (h5 : cn a.vv = cn b.vv) : Ret Try.prog 17 [.agg a.cells.toArray, .agg b.cells.toArray] w fun v w' => SPB 17 [.agg a.cells.toArray, .agg b.cells.toArray].toArray v ∧ HS w0 w' L :=
  Calls.mono (Same_ok a b w h1 h2 h3 h4 h5) fun e w' => by
    rintro ⟨v, rfl, rfl, hs'⟩
    exact ⟨_, rfl, rfl, hs.nil hs'⟩
theorem wakesH {w0 w : World} {L : Bks} (hs : HS w0 w L) : Ret Try.prog 11 [] w fun v w' => SPB 11 [].toArray v ∧ HS w0 w' L :=
  Calls.mono (wakes_ok w) fun e w' => by
    rintro ⟨v, rfl, rfl, hs'⟩
    exact ⟨_, rfl, rfl, hs.nil hs'⟩
theorem both_law (a b : Sta) (w0 : World) : Ret Try.prog 5 [.agg a.cells.toArray, .agg b.cells.toArray] w0 fun v w' => v = .bool true ∧ HS w0 w' [] := by
  refine Ret.start fun w hs => ?_
  refine calls_of_W Try.func5 rfl rfl rfl ?_
  refine W_seq ?_
  refine W_region ?_
  refine L_box rfl hs rfl ?_
  intro b2 w hb2 hnb2 hs
  try dsimp only [List.set_cons_succ, List.set_cons_zero, List.cons_append, List.nil_append] at hs
  refine L_box rfl hs rfl ?_
  intro b3 w hb3 hnb3 hs
  try dsimp only [List.set_cons_succ, List.set_cons_zero, List.cons_append, List.nil_append] at hs
  refine L_assign rfl rfl ?_
  refine RL_then ?_
  refine W_seq ?_
  replace hs : HS w0 w [(b2, Row 45 a.cells), (b3, Row 45 b.cells)] := hs
  refine W_sg Try.mixed ?_
  replace hs := hs.drewN 1
  refine SG_stageB [] [0, 1, 2, 3, 4, 5, 6, 7, 8, 9, 10] [] (noBk SPB) (g' := 0) (by kernel_rfl) (by kernel_rfl) (fun _ _ _ _ _ h => h) hs ?_
  refine PL_endB ?_
  refine HB_val rfl (fun w R hR hs => R_loadA Try.agg45 Try.ti45 rfl (by first | exact cellsAt_whole (cs := a.cells) (hs.get (i := 0) rfl) | exact cellsAt_whole (cs := b.cells) (hs.get (i := 1) rfl))) ?_
  refine HB_val rfl (fun w R hR hs => R_loadA Try.agg45 Try.ti45 rfl (by first | exact cellsAt_whole (cs := a.cells) (hs.get (i := 0) rfl) | exact cellsAt_whole (cs := b.cells) (hs.get (i := 1) rfl))) ?_
  refine HB_callH rfl Try.fun18 rfl (fun w R hR hs => BothH hs a b) ?_
  rintro _ ⟨x, y, p, q, rfl, hx, hp, hy, hq⟩
  refine HB_val rfl (fun w R hR hs => R_loadA Try.agg45 Try.ti45 rfl (by first | exact cellsAt_whole (cs := a.cells) (hs.get (i := 0) rfl) | exact cellsAt_whole (cs := b.cells) (hs.get (i := 1) rfl))) ?_
  refine HB_val rfl (fun w R hR hs => R_loadA Try.agg45 Try.ti45 rfl (by first | exact cellsAt_whole (cs := a.cells) (hs.get (i := 0) rfl) | exact cellsAt_whole (cs := b.cells) (hs.get (i := 1) rfl))) ?_
  refine HB_callH rfl Try.fun19 rfl (fun w R hR hs => rBothH hs a b) ?_
  rintro _ ⟨x2, y2, p2, q2, rfl, hx2, hp2, hy2, hq2⟩
  skip
  refine HB_callH rfl Try.fun17 rfl (fun w R hR hs => SameH hs ⟨x, y, p, 0, q⟩ ⟨x2, y2, p2, 0, q2⟩ (hx.trans hx2.symm) (hy.trans hy2.symm) (hp.trans hp2.symm) rfl (hq.trans hq2.symm)) ?_
  rintro _ rfl
  refine HB_val rfl (fun w R hR hs => R_move rfl) ?_
  refine HB_want rfl rfl ?_
  refine HB_callH rfl Try.fun11 rfl (fun w R hR hs => wakesH hs) ?_
  rintro _ rfl
  first | refine HB_val rfl (fun w R hR hs => R_pick_t rfl rfl) ?_ | refine HB_val rfl (fun w R hR hs => R_pick_f rfl rfl) ?_
  refine HB_val rfl (fun w R hR hs => R_assign rfl) ?_
  refine HB_tail ?_
  intro w hs
  refine RL_sg ?_
  refine SG_end (by kernel_rfl) ?_
  refine Nx_then ?_
  refine W_ret' ?_
  refine Ex_done1 rfl rfl ?_
  exact ⟨_, rfl, rfl, hs.forget (Own.cons hb2 (Own.cons hb3 Own.nil))⟩
end Go.Proofs.Ytknpoemkmcdgcaa
