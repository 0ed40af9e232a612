/-
  A part of the proof: what functions that the statement reaches do, or a plain law on what they do. Each theorem holds under its own premises alone.
-/
import Derived.Test.YtdllakfojligjaaTCNA
namespace Go.Proofs.Ytdllakfojligjaa
open Go Go.Lk
/-! ### States: start, ahead, seen, far -/
structure Stt where
 x : Nat
 v : Nat
 p : Nat
 q : Nat
 r : Nat
def Stt.cells (s : Stt) : List Value := [.float .f64 s.x, .float .f64 s.v, .float .f64 s.p, .float .f64 s.q, .float .f64 s.r]
def Stt.c (s : Stt) : Stt := ⟨cn s.x, cn s.v, cn s.p, cn s.q, cn s.r⟩
theorem Stt.one (s : Stt) : ∀ v ∈ s.cells, v.oneCell' = true := by simp [Stt.cells, Value.oneCell']
def gtZ (x : Nat) : Bool := FloatKind.f64.format.order x 0 == some .gt
theorem gtZ_congr {x y : Nat} (h : cn x = cn y) : gtZ x = gtZ y := by unfold gtZ; rw [order_congr h rfl]
def aboveF (x : Nat) : Nat := if gtZ x then x else 0
theorem aboveF_congr {x y : Nat} (h : cn x = cn y) : cn (aboveF x) = cn (aboveF y) := by
 unfold aboveF
 rw [gtZ_congr h]
 split
 ·
  exact h
 ·
  rfl
theorem above_ok (x : Nat) (w : World) : Ret Try.prog 51 [.float .f64 x] w fun v w' => v = .float .f64 (aboveF x) ∧ w' = w := by
 refine calls_of_W Try.func51 rfl rfl rfl ?_
 obtain ⟨b, hb⟩ : ∃ b, (FloatKind.f64.format.order x 0 == some .gt) = b := ⟨_, rfl⟩
 cases b
 ·
  refine W_seq ?_
  refine W_region ?_
  refine L_assign rfl rfl ?_
  refine RL_then ?_
  refine W_seq ?_
  refine W_seq ?_
  refine W_region ?_
  refine L_move rfl rfl ?_
  refine L_fcmp rfl rfl rfl (fun _ => by rw [binOp_float_cmp_gtr, hb]; rfl) ?_
  refine L_not rfl rfl ?_
  refine RL_then ?_
  refine W_if_true rfl ?_
  refine W_seq ?_
  refine W_region ?_
  refine L_assign rfl rfl ?_
  refine RL_then ?_
  refine W_ret' ?_
  refine Ex_then_ret ?_
  refine Ex_done1 rfl rfl ?_
  exact ⟨_, rfl, by unfold aboveF gtZ; rw [hb]; rfl, rfl⟩
 ·
  refine W_seq ?_
  refine W_region ?_
  refine L_assign rfl rfl ?_
  refine RL_then ?_
  refine W_seq ?_
  refine W_seq ?_
  refine W_region ?_
  refine L_move rfl rfl ?_
  refine L_fcmp rfl rfl rfl (fun _ => by rw [binOp_float_cmp_gtr, hb]; rfl) ?_
  refine L_not rfl rfl ?_
  refine RL_then ?_
  refine W_if_false rfl ?_
  refine W_skip' ?_
  refine Nx_then ?_
  refine W_seq ?_
  refine W_region ?_
  refine L_move rfl rfl ?_
  refine L_assign rfl rfl ?_
  refine RL_then ?_
  refine W_ret' ?_
  refine Ex_done1 rfl rfl ?_
  exact ⟨_, rfl, by unfold aboveF gtZ; rw [hb]; rfl, rfl⟩
theorem inf_ok (w : World) : Ret Try.prog 36 [.int .i64 1] w fun v w' => v = .float .f64 9218868437227405312 ∧ w' = w := by
 refine calls_of_W Try.func36 rfl rfl rfl ?_
 refine W_seq ?_
 refine W_region ?_
 refine L_assign rfl rfl ?_
 refine RL_then ?_
 refine W_seq ?_
 refine W_region ?_
 refine L_assign rfl rfl ?_
 refine RL_then ?_
 refine W_seq ?_
 refine W_seq ?_
 refine W_region ?_
 refine L_move rfl rfl ?_
 first | refine L_geq rfl rfl rfl (dtrue (by omega)) ?_ | refine L_geq rfl rfl rfl (dfalse (by omega)) ?_ | refine L_geq rfl rfl rfl rfl ?_
 refine RL_then ?_
 refine W_if_true rfl ?_
 refine W_region ?_
 refine L_assign rfl rfl ?_
 refine RL_then ?_
 refine W_seq ?_
 refine W_region ?_
 refine L_move rfl rfl ?_
 refine RL_val rfl (R_f64from Try.ext62 rfl) ?_
 refine L_assign rfl rfl ?_
 refine RL_then ?_
 refine W_ret' ?_
 refine Ex_done1 rfl rfl ?_
 exact ⟨_, rfl, rfl, rfl⟩
theorem ninf_ok (w : World) : Ret Try.prog 36 [.int .i64 (-1)] w fun v w' => v = .float .f64 18442240474082181120 ∧ w' = w := by
 refine calls_of_W Try.func36 rfl rfl rfl ?_
 refine W_seq ?_
 refine W_region ?_
 refine L_assign rfl rfl ?_
 refine RL_then ?_
 refine W_seq ?_
 refine W_region ?_
 refine L_assign rfl rfl ?_
 refine RL_then ?_
 refine W_seq ?_
 refine W_seq ?_
 refine W_region ?_
 refine L_move rfl rfl ?_
 first | refine L_geq rfl rfl rfl (dtrue (by omega)) ?_ | refine L_geq rfl rfl rfl (dfalse (by omega)) ?_ | refine L_geq rfl rfl rfl rfl ?_
 refine RL_then ?_
 refine W_if_false rfl ?_
 refine W_region ?_
 refine L_assign rfl rfl ?_
 refine RL_then ?_
 refine W_seq ?_
 refine W_region ?_
 refine L_move rfl rfl ?_
 refine RL_val rfl (R_f64from Try.ext62 rfl) ?_
 refine L_assign rfl rfl ?_
 refine RL_then ?_
 refine W_ret' ?_
 refine Ex_done1 rfl rfl ?_
 exact ⟨_, rfl, rfl, rfl⟩
def startF (x n w : Nat) : Stt := ⟨x, 0, n, 0, w⟩
theorem start_ok (x n w : Nat) (w0 : World) : Ret Try.prog 45 [.float .f64 x, .float .f64 n, .float .f64 w] w0 fun v w' => v = .agg (startF x n w).cells.toArray ∧ HS w0 w' [] := by
 refine Ret.start fun w' hs => ?_
 refine calls_of_W Try.func45 rfl rfl rfl ?_
 refine W_seq ?_
 refine W_region ?_
 refine L_alloc rfl hs Try.ti46 ?_
 intro b6 w hb6 hnb6 hs
 try dsimp only [List.set_cons_succ, List.set_cons_zero, List.cons_append, List.nil_append] at hs
 refine RL_then ?_
 refine W_seq ?_
 refine W_region ?_
 refine L_move rfl rfl ?_
 refine L_move rfl rfl ?_
 refine L_move rfl rfl ?_
 refine L_build rfl rfl (Pl.built Try.pl46 rfl) ?_
 refine L_storeA hs (i := 0) rfl Try.ti46 rfl rfl (by first | rfl | exact add_lit0 _ _ | exact Addr.add_lit .. | (rw [add_add]; exact add_lit0 _ _)) (by simp) (by first | (simp; done) | simp [Value.oneCell']) ?_
 intro w hs
 try dsimp only [List.set_cons_succ, List.set_cons_zero, List.cons_append, List.nil_append] at hs
 refine RL_then ?_
 refine W_ret' ?_
 refine Ex_doneC rfl rfl Try.agg46 Try.ti46 (by exact cellsAt_whole (hs.get (i := 0) rfl)) ?_
 exact ⟨_, rfl, rfl, hs.forget (Own.cons hb6 Own.nil)⟩
def farW (s : Stt) (n : Nat) : Nat := fop .add s.p n
def farF (s : Stt) (x n : Nat) : Nat := if gtZ (farW s n) then fop .quo (fop .mul (fop .sub x s.x) (fop .sub x s.x)) (farW s n) else 9218868437227405312
theorem far_ok (s : Stt) (x n : Nat) (w0 : World) : Ret Try.prog 25 [.agg s.cells.toArray, .float .f64 x, .float .f64 n] w0 fun v w' => (∃ d, v = .float .f64 d ∧ cn d = cn (farF s x n)) ∧ HS w0 w' [] := by
 refine Ret.start fun w hs => ?_
 refine calls_of_W Try.func25 rfl rfl rfl ?_
 refine W_seq ?_
 refine W_region ?_
 refine L_box rfl hs rfl ?_
 intro b3 w hb3 hnb3 hs
 try dsimp only [List.set_cons_succ, List.set_cons_zero, List.cons_append, List.nil_append] at hs
 refine L_assign rfl rfl ?_
 refine RL_then ?_
 refine W_seq ?_
 refine W_seq ?_
 refine W_region ?_
 replace hs : HS w0 w [(b3, Row 46 s.cells)] := hs
 refine L_fieldAddr rfl (off := 2) Try.underlying46 rfl rfl Try.ti23 rfl ?_
 refine L_load rfl Try.one23 rfl (by exact hs.cell (i := 0) rfl rfl) ?_
 refine L_move rfl rfl ?_
 refine L_farith rfl (op := .add) rfl rfl rfl ?_
 intro r12 k12 hr12
 try replace hs := hs.drewN k12
 refine L_assign rfl rfl ?_
 refine RL_then ?_
 refine W_seq ?_
 refine W_region ?_
 refine L_move rfl rfl ?_
 have ew : cn r12 = cn (farW s n) := (Fs.cn hr12).trans (cn_fop ..).symm
 have hg : (FloatKind.f64.format.order r12 0 == some .gt) = gtZ (farW s n) := gtZ_congr ew
 cases hb : gtZ (farW s n)
 ·
  rw [hb] at hg
  refine L_fcmp rfl rfl rfl (fun _ => by rw [binOp_float_cmp_gtr, hg]; rfl) ?_
  refine RL_then ?_
  refine W_if_false rfl ?_
  refine W_skip' ?_
  refine Nx_then ?_
  refine W_seq ?_
  refine W_region ?_
  refine L_call rfl Try.fun36 rfl (inf_ok _) ?_
  rintro _ _ ⟨rfl, rfl⟩
  refine L_assign rfl rfl ?_
  refine RL_then ?_
  refine W_ret' ?_
  refine Ex_done1 rfl rfl ?_
  exact ⟨_, rfl, ⟨_, rfl, by unfold farF; rw [hb]; rfl⟩, hs.forget (Own.cons hb3 Own.nil)⟩
 ·
  rw [hb] at hg
  refine L_fcmp rfl rfl rfl (fun _ => by rw [binOp_float_cmp_gtr, hg]; rfl) ?_
  refine RL_then ?_
  refine W_if_true rfl ?_
  refine W_seq ?_
  refine W_region ?_
  refine L_move rfl rfl ?_
  refine L_fieldAddr rfl (off := 0) Try.underlying46 rfl rfl Try.ti23 rfl ?_
  refine L_load rfl Try.one23 rfl (by exact hs.cell (i := 0) rfl rfl) ?_
  refine L_farith rfl (op := .sub) rfl rfl rfl ?_
  intro r18 k18 hr18
  try replace hs := hs.drewN k18
  refine L_assign rfl rfl ?_
  refine RL_then ?_
  refine W_seq ?_
  refine W_region ?_
  refine L_move rfl rfl ?_
  refine L_move rfl rfl ?_
  refine L_farith rfl (op := .mul) rfl rfl rfl ?_
  intro r21 k21 hr21
  try replace hs := hs.drewN k21
  refine L_move rfl rfl ?_
  refine L_farith rfl (op := .quo) rfl rfl rfl ?_
  intro r23 k23 hr23
  try replace hs := hs.drewN k23
  refine L_assign rfl rfl ?_
  refine RL_then ?_
  refine W_ret' ?_
  refine Ex_then_ret ?_
  refine Ex_done1 rfl rfl ?_
  refine ⟨_, rfl, ⟨_, rfl, ?_⟩, hs.forget (Own.cons hb3 Own.nil)⟩
  unfold farF
  rw [hb, if_pos rfl, cn_fop]
  have ey : cn r18 = cn (fop .sub x s.x) := (Fs.cn hr18).trans (cn_fop ..).symm
  exact (Fs.cn hr23).trans (fop_congr ((Fs.cn hr21).trans ((fop_congr ey ey).trans (cn_fop ..).symm)) ew)
def aheadF (s : Stt) (t w : Nat) : Stt :=
 if gtZ t then ⟨fop .add s.x (fop .mul s.v t), s.v, aboveF (fop .add (fop .add (fop .add (fop .add s.p (fop .mul s.q t)) (fop .mul s.q t)) (fop .mul (fop .mul s.r t) t)) (fop .quo (fop .mul (fop .mul (fop .mul w t) t) t) 4613937818241073152)),
  fop .add (fop .add s.q (fop .mul s.r t)) (fop .quo (fop .mul (fop .mul w t) t) 4611686018427387904), fop .add s.r (fop .mul w t)⟩ else s
theorem aheadF_congr {s u : Stt} {t t' w : Nat} (h : s.c = u.c) (ht : cn t = cn t') : (aheadF s t w).c = (aheadF u t' w).c := by
 have h1 : cn s.x = cn u.x := congrArg Stt.x h
 have h2 : cn s.v = cn u.v := congrArg Stt.v h
 have h3 : cn s.p = cn u.p := congrArg Stt.p h
 have h4 : cn s.q = cn u.q := congrArg Stt.q h
 have h5 : cn s.r = cn u.r := congrArg Stt.r h
 unfold aheadF
 rw [gtZ_congr ht]
 split
 ·
  unfold Stt.c
  dsimp only
  have e1 : fop .mul s.v t = fop .mul u.v t' := fop_congr h2 ht
  have e2 : fop .mul s.q t = fop .mul u.q t' := fop_congr h4 ht
  have e3 : fop .mul s.r t = fop .mul u.r t' := fop_congr h5 ht
  have e4 : fop .mul w t = fop .mul w t' := fop_congr rfl ht
  rw [e1, e2, e3, e4, fop_congr (op := .add) h1 rfl, h2, fop_congr (op := .add) h3 rfl, fop_congr (op := .add) h4 rfl, fop_congr (op := .add) h5 rfl, fop_congr (op := .mul) (x := fop .mul u.r t') rfl ht, fop_congr (op := .mul) (x := fop .mul w t') rfl ht, fop_congr (op := .mul) (x := fop .mul (fop .mul w t') t') rfl ht]
 ·
  exact h
def SPA (f : FuncId) (args : Array Value) (v : Value) : Prop := match f, args.toList with
 | 51, [.float .f64 x] => v = .float .f64 (aboveF x)
 | _, _ => False
theorem aboveH {w0 w : World} {L : Bks} (hs : HS w0 w L) (x : Nat) : Ret Try.prog 51 [.float .f64 x] w fun v w' => SPA 51 [.float .f64 x].toArray v ∧ HS w0 w' L :=
 Calls.mono (above_ok x w) fun e w' => by
  rintro ⟨v, rfl, rfl, rfl⟩
  exact ⟨_, rfl, rfl, hs⟩
theorem ahead_ok (s : Stt) (t q : Nat) (w0 : World) : Ret Try.prog 23 [.agg s.cells.toArray, .float .f64 t, .float .f64 q] w0 fun v w' => (∃ u : Stt, v = .agg u.cells.toArray ∧ u.c = (aheadF s t q).c) ∧ HS w0 w' [] := by
 refine Ret.start fun w hs => ?_
 refine calls_of_W Try.func23 rfl rfl rfl ?_
 refine W_seq ?_
 refine W_region ?_
 refine L_box rfl hs rfl ?_
 intro b3 w hb3 hnb3 hs
 try dsimp only [List.set_cons_succ, List.set_cons_zero, List.cons_append, List.nil_append] at hs
 refine L_alloc rfl hs Try.ti46 ?_
 intro b6 w hb6 hnb6 hs
 try dsimp only [List.set_cons_succ, List.set_cons_zero, List.cons_append, List.nil_append] at hs
 refine RL_then ?_
 refine W_seq ?_
 refine W_seq ?_
 refine W_region ?_
 replace hs : HS w0 w [(b3, Row 46 s.cells), (b6, Row 46 [.float .f64 0, .float .f64 0, .float .f64 0, .float .f64 0, .float .f64 0])] := hs
 cases hb : gtZ t
 ·
  unfold gtZ at hb
  refine L_move rfl rfl ?_
  refine L_fcmp rfl rfl rfl (fun _ => by rw [binOp_float_cmp_gtr, hb]; rfl) ?_
  refine L_not rfl rfl ?_
  refine RL_then ?_
  refine W_if_true rfl ?_
  refine W_seq ?_
  refine W_region ?_
  refine L_loadA rfl Try.agg46 Try.ti46 rfl (by exact cellsAt_whole (cs := s.cells) (hs.get (i := 0) rfl)) ?_
  refine L_storeA hs (i := 1) rfl Try.ti46 rfl rfl (by first | rfl | exact add_lit0 _ _ | exact Addr.add_lit .. | (rw [add_add]; exact add_lit0 _ _)) (by simp [Stt.cells]) (by first | exact Stt.one s | simp [Value.oneCell']) ?_
  intro w hs
  try dsimp only [List.set_cons_succ, List.set_cons_zero, List.cons_append, List.nil_append] at hs
  refine RL_then ?_
  refine W_ret' ?_
  refine Ex_then_ret ?_
  refine Ex_doneC rfl rfl Try.agg46 Try.ti46 (by exact cellsAt_whole (cs := s.cells) (hs.get (i := 1) rfl)) ?_
  exact ⟨_, rfl, ⟨s, rfl, by unfold aheadF gtZ; rw [hb]; rfl⟩, hs.forget (Own.cons hb3 (Own.cons hb6 Own.nil))⟩
 ·
  have hb' := hb
  unfold gtZ at hb'
  refine L_move rfl rfl ?_
  refine L_fcmp rfl rfl rfl (fun _ => by rw [binOp_float_cmp_gtr, hb']; rfl) ?_
  refine L_not rfl rfl ?_
  refine RL_then ?_
  refine W_if_false rfl ?_
  refine W_skip' ?_
  refine Nx_then ?_
  refine W_seq ?_
  refine W_region ?_
  refine L_move rfl rfl ?_
  refine L_assign rfl rfl ?_
  refine RL_then ?_
  refine W_seq ?_
  refine W_sg Try.mixed ?_
  replace hs := hs.drewN 1
  refine SG_stageB [0, 2, 4, 6, 8, 9] [1, 3, 5, 7, 10, 11, 12, 13] [] (noBk SPA) (g' := 0) (by kernel_rfl) (by kernel_rfl) (fun _ _ _ _ _ h => h) hs ?_
  refine PL_val rfl (fun w => R_fieldAddr (off := 3) Try.underlying46 rfl rfl Try.ti23 rfl) ?_
  refine PL_val rfl (fun w => R_move rfl) ?_
  refine PL_val rfl (fun w => R_fieldAddr (off := 4) Try.underlying46 rfl rfl Try.ti23 rfl) ?_
  refine PL_val rfl (fun w => R_move rfl) ?_
  refine PL_val rfl (fun w => R_move rfl) ?_
  refine PL_val rfl (fun w => R_move rfl) ?_
  refine PL_endB ?_
  refine HB_val rfl (fun w R hR hs => R_load Try.one23 rfl (by exact hs.cell (i := 0) rfl rfl)) ?_
  refine HB_farith rfl (op := .mul) rfl rfl rfl ?_
  intro r20 hr20
  refine HB_val rfl (fun w R hR hs => R_load Try.one23 rfl (by exact hs.cell (i := 0) rfl rfl)) ?_
  refine HB_farith rfl (op := .mul) rfl rfl rfl ?_
  intro r24 hr24
  refine HB_farith rfl (op := .mul) rfl rfl rfl ?_
  intro r27 hr27
  refine HB_val rfl (fun w R hR hs => R_assign rfl) ?_
  refine HB_val rfl (fun w R hR hs => R_assign rfl) ?_
  refine HB_val rfl (fun w R hR hs => R_assign rfl) ?_
  refine HB_tail ?_
  intro w hs
  refine RL_sg ?_
  refine SG_end (by kernel_rfl) ?_
  refine Nx_then ?_
  refine W_seq ?_
  refine W_region ?_
  refine L_move rfl rfl ?_
  refine L_move rfl rfl ?_
  refine L_farith rfl (op := .mul) rfl rfl rfl ?_
  intro r30 k30 hr30
  try replace hs := hs.drewN k30
  refine L_assign rfl rfl ?_
  refine RL_then ?_
  refine W_seq ?_
  refine W_sg Try.mixed ?_
  replace hs := hs.drewN 1
  refine SG_stageB [0, 2, 4, 7, 9, 11, 13, 15, 16, 19, 20, 25, 27, 29, 32, 34] [1, 3, 5, 6, 8, 10, 12, 14, 17, 18, 21, 22, 23, 24, 26, 28, 30, 31, 33, 35, 36] [37] (noBk SPA) (g' := 0) (by kernel_rfl) (by kernel_rfl) (fun _ _ _ _ _ h => h) hs ?_
  refine PL_val rfl (fun w => R_fieldAddr (off := 0) Try.underlying46 rfl rfl Try.ti23 rfl) ?_
  refine PL_val rfl (fun w => R_fieldAddr (off := 1) Try.underlying46 rfl rfl Try.ti23 rfl) ?_
  refine PL_val rfl (fun w => R_move rfl) ?_
  refine PL_val rfl (fun w => R_fieldAddr (off := 1) Try.underlying46 rfl rfl Try.ti23 rfl) ?_
  refine PL_val rfl (fun w => R_fieldAddr (off := 2) Try.underlying46 rfl rfl Try.ti23 rfl) ?_
  refine PL_val rfl (fun w => R_move rfl) ?_
  refine PL_val rfl (fun w => R_move rfl) ?_
  refine PL_val rfl (fun w => R_move rfl) ?_
  refine PL_val rfl (fun w => R_move rfl) ?_
  refine PL_val rfl (fun w => R_move rfl) ?_
  refine PL_val rfl (fun w => R_move rfl) ?_
  refine PL_val rfl (fun w => R_fieldAddr (off := 3) Try.underlying46 rfl rfl Try.ti23 rfl) ?_
  refine PL_val rfl (fun w => R_move rfl) ?_
  refine PL_val rfl (fun w => R_move rfl) ?_
  refine PL_val rfl (fun w => R_fieldAddr (off := 4) Try.underlying46 rfl rfl Try.ti23 rfl) ?_
  refine PL_val rfl (fun w => R_move rfl) ?_
  refine PL_endB ?_
  refine HB_val rfl (fun w R hR hs => R_load Try.one23 rfl (by exact hs.cell (i := 0) rfl rfl)) ?_
  refine HB_val rfl (fun w R hR hs => R_load Try.one23 rfl (by exact hs.cell (i := 0) rfl rfl)) ?_
  refine HB_farith rfl (op := .mul) rfl rfl rfl ?_
  intro r36 hr36
  refine HB_farith rfl (op := .add) rfl rfl rfl ?_
  intro r37 hr37
  refine HB_val rfl (fun w R hR hs => R_load Try.one23 rfl (by exact hs.cell (i := 0) rfl rfl)) ?_
  refine HB_val rfl (fun w R hR hs => R_load Try.one23 rfl (by exact hs.cell (i := 0) rfl rfl)) ?_
  refine HB_farith rfl (op := .add) rfl rfl rfl ?_
  intro r43 hr43
  refine HB_farith rfl (op := .add) rfl rfl rfl ?_
  intro r45 hr45
  refine HB_farith rfl (op := .mul) rfl rfl rfl ?_
  intro r48 hr48
  refine HB_farith rfl (op := .add) rfl rfl rfl ?_
  intro r49 hr49
  refine HB_farith rfl (op := .mul) rfl rfl rfl ?_
  intro r52 hr52
  refine HB_farith rfl (op := .quo) rfl rfl rfl ?_
  intro r53 hr53
  refine HB_farith rfl (op := .add) rfl rfl rfl ?_
  intro r54 hr54
  refine HB_callH rfl Try.fun51 rfl (fun w R hR hs => aboveH hs _) ?_
  rintro _ rfl
  refine HB_val rfl (fun w R hR hs => R_load Try.one23 rfl (by exact hs.cell (i := 0) rfl rfl)) ?_
  refine HB_farith rfl (op := .add) rfl rfl rfl ?_
  intro r59 hr59
  refine HB_farith rfl (op := .quo) rfl rfl rfl ?_
  intro r61 hr61
  refine HB_farith rfl (op := .add) rfl rfl rfl ?_
  intro r62 hr62
  refine HB_val rfl (fun w R hR hs => R_load Try.one23 rfl (by exact hs.cell (i := 0) rfl rfl)) ?_
  refine HB_farith rfl (op := .add) rfl rfl rfl ?_
  intro r66 hr66
  refine HB_val rfl (fun w R hR hs => R_build rfl (Pl.built Try.pl46 rfl)) ?_
  refine HB_tail ?_
  intro w hs
  refine L_storeA hs (i := 1) rfl Try.ti46 rfl rfl (by first | rfl | exact add_lit0 _ _ | exact Addr.add_lit .. | (rw [add_add]; exact add_lit0 _ _)) (by simp [Stt.cells]) (by first | exact Stt.one s | simp [Value.oneCell']) ?_
  intro w hs
  try dsimp only [List.set_cons_succ, List.set_cons_zero, List.cons_append, List.nil_append] at hs
  refine RL_sg ?_
  refine SG_end (by kernel_rfl) ?_
  refine Nx_then ?_
  refine W_ret' ?_
  refine Ex_doneC rfl rfl Try.agg46 Try.ti46 (by exact cellsAt_whole (hs.get (i := 1) rfl)) ?_
  refine ⟨_, rfl, ⟨⟨r37, s.v, aboveF r54, r62, r66⟩, rfl, ?_⟩, hs.forget (Own.cons hb3 (Own.cons hb6 Own.nil))⟩
  unfold aheadF
  rw [hb, if_pos rfl]
  have c20 := (Fs.cn hr20).trans (cn_fop ..).symm
  have c24 := (Fs.cn hr24).trans (cn_fop ..).symm
  have c27 := (Fs.cn hr27).trans (cn_fop ..).symm
  have c30 : cn r30 = cn (fop .mul (fop .mul q t) t) := (Fs.cn hr30).trans ((fop_congr c27 rfl).trans (cn_fop ..).symm)
  have c43 : cn r43 = cn (fop .add s.p (fop .mul s.q t)) := (Fs.cn hr43).trans ((fop_congr rfl c20).trans (cn_fop ..).symm)
  have c45 : cn r45 = cn (fop .add (fop .add s.p (fop .mul s.q t)) (fop .mul s.q t)) := (Fs.cn hr45).trans ((fop_congr c43 c20).trans (cn_fop ..).symm)
  have c48 : cn r48 = cn (fop .mul (fop .mul s.r t) t) := (Fs.cn hr48).trans ((fop_congr c24 rfl).trans (cn_fop ..).symm)
  have c49 := (Fs.cn hr49).trans ((fop_congr c45 c48).trans (cn_fop ..).symm)
  have c52 : cn r52 = cn (fop .mul (fop .mul (fop .mul q t) t) t) := (Fs.cn hr52).trans ((fop_congr c30 rfl).trans (cn_fop ..).symm)
  have c53 := (Fs.cn hr53).trans ((fop_congr c52 rfl).trans (cn_fop ..).symm)
  have c54 := (Fs.cn hr54).trans ((fop_congr c49 c53).trans (cn_fop ..).symm)
  have c36 := (Fs.cn hr36).trans (cn_fop ..).symm
  have c37 := (Fs.cn hr37).trans ((fop_congr rfl c36).trans (cn_fop ..).symm)
  have c59 := (Fs.cn hr59).trans ((fop_congr rfl c24).trans (cn_fop ..).symm)
  have c61 := (Fs.cn hr61).trans ((fop_congr c30 rfl).trans (cn_fop ..).symm)
  have c62 := (Fs.cn hr62).trans ((fop_congr c59 c61).trans (cn_fop ..).symm)
  have c66 := (Fs.cn hr66).trans ((fop_congr rfl c27).trans (cn_fop ..).symm)
  show Stt.mk _ _ _ _ _ = Stt.mk _ _ _ _ _
  rw [c37, aboveF_congr c54, c62, c66]
end Go.Proofs.Ytdllakfojligjaa
