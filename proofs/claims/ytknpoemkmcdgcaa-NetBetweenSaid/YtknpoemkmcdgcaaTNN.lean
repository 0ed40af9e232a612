/-
  A part of the proof: what functions that the statement reaches do, or a plain law on what they do. Each theorem holds under its own premises alone.
-/
import Derived.Test.YtknpoemkmcdgcaaTNM
namespace Go.Proofs.Ytknpoemkmcdgcaa
open Go Go.Lk
/-! ### Both -/
def bN (p q : Nat) : Bool := FloatKind.f64.format.order (fop .add p q) 0 == some .gt
def bX (a p b q : Nat) : Nat := if bN p q then fop .add a (fop .mul (fop .sub b a) (fop .quo p (fop .add p q))) else a
def bP (p q : Nat) : Nat := if bN p q then fop .quo (fop .mul 4611686018427387904 (fop .mul p q)) (fop .add p q) else p
theorem both_ok (a p b q : Nat) (w0 : World) : Ret Try.prog 37 [.float .f64 a, .float .f64 p, .float .f64 b, .float .f64 q] w0 fun v w' => ∃ x y, v = .tuple #[.float .f64 x, .float .f64 y] ∧ HS w0 w' [] ∧ cn x = cn (bX a p b q) ∧ cn y = cn (bP p q) := by
  refine Ret.start fun w hs => ?_
  refine calls_of_W Try.func37 rfl rfl rfl ?_
  refine W_seq ?_
  refine W_region ?_
  refine L_assign rfl rfl ?_
  refine L_assign rfl rfl ?_
  refine RL_then ?_
  refine W_seq ?_
  refine W_region ?_
  refine L_move rfl rfl ?_
  refine L_move rfl rfl ?_
  refine L_farith rfl (op := .add) rfl rfl rfl ?_
  intro r13 k13 hr13
  try replace hs := hs.drewN k13
  refine L_assign rfl rfl ?_
  refine RL_then ?_
  refine W_seq ?_
  refine W_seq ?_
  refine W_region ?_
  refine L_move rfl rfl ?_
  have en : cn r13 = cn (fop .add p q) := (Fs.cn hr13).trans (cn_fop ..).symm
  cases hn : FloatKind.f64.format.order r13 0 == some .gt
  · have h0 : bN p q = false := by unfold bN; rw [← order_congr en rfl]; exact hn
    refine L_fcmp rfl rfl rfl (fun _ => by rw [binOp_float_cmp_gtr, hn]; rfl) ?_
    refine L_not rfl rfl ?_
    refine RL_then ?_
    refine W_if_true rfl ?_
    refine W_seq ?_
    refine W_region ?_
    refine L_move rfl rfl ?_
    refine L_move rfl rfl ?_
    refine L_assign rfl rfl ?_
    refine L_assign rfl rfl ?_
    refine RL_then ?_
    refine W_ret' ?_
    refine Ex_then_ret ?_
    refine Ex_done2 rfl rfl rfl ?_
    refine ⟨_, rfl, _, _, rfl, hs, ?_, ?_⟩
    · unfold bX; rw [h0, if_neg (by decide)]
    · unfold bP; rw [h0, if_neg (by decide)]
  · have h0 : bN p q = true := by unfold bN; rw [← order_congr en rfl]; exact hn
    refine L_fcmp rfl rfl rfl (fun _ => by rw [binOp_float_cmp_gtr, hn]; rfl) ?_
    refine L_not rfl rfl ?_
    refine RL_then ?_
    refine W_if_false rfl ?_
    refine W_skip' ?_
    refine Nx_then ?_
    refine W_seq ?_
    refine W_region ?_
    refine L_move rfl rfl ?_
    refine L_move rfl rfl ?_
    refine L_move rfl rfl ?_
    refine L_farith rfl (op := .sub) rfl rfl rfl ?_
    intro r22 k22 hr22
    try replace hs := hs.drewN k22
    refine L_move rfl rfl ?_
    refine L_move rfl rfl ?_
    refine L_farith rfl (op := .quo) rfl rfl rfl ?_
    intro r25 k25 hr25
    try replace hs := hs.drewN k25
    refine L_farith rfl (op := .mul) rfl rfl rfl ?_
    intro r26 k26 hr26
    try replace hs := hs.drewN k26
    refine L_farith rfl (op := .add) rfl rfl rfl ?_
    intro r27 k27 hr27
    try replace hs := hs.drewN k27
    refine L_move rfl rfl ?_
    refine L_move rfl rfl ?_
    refine L_farith rfl (op := .mul) rfl rfl rfl ?_
    intro r30 k30 hr30
    try replace hs := hs.drewN k30
    refine L_farith rfl (op := .mul) rfl rfl rfl ?_
    intro r31 k31 hr31
    try replace hs := hs.drewN k31
    refine L_move rfl rfl ?_
    refine L_farith rfl (op := .quo) rfl rfl rfl ?_
    intro r33 k33 hr33
    try replace hs := hs.drewN k33
    refine L_assign rfl rfl ?_
    refine L_assign rfl rfl ?_
    refine RL_then ?_
    refine W_ret' ?_
    refine Ex_done2 rfl rfl rfl ?_
    refine ⟨_, rfl, _, _, rfl, hs, ?_, ?_⟩
    · unfold bX
      rw [h0, if_pos rfl, cn_fop]
      exact (Fs.cn hr27).trans (fop_congr rfl ((Fs.cn hr26).trans ((fop_congr ((Fs.cn hr22).trans (cn_fop ..).symm) ((Fs.cn hr25).trans ((fop_congr rfl en).trans (cn_fop ..).symm))).trans (cn_fop ..).symm)))
    · unfold bP
      rw [h0, if_pos rfl, cn_fop]
      exact (Fs.cn hr33).trans (fop_congr ((Fs.cn hr31).trans ((fop_congr rfl ((Fs.cn hr30).trans (cn_fop ..).symm)).trans (cn_fop ..).symm)) en)
structure Sta where
  x : Nat
  v : Nat
  xx : Nat
  xv : Nat
  vv : Nat
def Sta.cells (s : Sta) : List Value := [.float .f64 s.x, .float .f64 s.v, .float .f64 s.xx, .float .f64 s.xv, .float .f64 s.vv]
theorem Both_ok (a b : Sta) (w0 : World) : Ret Try.prog 18 [.agg a.cells.toArray, .agg b.cells.toArray] w0 fun v w' => ∃ x y p q, v = .agg #[.float .f64 x, .float .f64 y, .float .f64 p, .float .f64 0, .float .f64 q] ∧ HS w0 w' [] ∧ cn x = cn (bX a.x a.xx b.x b.xx) ∧ cn p = cn (bP a.xx b.xx) ∧ cn y = cn (bX a.v a.vv b.v b.vv) ∧ cn q = cn (bP a.vv b.vv) := by
  refine Ret.start fun w hs => ?_
  refine calls_of_W Try.func18 rfl rfl rfl ?_
  refine W_seq ?_
  refine W_region ?_
  refine L_box rfl hs rfl ?_
  intro b2 w hb2 hnb2 hs
  try dsimp only [List.set_cons_succ, List.set_cons_zero, List.cons_append, List.nil_append] at hs
  refine L_box rfl hs rfl ?_
  intro b3 w hb3 hnb3 hs
  try dsimp only [List.set_cons_succ, List.set_cons_zero, List.cons_append, List.nil_append] at hs
  refine L_alloc rfl hs Try.ti45 ?_
  intro b4 w hb4 hnb4 hs
  try dsimp only [List.set_cons_succ, List.set_cons_zero, List.cons_append, List.nil_append] at hs
  refine RL_then ?_
  refine W_seq ?_
  refine W_region ?_
  refine L_alloc rfl hs Try.ti45 ?_
  intro b5 w hb5 hnb5 hs
  try dsimp only [List.set_cons_succ, List.set_cons_zero, List.cons_append, List.nil_append] at hs
  refine RL_then ?_
  refine W_seq ?_
  refine W_region ?_
  refine L_fieldAddr rfl (off := 0) Try.underlying45 rfl rfl Try.ti22 rfl ?_
  replace hs : HS w0 w [(b2, Row 45 a.cells), (b3, Row 45 b.cells), (b4, Row 45 [.float .f64 0, .float .f64 0, .float .f64 0, .float .f64 0, .float .f64 0]), (b5, Row 45 [.float .f64 0, .float .f64 0, .float .f64 0, .float .f64 0, .float .f64 0])] := hs
  refine L_load rfl Try.one22 rfl (by first | exact hs.cell (i := 0) rfl rfl | exact hs.cell (i := 1) rfl rfl) ?_
  refine L_fieldAddr rfl (off := 2) Try.underlying45 rfl rfl Try.ti22 rfl ?_
  refine L_load rfl Try.one22 rfl (by first | exact hs.cell (i := 0) rfl rfl | exact hs.cell (i := 1) rfl rfl) ?_
  refine L_fieldAddr rfl (off := 0) Try.underlying45 rfl rfl Try.ti22 rfl ?_
  refine L_load rfl Try.one22 rfl (by first | exact hs.cell (i := 0) rfl rfl | exact hs.cell (i := 1) rfl rfl) ?_
  refine L_fieldAddr rfl (off := 2) Try.underlying45 rfl rfl Try.ti22 rfl ?_
  refine L_load rfl Try.one22 rfl (by first | exact hs.cell (i := 0) rfl rfl | exact hs.cell (i := 1) rfl rfl) ?_
  refine L_call rfl Try.fun37 rfl (both_ok _ _ _ _ w) ?_
  rintro _ w1 ⟨x, p, rfl, hs', hx, hp⟩
  replace hs := hs.nil hs'
  clear hs'
  refine L_move rfl rfl ?_
  refine L_extract rfl rfl rfl ?_
  refine L_extract rfl rfl rfl ?_
  refine L_fieldAddr rfl (off := 0) Try.underlying45 rfl rfl Try.ti22 rfl ?_
  refine L_store hs (i := 3) rfl Try.ti22 rfl rfl (by first | rfl | exact add_lit0 _ _ | exact Addr.add_lit .. | (rw [add_add]; exact add_lit0 _ _)) (by simp) rfl ?_
  intro w hs
  try dsimp only [List.set_cons_succ, List.set_cons_zero, List.cons_append, List.nil_append] at hs
  refine L_fieldAddr rfl (off := 2) Try.underlying45 rfl rfl Try.ti22 rfl ?_
  refine L_store hs (i := 3) rfl Try.ti22 rfl rfl (by first | rfl | exact add_lit0 _ _ | exact Addr.add_lit .. | (rw [add_add]; exact add_lit0 _ _)) (by simp) rfl ?_
  intro w hs
  try dsimp only [List.set_cons_succ, List.set_cons_zero, List.cons_append, List.nil_append] at hs
  refine RL_then ?_
  refine W_seq ?_
  refine W_region ?_
  refine L_fieldAddr rfl (off := 1) Try.underlying45 rfl rfl Try.ti22 rfl ?_
  refine L_load rfl Try.one22 rfl (by first | exact hs.cell (i := 0) rfl rfl | exact hs.cell (i := 1) rfl rfl) ?_
  refine L_fieldAddr rfl (off := 4) Try.underlying45 rfl rfl Try.ti22 rfl ?_
  refine L_load rfl Try.one22 rfl (by first | exact hs.cell (i := 0) rfl rfl | exact hs.cell (i := 1) rfl rfl) ?_
  refine L_fieldAddr rfl (off := 1) Try.underlying45 rfl rfl Try.ti22 rfl ?_
  refine L_load rfl Try.one22 rfl (by first | exact hs.cell (i := 0) rfl rfl | exact hs.cell (i := 1) rfl rfl) ?_
  refine L_fieldAddr rfl (off := 4) Try.underlying45 rfl rfl Try.ti22 rfl ?_
  refine L_load rfl Try.one22 rfl (by first | exact hs.cell (i := 0) rfl rfl | exact hs.cell (i := 1) rfl rfl) ?_
  refine L_call rfl Try.fun37 rfl (both_ok _ _ _ _ _) ?_
  rintro _ w1 ⟨y, q, rfl, hs', hy, hq⟩
  replace hs := hs.nil hs'
  clear hs'
  refine L_move rfl rfl ?_
  refine L_extract rfl rfl rfl ?_
  refine L_extract rfl rfl rfl ?_
  refine L_fieldAddr rfl (off := 1) Try.underlying45 rfl rfl Try.ti22 rfl ?_
  refine L_store hs (i := 3) rfl Try.ti22 rfl rfl (by first | rfl | exact add_lit0 _ _ | exact Addr.add_lit .. | (rw [add_add]; exact add_lit0 _ _)) (by simp) rfl ?_
  intro w hs
  try dsimp only [List.set_cons_succ, List.set_cons_zero, List.cons_append, List.nil_append] at hs
  refine L_fieldAddr rfl (off := 4) Try.underlying45 rfl rfl Try.ti22 rfl ?_
  refine L_store hs (i := 3) rfl Try.ti22 rfl rfl (by first | rfl | exact add_lit0 _ _ | exact Addr.add_lit .. | (rw [add_add]; exact add_lit0 _ _)) (by simp) rfl ?_
  intro w hs
  try dsimp only [List.set_cons_succ, List.set_cons_zero, List.cons_append, List.nil_append] at hs
  refine RL_then ?_
  refine W_seq ?_
  refine W_region ?_
  replace hs : HS w0 w [(b2, Row 45 a.cells), (b3, Row 45 b.cells), (b4, Row 45 [.float .f64 0, .float .f64 0, .float .f64 0, .float .f64 0, .float .f64 0]), (b5, Row 45 [.float .f64 x, .float .f64 y, .float .f64 p, .float .f64 0, .float .f64 q])] := hs
  refine L_loadA rfl Try.agg45 Try.ti45 rfl (by exact cellsAt_whole (cs := [.float .f64 x, .float .f64 y, .float .f64 p, .float .f64 0, .float .f64 q]) (hs.get (i := 3) rfl)) ?_
  refine L_storeA hs (i := 2) rfl Try.ti45 rfl rfl (by first | rfl | exact add_lit0 _ _ | exact Addr.add_lit .. | (rw [add_add]; exact add_lit0 _ _)) (by simp) (by first | (simp; done) | simp [Value.oneCell']) ?_
  intro w hs
  try dsimp only [List.set_cons_succ, List.set_cons_zero, List.cons_append, List.nil_append] at hs
  refine RL_then ?_
  refine W_ret' ?_
  refine Ex_doneC rfl rfl Try.agg45 Try.ti45 (by exact cellsAt_whole (cs := [.float .f64 x, .float .f64 y, .float .f64 p, .float .f64 0, .float .f64 q]) (hs.get (i := 2) rfl)) ?_
  exact ⟨_, rfl, x, y, p, q, rfl, hs.forget (Own.cons hb2 (Own.cons hb3 (Own.cons hb4 (Own.cons hb5 Own.nil)))), hx, hp, hy, hq⟩
theorem track_ok (x y : Nat) (w0 : World) : Ret Try.prog 16 [.float .f64 x, .float .f64 y] w0 fun v w' => v = .agg (trk x y).cells.toArray ∧ HS w0 w' [] := by
  refine Ret.start fun w hs => ?_
  refine calls_of_W Try.func16 rfl rfl rfl ?_
  refine W_seq ?_
  refine W_region ?_
  refine L_alloc rfl hs Try.ti48 ?_
  intro b4 w hb4 hnb4 hs
  try dsimp only [List.set_cons_succ, List.set_cons_zero, List.cons_append, List.nil_append] at hs
  refine RL_then ?_
  refine W_seq ?_
  refine W_region ?_
  refine L_move rfl rfl ?_
  refine L_build rfl rfl (Pl.built Try.pl45 rfl) ?_
  refine L_move rfl rfl ?_
  refine L_build rfl rfl (Pl.built Try.pl45 rfl) ?_
  refine L_build rfl rfl (Pl.builtN Try.pl48 rfl) ?_
  skip
  refine L_storeA (vs := (trk x y).cells) hs (i := 0) rfl Try.ti48 rfl rfl rfl (by simp [Tk.cells]) (Tk.one _) ?_
  intro w hs
  replace hs : HS w0 w [(b4, Row 48 (trk x y).cells)] := hs
  refine RL_then ?_
  refine W_ret' ?_
  refine Ex_doneC rfl rfl Try.agg48 Try.ti48 (by exact cellsAt_whole (cs := (trk x y).cells) (hs.get (i := 0) rfl)) ?_
  exact ⟨_, rfl, rfl, hs.forget (Own.cons hb4 Own.nil)⟩
/-! ### The chapter's own wakes -/
theorem most_empty' {ms : List Int} {cnt t e : Int} (h : MostAns [[]] ms cnt t e) : ms = [-1] := most_empty h
def w0S : ST := ⟨4632233691727265792, 0, 0, 0, [0]⟩
def w1S : ST := ⟨4632515166703976448, 0, 0, 0, [1]⟩
theorem wk_own0 {a : Option Addr} {c : Nat} {r2 : Rd} : ownS [⟨0, 0, 0, a, c, [trk 4632233691727265792 0]⟩, r2] 0 = [w0S] := by
  show [newS ⟨0, 0, 0, a, c, _⟩ 0 (trk 4632233691727265792 0)] = _
  unfold newS
  show [ST.mk (mvX 0 0 4632233691727265792 0) (mvY 0 0 4632233691727265792 0) (mvX 0 0 0 0) (mvY 0 0 0 0) [((0 : Nat) : Int)]] = _
  rw [show mvX 0 0 4632233691727265792 0 = 4632233691727265792 by decide +kernel, show mvY 0 0 4632233691727265792 0 = 0 by decide +kernel, show mvX 0 0 0 0 = 0 by decide +kernel, show mvY 0 0 0 0 = 0 by decide +kernel]
  rfl
theorem wk_own1 {a : Option Addr} {c : Nat} {r1 : Rd} : ownS [r1, ⟨4636737291354636288, 0, 0, a, c, [trk 13855324253605330944 0]⟩] 1 = [w1S] := by
  show [newS ⟨4636737291354636288, 0, 0, a, c, _⟩ 1 (trk 13855324253605330944 0)] = _
  unfold newS
  show [ST.mk (mvX 4636737291354636288 0 13855324253605330944 0) (mvY 0 0 13855324253605330944 0) (mvX 0 0 0 0) (mvY 0 0 0 0) [((1 : Nat) : Int)]] = _
  rw [show mvX 4636737291354636288 0 13855324253605330944 0 = 4632515166703976448 by decide +kernel, show mvY 0 0 13855324253605330944 0 = 0 by decide +kernel, show mvX 0 0 0 0 = 0 by decide +kernel, show mvY 0 0 0 0 = 0 by decide +kernel]
  rfl
theorem wk_things {a1 a2 : Option Addr} {c1 c2 : Nat} {rs : List Rd} {S : List ST} (hrs : rs = [⟨0, 0, 0, a1, c1, [trk 4632233691727265792 0]⟩, ⟨4636737291354636288, 0, 0, a2, c2, [trk 13855324253605330944 0]⟩]) (h : FusTo 4621819117588971520 rs 2 S) :
    S.map prt = [⟨4632374429215621120, 0, 0, 0, [0, 1]⟩] := by
  subst hrs
  cases h with
  | step h hi hm =>
    cases h with
    | step h0 hi0 hm0 =>
      cases h0
      have r0 : rowsS 4621819117588971520 [⟨0, 0, 0, a1, c1, [trk 4632233691727265792 0]⟩, ⟨4636737291354636288, 0, 0, a2, c2, [trk 13855324253605330944 0]⟩] 0 [] = [[]] := by
        unfold rowsS; rw [wk_own0]; rfl
      rw [r0] at hm0
      obtain rfl := most_empty hm0
      rw [wk_own0] at hm ⊢
      have s1 : (([w0S].zip [-1]).foldl (stp 0) [] : List ST) = [w0S] := rfl
      rw [s1] at hm ⊢
      have r1 : rowsS 4621819117588971520 [⟨0, 0, 0, a1, c1, [trk 4632233691727265792 0]⟩, ⟨4636737291354636288, 0, 0, a2, c2, [trk 13855324253605330944 0]⟩] 1 [w0S] = [[41943]] := by
        unfold rowsS; rw [wk_own1]
        show [[costF 4621819117588971520 4632515166703976448 0 4632233691727265792 0 1]] = _
        rw [show costF 4621819117588971520 4632515166703976448 0 4632233691727265792 0 1 = 41943 by decide +kernel]
      rw [r1] at hm
      obtain rfl := most_one hm
      rw [wk_own1]
      show [prt (mrgS 1 w0S w1S)] = _
      show [ST.mk (fop .quo (fop .add 4632233691727265792 4632515166703976448) (FloatKind.f64.nearest 2)) (fop .quo (fop .add 0 0) (FloatKind.f64.nearest 2)) (fop .quo (fop .add 0 0) (FloatKind.f64.nearest 2)) (fop .quo (fop .add 0 0) (FloatKind.f64.nearest 2)) [0, 1]] = _
      rw [show fop .quo (fop .add 4632233691727265792 4632515166703976448) (FloatKind.f64.nearest 2) = 4632374429215621120 by decide +kernel, show fop .quo (fop .add 0 0) (FloatKind.f64.nearest 2) = 0 by decide +kernel]
theorem wakes_ok (w0 : World) : Ret Try.prog 11 [] w0 fun v w' => v = .bool true ∧ HS w0 w' [] := by
  refine Ret.start fun w hs => ?_
  refine calls_of_W Try.func11 rfl rfl rfl ?_
  refine W_seq ?_
  refine W_region ?_
  refine L_assign rfl rfl ?_
  refine RL_then ?_
  refine W_seq ?_
  refine W_region ?_
  refine L_call rfl Try.fun12 rfl (newG 4621819117588971520 w (by decide)) ?_
  rintro _ w1 (⟨_, B, rfl, hs', hB⟩ | ⟨h, _⟩)
  case inr => exact absurd (by decide +kernel) h
  have hBw := hB
  replace hB := Nat.le_trans hs.size hB
  replace hs : HS w0 w1 (nbs B 4621819117588971520 (.slice none 0 0) [] [] ++ []) := hs.call hs' (Own.cons hBw Own.nil)
  clear hs' hBw
  have hN : NetOk w0 B (.slice none 0 0) [] [] := ⟨hB, .nil, fun _ h => absurd h List.not_mem_nil, by decide⟩
  refine L_move rfl rfl ?_
  refine L_extract rfl rfl rfl ?_
  refine L_extract rfl rfl rfl ?_
  refine L_assign rfl rfl ?_
  refine L_assign rfl rfl ?_
  refine RL_then ?_
  refine W_seq ?_
  refine W_seq ?_
  refine W_region ?_
  refine L_move rfl rfl ?_
  first | refine L_neq rfl rfl rfl (dtrue (by omega)) ?_ | refine L_neq rfl rfl rfl (dfalse (by omega)) ?_ | refine L_neq rfl rfl rfl rfl ?_
  refine L_move rfl rfl ?_
  first | (refine RL_want rfl rfl ?_; refine L_move rfl rfl ?_) | refine RL_skip rfl rfl rfl rfl ?_ | refine RL_skipU rfl rfl rfl ?_
  first | (refine RL_want rfl rfl ?_; refine L_ptrNil rfl Try.underlying26 rfl rfl ?_) | refine RL_skip rfl rfl rfl rfl ?_ | refine RL_skipU rfl rfl rfl ?_
  first | refine L_pick_t rfl rfl rfl ?_ | refine L_pick_f rfl rfl rfl ?_
  refine RL_then ?_
  refine W_if_false rfl ?_
  refine W_skip' ?_
  refine Nx_then ?_
  refine W_seq ?_
  refine W_region ?_
  refine L_move rfl rfl ?_
  refine L_build rfl rfl (Pl.built Try.pl37 rfl) ?_
  refine L_call rfl Try.fun20 rfl (addG w0 w1 B 4621819117588971520 (.slice none 0 0) [] [] [] 0 0 0 hs hN (by decide) (by decide) (by decide)) ?_
  rintro _ w2 (⟨_, v1, M1, rfl, hs2, hN1⟩ | ⟨h, _⟩)
  case inr => exact absurd (by decide +kernel) h
  clear hs hN; have hs := hs2; clear hs2
  obtain ⟨ms1, hms1⟩ : ∃ ms1, ms1 = [] ++ [RM.mk ⟨0, 0, 0, none, 0, []⟩ []] := ⟨_, rfl⟩
  rw [← hms1] at hs hN1
  have hml1 : ms1.length = 1 := by rw [hms1]; rfl
  refine L_move rfl rfl ?_
  refine L_extract rfl rfl rfl ?_
  refine L_extract rfl rfl rfl ?_
  refine L_assign rfl rfl ?_
  refine L_assign rfl rfl ?_
  refine RL_then ?_
  refine W_seq ?_
  refine W_region ?_
  refine L_move rfl rfl ?_
  refine L_build rfl rfl (Pl.built Try.pl35 rfl) ?_
  refine L_build rfl rfl (Pl.builtN Try.pl37 rfl) ?_
  refine L_call rfl Try.fun20 rfl (addG w0 w2 B 4621819117588971520 v1 M1 [] ms1 4636737291354636288 0 0 hs hN1 (by decide) (by decide) (by decide)) ?_
  rintro _ w3 (⟨_, v2, M2, rfl, hs2, hN2⟩ | ⟨h, _⟩)
  case inr => rw [hml1] at h; exact absurd (by decide +kernel) h
  clear hs hN1; have hs := hs2; clear hs2
  rw [hml1]
  obtain ⟨ms, hms⟩ : ∃ ms, ms = ms1 ++ [RM.mk ⟨4636737291354636288, 0, 0, none, 0, []⟩ []] := ⟨_, rfl⟩
  rw [← hms] at hs hN2
  have hml : ms.length = 2 := by rw [hms, List.length_append, hml1]; rfl
  have hmr : rds ms = [⟨0, 0, 0, none, 0, []⟩, ⟨4636737291354636288, 0, 0, none, 0, []⟩] := by rw [hms, hms1]; rfl
  refine L_move rfl rfl ?_
  refine L_extract rfl rfl rfl ?_
  refine L_extract rfl rfl rfl ?_
  refine L_assign rfl rfl ?_
  refine L_assign rfl rfl ?_
  refine RL_then ?_
  refine W_seq ?_
  refine W_region ?_
  refine L_move rfl rfl ?_
  refine L_call rfl Try.fun16 rfl (track_ok 4632233691727265792 0 w3) ?_
  rintro _ w4 ⟨rfl, hs'⟩
  replace hs := hs.nil hs'
  clear hs'
  refine L_buildSlice rfl hs Try.underlying38 Try.ti48 rfl (by decide) rfl (by first | (simp [Value.cells]; done) | (simp [Value.cells]; rfl)) ?_
  intro b36 w hb36 hnb36 hs
  try simp only [List.flatMap_cons, List.flatMap_nil, cells_int, cells_float, cells_complex, cells_bool, cells_string, cells_pointer, cells_slice, cells_map, cells_agg, List.append_nil, List.set_cons_succ, List.set_cons_zero, List.cons_append, List.nil_append] at hs
  replace hs : HS w0 w (nbs B 4621819117588971520 v2 M2 ms ++ [(b36, Row 48 (tcs [trk 4632233691727265792 0]))]) := hs
  have hlt0 : ∀ x, x < 18446744073709551616 → ∀ i, i < 1 → TkLt ([trk x 0].getD i tk0) := fun x hx i hi => by
    match i, hi with
    | 0, _ => exact ⟨hx, (show (0 : Nat) < 18446744073709551616 by decide), (show (0 : Nat) < 18446744073709551616 by decide), (show (0 : Nat) < 18446744073709551616 by decide)⟩
  refine L_call rfl Try.fun21 rfl (tellG w0 w B 4621819117588971520 v2 M2 _ ms 0 (some ⟨b36, 0, none⟩) 1 1 [trk 4632233691727265792 0] hs hN2 (Own.cons hb36 Own.nil) (fun w' L' hs' _ hp => SlC.of_row (sp := []) (by rw [List.append_nil]; exact hs'.has _ (hp _ (List.mem_append_right _ (List.mem_singleton.2 rfl))))) rfl (by decide) (hlt0 _ (by decide))) ?_
  rintro _ w5 ⟨rfl, ⟨h, _⟩ | ⟨_, q1, a3, c3, M3, ms3, hq1, _, hs2, hN3, hr3⟩⟩
  case inl => rw [hml] at h; exact absurd (by decide +kernel) h
  obtain rfl : q1 = 0 := by omega
  rw [hmr] at hr3
  replace hs := hs2.dropR (Own.cons hb36 Own.nil)
  clear hs2 hN2
  have hml3 : ms3.length = 2 := by have := congrArg List.length hr3; rwa [rds_len] at this
  rw [hml, show tellE 2 0 [trk 4632233691727265792 0] = 0 by decide +kernel]
  refine L_assign rfl rfl ?_
  refine RL_then ?_
  refine W_seq ?_
  refine W_region ?_
  refine L_move rfl rfl ?_
  refine L_call rfl Try.fun16 rfl (track_ok 13855324253605330944 0 w5) ?_
  rintro _ w6 ⟨rfl, hs'⟩
  replace hs := hs.nil hs'
  clear hs'
  refine L_buildSlice rfl hs Try.underlying38 Try.ti48 rfl (by decide) rfl (by first | (simp [Value.cells]; done) | (simp [Value.cells]; rfl)) ?_
  intro b40 w hb40 hnb40 hs
  try simp only [List.flatMap_cons, List.flatMap_nil, cells_int, cells_float, cells_complex, cells_bool, cells_string, cells_pointer, cells_slice, cells_map, cells_agg, List.append_nil, List.set_cons_succ, List.set_cons_zero, List.cons_append, List.nil_append] at hs
  replace hs : HS w0 w (nbs B 4621819117588971520 v2 M3 ms3 ++ [(b40, Row 48 (tcs [trk 13855324253605330944 0]))]) := by
    have : HS w0 w ((nbs B 4621819117588971520 v2 M3 ms3) ++ [(b40, Row 48 (trk 13855324253605330944 0).cells)]) := hs
    exact this
  refine L_call rfl Try.fun21 rfl (tellG w0 w B 4621819117588971520 v2 M3 _ ms3 1 (some ⟨b40, 0, none⟩) 1 1 [trk 13855324253605330944 0] hs hN3 (Own.cons hb40 Own.nil) (fun w' L' hs' _ hp => SlC.of_row (sp := []) (by rw [List.append_nil]; exact hs'.has _ (hp _ (List.mem_append_right _ (List.mem_singleton.2 rfl))))) rfl (by decide) (hlt0 _ (by decide))) ?_
  rintro _ w7 ⟨rfl, ⟨h, _⟩ | ⟨_, q1, a4, c4, M4, ms4, hq1, _, hs2, hN4, hr4⟩⟩
  case inl => rw [hml3] at h; exact absurd (by decide +kernel) h
  obtain rfl : q1 = 1 := by omega
  rw [hr3] at hr4
  replace hs := hs2.dropR (Own.cons hb40 Own.nil)
  clear hs2 hN3
  have hml4 : ms4.length = 2 := by have := congrArg List.length hr4; rwa [rds_len] at this
  rw [hml3, show tellE 2 1 [trk 13855324253605330944 0] = 0 by decide +kernel]
  have hr5 : rds ms4 = [⟨0, 0, 0, a3, c3, [trk 4632233691727265792 0]⟩, ⟨4636737291354636288, 0, 0, a4, c4, [trk 13855324253605330944 0]⟩] := hr4
  refine L_assign rfl rfl ?_
  refine RL_then ?_
  refine W_seq ?_
  refine W_region ?_
  refine L_move rfl rfl ?_
  refine L_call rfl Try.fun22 rfl (fusedG w0 w7 B 4621819117588971520 v2 M4 [] ms4 (HS.re hs (fun c => by simp only [List.map_append, List.map_cons, List.map_nil, List.sum_append, List.sum_cons, List.sum_nil]; omega)) hN4 (FarOk.of (by decide) (by decide +kernel))) ?_
  rintro v9 w8 ⟨S, fs, Mo, hF, hfm, hbo, hfb, hs2, hfl, _⟩
  rw [hr5, hml4] at hF
  rw [wk_things rfl hF] at hfm
  clear hs; have hs := hs2; clear hs2
  obtain ⟨f, rfl⟩ : ∃ f, fs = [f] := by
    have h1 : fs.length = 1 := by have := congrArg List.length hfm; rwa [List.length_map] at this
    match fs, h1 with
    | [f], _ => exact ⟨f, rfl⟩
  have hfs : f.s = ⟨4632374429215621120, 0, 0, 0, [0, 1]⟩ := List.cons.inj hfm |>.1
  have hax : f.ax = 4632374429215621120 := cn_same ((congrArg ST.ax hfs).trans (by decide +kernel)) (by decide +kernel)
  have hay : f.ay = 0 := cn_same ((congrArg ST.ay hfs).trans (by decide +kernel)) (by decide +kernel)
  have hse : f.seen = [0, 1] := congrArg ST.seen hfs
  have hfb1 := hfb f (List.mem_singleton.2 rfl)
  rw [hse] at hfb1
  obtain ⟨gs, cs, ss, hfv, hfM, hgs, hsl, hcs⟩ := hfb1.own_row (by decide)
  replace hbo : Bl w0 64 5 v9 1 (fcs [f]) Mo := hbo
  obtain ⟨go, co, so, rfl, rfl, hgo, hol, hco⟩ := hbo.own_row (by decide)
  have hce : fcs [f] = [.float .f64 4632374429215621120, .float .f64 0, .float .f64 f.vx, .float .f64 f.vy, .slice (some ⟨gs, 0, none⟩) 2 cs] := by
    show f.cells ++ [] = _
    rw [List.append_nil]
    unfold Th.cells
    rw [hax, hay, hfv]; rfl
  rw [hce, show fms [f] = f.M ++ [] from rfl, hfM] at hs
  replace hs : HS w0 w8 ((nbs B 4621819117588971520 v2 M4 ms4 ++ []) ++ ([(go, Row 64 ([.float .f64 4632374429215621120, .float .f64 0, .float .f64 f.vx, .float .f64 f.vy, .slice (some ⟨gs, 0, none⟩) 2 cs] ++ so))] ++ [(gs, Row 3 ([.int .i64 0, .int .i64 1] ++ ss))])) := hs
  replace hs : HS w0 w8 ((go, Row 64 ([.float .f64 4632374429215621120, .float .f64 0, .float .f64 f.vx, .float .f64 f.vy, .slice (some ⟨gs, 0, none⟩) 2 cs] ++ so)) :: (gs, Row 3 ([.int .i64 0, .int .i64 1] ++ ss)) :: (nbs B 4621819117588971520 v2 M4 ms4)) := HS.re hs (fun c => by simp only [List.map_append, List.map_cons, List.map_nil, List.sum_append, List.sum_cons, List.sum_nil]; omega)
  refine L_assign rfl rfl ?_
  refine RL_then ?_
  refine W_seq ?_
  refine W_region ?_
  refine L_build rfl rfl (Pl.built Try.pl45 rfl) ?_
  refine L_build rfl rfl (Pl.built Try.pl45 rfl) ?_
  refine L_call rfl Try.fun18 rfl (Both_ok ⟨0, 0, 4607182418800017408, 0, 0⟩ ⟨4616189618054758400, 0, 4613937818241073152, 0, 0⟩ w8) ?_
  rintro _ w9 ⟨x, y, p, q, rfl, hs', hx, hp, hy, hq⟩
  replace hs := hs.nil hs'
  clear hs'
  obtain rfl : x = 4607182418800017408 := cn_same (hx.trans (by decide +kernel)) (by decide +kernel)
  obtain rfl : p = 4609434218613702656 := cn_same (hp.trans (by decide +kernel)) (by decide +kernel)
  refine L_alloc rfl hs Try.ti45 ?_; intro b10 w hb10 _ hs; replace hs := HS.push hs
  refine L_storeA hs (i := 0) rfl Try.ti45 rfl rfl (by first | rfl | exact add_lit0 _ _ | exact Addr.add_lit .. | (rw [add_add]; exact add_lit0 _ _)) (by simp) (by first | (simp; done) | simp [Value.oneCell']) ?_
  intro w hs
  try dsimp only [List.set_cons_succ, List.set_cons_zero, List.cons_append, List.nil_append] at hs
  refine RL_then ?_
  refine W_seq ?_
  refine W_seq ?_
  refine W_region ?_
  replace hs : HS w0 w ((b10, Row 45 [.float .f64 4607182418800017408, .float .f64 y, .float .f64 4609434218613702656, .float .f64 0, .float .f64 q]) :: (go, Row 64 ([.float .f64 4632374429215621120, .float .f64 0, .float .f64 f.vx, .float .f64 f.vy, .slice (some ⟨gs, 0, none⟩) 2 cs] ++ so)) :: (gs, Row 3 ([.int .i64 0, .int .i64 1] ++ ss)) :: (nbs B 4621819117588971520 v2 M4 ms4)) := hs
  have o1 : (FloatKind.f64.format.order 4632374429215621120 4632374429215621120 == some .eq) = true := by decide +kernel
  have o2 : (FloatKind.f64.format.order 0 0 == some .eq) = true := by decide +kernel
  have o3 : (FloatKind.f64.format.order 4607182418800017408 4607182418800017408 == some .eq) = true := by decide +kernel
  have o4 : (FloatKind.f64.format.order 4609434218613702656 4609434218613702656 == some .eq) = true := by decide +kernel
  refine L_move rfl rfl ?_
  first | refine L_neq rfl rfl rfl (dtrue (by omega)) ?_ | refine L_neq rfl rfl rfl (dfalse (by omega)) ?_ | refine L_neq rfl rfl rfl rfl ?_
  refine L_move rfl rfl ?_
  first | (refine RL_want rfl rfl ?_; refine L_move rfl rfl ?_) | refine RL_skip rfl rfl rfl rfl ?_ | refine RL_skipU rfl rfl rfl ?_
  first | (refine RL_want rfl rfl ?_; (first | refine L_neq rfl rfl rfl (dtrue (by omega)) ?_ | refine L_neq rfl rfl rfl (dfalse (by omega)) ?_ | refine L_neq rfl rfl rfl rfl ?_)) | refine RL_skip rfl rfl rfl rfl ?_ | refine RL_skipU rfl rfl rfl ?_
  first | refine L_pick_t rfl rfl rfl ?_ | refine L_pick_f rfl rfl rfl ?_
  refine L_move rfl rfl ?_
  first | (refine RL_want rfl rfl ?_; refine L_move rfl rfl ?_) | refine RL_skip rfl rfl rfl rfl ?_ | refine RL_skipU rfl rfl rfl ?_
  first | (refine RL_want rfl rfl ?_; (first | refine L_neq rfl rfl rfl (dtrue (by omega)) ?_ | refine L_neq rfl rfl rfl (dfalse (by omega)) ?_ | refine L_neq rfl rfl rfl rfl ?_)) | refine RL_skip rfl rfl rfl rfl ?_ | refine RL_skipU rfl rfl rfl ?_
  first | refine L_pick_t rfl rfl rfl ?_ | refine L_pick_f rfl rfl rfl ?_
  refine L_move rfl rfl ?_
  first | (refine RL_want rfl rfl ?_; refine L_move rfl rfl ?_) | refine RL_skip rfl rfl rfl rfl ?_ | refine RL_skipU rfl rfl rfl ?_
  first | (refine RL_want rfl rfl ?_; (first | refine L_neq rfl rfl rfl (dtrue (by omega)) ?_ | refine L_neq rfl rfl rfl (dfalse (by omega)) ?_ | refine L_neq rfl rfl rfl rfl ?_)) | refine RL_skip rfl rfl rfl rfl ?_ | refine RL_skipU rfl rfl rfl ?_
  first | refine L_pick_t rfl rfl rfl ?_ | refine L_pick_f rfl rfl rfl ?_
  refine L_move rfl rfl ?_
  first | (refine RL_want rfl rfl ?_; refine L_move rfl rfl ?_) | refine RL_skip rfl rfl rfl rfl ?_ | refine RL_skipU rfl rfl rfl ?_
  first | (refine RL_want rfl rfl ?_; (first | refine L_neq rfl rfl rfl (dtrue (by omega)) ?_ | refine L_neq rfl rfl rfl (dfalse (by omega)) ?_ | refine L_neq rfl rfl rfl rfl ?_)) | refine RL_skip rfl rfl rfl rfl ?_ | refine RL_skipU rfl rfl rfl ?_
  first | refine L_pick_t rfl rfl rfl ?_ | refine L_pick_f rfl rfl rfl ?_
  refine L_move rfl rfl ?_
  first | (refine RL_want rfl rfl ?_; refine L_move rfl rfl ?_) | refine RL_skip rfl rfl rfl rfl ?_ | refine RL_skipU rfl rfl rfl ?_
  first | (refine RL_want rfl rfl ?_; (first | refine L_neq rfl rfl rfl (dtrue (by omega)) ?_ | refine L_neq rfl rfl rfl (dfalse (by omega)) ?_ | refine L_neq rfl rfl rfl rfl ?_)) | refine RL_skip rfl rfl rfl rfl ?_ | refine RL_skipU rfl rfl rfl ?_
  first | refine L_pick_t rfl rfl rfl ?_ | refine L_pick_f rfl rfl rfl ?_
  refine L_move rfl rfl ?_
  first | (refine RL_want rfl rfl ?_; refine L_move rfl rfl ?_) | refine RL_skip rfl rfl rfl rfl ?_ | refine RL_skipU rfl rfl rfl ?_
  first | (refine RL_want rfl rfl ?_; refine L_len rfl Try.underlying55 rfl ?_) | refine RL_skip rfl rfl rfl rfl ?_ | refine RL_skipU rfl rfl rfl ?_
  first | (refine RL_want rfl rfl ?_; (first | refine L_neq rfl rfl rfl (dtrue (by omega)) ?_ | refine L_neq rfl rfl rfl (dfalse (by omega)) ?_ | refine L_neq rfl rfl rfl rfl ?_)) | refine RL_skip rfl rfl rfl rfl ?_ | refine RL_skipU rfl rfl rfl ?_
  first | refine L_pick_t rfl rfl rfl ?_ | refine L_pick_f rfl rfl rfl ?_
  refine L_move rfl rfl ?_
  first | (refine RL_want rfl rfl ?_; refine L_move rfl rfl ?_) | refine RL_skip rfl rfl rfl rfl ?_ | refine RL_skipU rfl rfl rfl ?_
  first | (refine RL_want rfl rfl ?_; refine L_idxN rfl Try.underlying55 Try.ti64 rfl rfl (by with_reducible first | exact natc_k _ | exact natc_a1 _ | exact natc_0 | exact natc_1 | exact natc_2 | exact natc_s1 _ (by omega) | exact natc_a2 _ | exact natc_add _ _ | exact natc_mul _ _ | exact natc (by omega)) (by omega) rfl ?_) | refine RL_skip rfl rfl rfl rfl ?_ | refine RL_skipU rfl rfl rfl ?_
  first | (refine RL_want rfl rfl ?_; refine L_fieldAddr rfl (off := 4) Try.underlying64 rfl rfl Try.ti60 rfl ?_) | refine RL_skip rfl rfl rfl rfl ?_ | refine RL_skipU rfl rfl rfl ?_
  first | (refine RL_want rfl rfl ?_; refine L_load rfl Try.one60 rfl (by first | exact hs.cell (i := 1) rfl rfl | exact hs.cell (i := 2) rfl rfl | exact hs.cell (i := 0) rfl rfl) ?_) | refine RL_skip rfl rfl rfl rfl ?_ | refine RL_skipU rfl rfl rfl ?_
  first | (refine RL_want rfl rfl ?_; refine L_len rfl Try.underlying60 rfl ?_) | refine RL_skip rfl rfl rfl rfl ?_ | refine RL_skipU rfl rfl rfl ?_
  first | (refine RL_want rfl rfl ?_; (first | refine L_neq rfl rfl rfl (dtrue (by omega)) ?_ | refine L_neq rfl rfl rfl (dfalse (by omega)) ?_ | refine L_neq rfl rfl rfl rfl ?_)) | refine RL_skip rfl rfl rfl rfl ?_ | refine RL_skipU rfl rfl rfl ?_
  first | refine L_pick_t rfl rfl rfl ?_ | refine L_pick_f rfl rfl rfl ?_
  refine RL_then ?_
  refine W_if_false rfl ?_
  refine W_skip' ?_
  refine Nx_then ?_
  refine W_seq ?_
  refine W_region ?_
  refine L_move rfl rfl ?_
  refine L_idxN rfl Try.underlying55 Try.ti64 rfl rfl (by with_reducible first | exact natc_k _ | exact natc_a1 _ | exact natc_0 | exact natc_1 | exact natc_2 | exact natc_s1 _ (by omega) | exact natc_a2 _ | exact natc_add _ _ | exact natc_mul _ _ | exact natc (by omega)) (by omega) rfl ?_
  refine L_fieldAddr rfl (off := 0) Try.underlying64 rfl rfl Try.ti35 rfl ?_
  refine L_fieldAddr rfl (off := 0) Try.underlying35 rfl rfl Try.ti22 rfl ?_
  refine L_load rfl Try.one22 rfl (by first | exact hs.cell (i := 1) rfl rfl | exact hs.cell (i := 2) rfl rfl | exact hs.cell (i := 0) rfl rfl) ?_
  refine L_fcmp rfl rfl rfl (fun _ => by rw [binOp_float_cmp_eql, o1]; rfl) ?_
  refine L_move rfl rfl ?_
  first | (refine RL_want rfl rfl ?_; refine L_move rfl rfl ?_) | refine RL_skip rfl rfl rfl rfl ?_ | refine RL_skipU rfl rfl rfl ?_
  first | (refine RL_want rfl rfl ?_; refine L_idxN rfl Try.underlying55 Try.ti64 rfl rfl (by with_reducible first | exact natc_k _ | exact natc_a1 _ | exact natc_0 | exact natc_1 | exact natc_2 | exact natc_s1 _ (by omega) | exact natc_a2 _ | exact natc_add _ _ | exact natc_mul _ _ | exact natc (by omega)) (by omega) rfl ?_) | refine RL_skip rfl rfl rfl rfl ?_ | refine RL_skipU rfl rfl rfl ?_
  first | (refine RL_want rfl rfl ?_; refine L_fieldAddr rfl (off := 0) Try.underlying64 rfl rfl Try.ti35 rfl ?_) | refine RL_skip rfl rfl rfl rfl ?_ | refine RL_skipU rfl rfl rfl ?_
  first | (refine RL_want rfl rfl ?_; refine L_fieldAddr rfl (off := 1) Try.underlying35 rfl rfl Try.ti22 rfl ?_) | refine RL_skip rfl rfl rfl rfl ?_ | refine RL_skipU rfl rfl rfl ?_
  first | (refine RL_want rfl rfl ?_; refine L_load rfl Try.one22 rfl (by first | exact hs.cell (i := 1) rfl rfl | exact hs.cell (i := 2) rfl rfl | exact hs.cell (i := 0) rfl rfl) ?_) | refine RL_skip rfl rfl rfl rfl ?_ | refine RL_skipU rfl rfl rfl ?_
  first | (refine RL_want rfl rfl ?_; refine L_fcmp rfl rfl rfl (fun _ => by rw [binOp_float_cmp_eql, o2]; rfl) ?_) | refine RL_skip rfl rfl rfl rfl ?_ | refine RL_skipU rfl rfl rfl ?_
  first | refine L_pick_t rfl rfl rfl ?_ | refine L_pick_f rfl rfl rfl ?_
  refine L_move rfl rfl ?_
  first | (refine RL_want rfl rfl ?_; refine L_move rfl rfl ?_) | refine RL_skip rfl rfl rfl rfl ?_ | refine RL_skipU rfl rfl rfl ?_
  first | (refine RL_want rfl rfl ?_; refine L_idxN rfl Try.underlying55 Try.ti64 rfl rfl (by with_reducible first | exact natc_k _ | exact natc_a1 _ | exact natc_0 | exact natc_1 | exact natc_2 | exact natc_s1 _ (by omega) | exact natc_a2 _ | exact natc_add _ _ | exact natc_mul _ _ | exact natc (by omega)) (by omega) rfl ?_) | refine RL_skip rfl rfl rfl rfl ?_ | refine RL_skipU rfl rfl rfl ?_
  first | (refine RL_want rfl rfl ?_; refine L_fieldAddr rfl (off := 4) Try.underlying64 rfl rfl Try.ti60 rfl ?_) | refine RL_skip rfl rfl rfl rfl ?_ | refine RL_skipU rfl rfl rfl ?_
  first | (refine RL_want rfl rfl ?_; refine L_load rfl Try.one60 rfl (by first | exact hs.cell (i := 1) rfl rfl | exact hs.cell (i := 2) rfl rfl | exact hs.cell (i := 0) rfl rfl) ?_) | refine RL_skip rfl rfl rfl rfl ?_ | refine RL_skipU rfl rfl rfl ?_
  first | (refine RL_want rfl rfl ?_; refine L_idx1 rfl Try.underlying60 Try.ti3 rfl rfl (by with_reducible first | exact natc_k _ | exact natc_a1 _ | exact natc_0 | exact natc_1 | exact natc_2 | exact natc_s1 _ (by omega) | exact natc_a2 _ | exact natc_add _ _ | exact natc_mul _ _ | exact natc (by omega)) (by omega) rfl ?_) | refine RL_skip rfl rfl rfl rfl ?_ | refine RL_skipU rfl rfl rfl ?_
  first | (refine RL_want rfl rfl ?_; refine L_load rfl Try.one3 rfl (by first | exact hs.cell (i := 1) rfl rfl | exact hs.cell (i := 2) rfl rfl | exact hs.cell (i := 0) rfl rfl) ?_) | refine RL_skip rfl rfl rfl rfl ?_ | refine RL_skipU rfl rfl rfl ?_
  first | (refine RL_want rfl rfl ?_; (first | refine L_eql rfl rfl rfl (dtrue (by omega)) ?_ | refine L_eql rfl rfl rfl (dfalse (by omega)) ?_ | refine L_eql rfl rfl rfl rfl ?_)) | refine RL_skip rfl rfl rfl rfl ?_ | refine RL_skipU rfl rfl rfl ?_
  first | refine L_pick_t rfl rfl rfl ?_ | refine L_pick_f rfl rfl rfl ?_
  refine L_move rfl rfl ?_
  first | (refine RL_want rfl rfl ?_; refine L_move rfl rfl ?_) | refine RL_skip rfl rfl rfl rfl ?_ | refine RL_skipU rfl rfl rfl ?_
  first | (refine RL_want rfl rfl ?_; refine L_idxN rfl Try.underlying55 Try.ti64 rfl rfl (by with_reducible first | exact natc_k _ | exact natc_a1 _ | exact natc_0 | exact natc_1 | exact natc_2 | exact natc_s1 _ (by omega) | exact natc_a2 _ | exact natc_add _ _ | exact natc_mul _ _ | exact natc (by omega)) (by omega) rfl ?_) | refine RL_skip rfl rfl rfl rfl ?_ | refine RL_skipU rfl rfl rfl ?_
  first | (refine RL_want rfl rfl ?_; refine L_fieldAddr rfl (off := 4) Try.underlying64 rfl rfl Try.ti60 rfl ?_) | refine RL_skip rfl rfl rfl rfl ?_ | refine RL_skipU rfl rfl rfl ?_
  first | (refine RL_want rfl rfl ?_; refine L_load rfl Try.one60 rfl (by first | exact hs.cell (i := 1) rfl rfl | exact hs.cell (i := 2) rfl rfl | exact hs.cell (i := 0) rfl rfl) ?_) | refine RL_skip rfl rfl rfl rfl ?_ | refine RL_skipU rfl rfl rfl ?_
  first | (refine RL_want rfl rfl ?_; refine L_idx1 rfl Try.underlying60 Try.ti3 rfl rfl (by with_reducible first | exact natc_k _ | exact natc_a1 _ | exact natc_0 | exact natc_1 | exact natc_2 | exact natc_s1 _ (by omega) | exact natc_a2 _ | exact natc_add _ _ | exact natc_mul _ _ | exact natc (by omega)) (by omega) rfl ?_) | refine RL_skip rfl rfl rfl rfl ?_ | refine RL_skipU rfl rfl rfl ?_
  first | (refine RL_want rfl rfl ?_; refine L_load rfl Try.one3 rfl (by first | exact hs.cell (i := 1) rfl rfl | exact hs.cell (i := 2) rfl rfl | exact hs.cell (i := 0) rfl rfl) ?_) | refine RL_skip rfl rfl rfl rfl ?_ | refine RL_skipU rfl rfl rfl ?_
  first | (refine RL_want rfl rfl ?_; (first | refine L_eql rfl rfl rfl (dtrue (by omega)) ?_ | refine L_eql rfl rfl rfl (dfalse (by omega)) ?_ | refine L_eql rfl rfl rfl rfl ?_)) | refine RL_skip rfl rfl rfl rfl ?_ | refine RL_skipU rfl rfl rfl ?_
  first | refine L_pick_t rfl rfl rfl ?_ | refine L_pick_f rfl rfl rfl ?_
  refine L_move rfl rfl ?_
  first | (refine RL_want rfl rfl ?_; refine L_fieldAddr rfl (off := 0) Try.underlying45 rfl rfl Try.ti22 rfl ?_) | refine RL_skip rfl rfl rfl rfl ?_ | refine RL_skipU rfl rfl rfl ?_
  first | (refine RL_want rfl rfl ?_; refine L_load rfl Try.one22 rfl (by first | exact hs.cell (i := 1) rfl rfl | exact hs.cell (i := 2) rfl rfl | exact hs.cell (i := 0) rfl rfl) ?_) | refine RL_skip rfl rfl rfl rfl ?_ | refine RL_skipU rfl rfl rfl ?_
  first | (refine RL_want rfl rfl ?_; refine L_fcmp rfl rfl rfl (fun _ => by rw [binOp_float_cmp_eql, o3]; rfl) ?_) | refine RL_skip rfl rfl rfl rfl ?_ | refine RL_skipU rfl rfl rfl ?_
  first | refine L_pick_t rfl rfl rfl ?_ | refine L_pick_f rfl rfl rfl ?_
  refine L_move rfl rfl ?_
  first | (refine RL_want rfl rfl ?_; refine L_fieldAddr rfl (off := 2) Try.underlying45 rfl rfl Try.ti22 rfl ?_) | refine RL_skip rfl rfl rfl rfl ?_ | refine RL_skipU rfl rfl rfl ?_
  first | (refine RL_want rfl rfl ?_; refine L_load rfl Try.one22 rfl (by first | exact hs.cell (i := 1) rfl rfl | exact hs.cell (i := 2) rfl rfl | exact hs.cell (i := 0) rfl rfl) ?_) | refine RL_skip rfl rfl rfl rfl ?_ | refine RL_skipU rfl rfl rfl ?_
  first | (refine RL_want rfl rfl ?_; refine L_fcmp rfl rfl rfl (fun _ => by rw [binOp_float_cmp_eql, o4]; rfl) ?_) | refine RL_skip rfl rfl rfl rfl ?_ | refine RL_skipU rfl rfl rfl ?_
  first | refine L_pick_t rfl rfl rfl ?_ | refine L_pick_f rfl rfl rfl ?_
  refine L_move rfl rfl ?_
  first | (refine RL_want rfl rfl ?_; refine L_move rfl rfl ?_) | refine RL_skip rfl rfl rfl rfl ?_ | refine RL_skipU rfl rfl rfl ?_
  obtain ⟨R, hR⟩ : ∃ R, R = [(b10, Row 45 [.float .f64 4607182418800017408, .float .f64 y, .float .f64 4609434218613702656, .float .f64 0, .float .f64 q]), (go, Row 64 ([.float .f64 4632374429215621120, .float .f64 0, .float .f64 f.vx, .float .f64 f.vy, .slice (some ⟨gs, 0, none⟩) 2 cs] ++ so)), (gs, Row 3 ([.int .i64 0, .int .i64 1] ++ ss))] := ⟨_, rfl⟩
  have hoR : Own w0 R := by rw [hR]; exact Own.cons hb10 (Own.cons hgo (Own.cons hgs Own.nil))
  replace hs : HS w0 w (nbs B 4621819117588971520 v2 M4 ms4 ++ R) := by rw [hR]; exact HS.re hs (fun c => by simp only [List.map_append, List.map_cons, List.map_nil, List.sum_append, List.sum_cons, List.sum_nil]; omega)
  refine RL_want rfl rfl ?_
  refine L_call rfl Try.fun21 rfl (tellG w0 w B 4621819117588971520 v2 M4 R ms4 2 none 0 0 [] hs hN4 hoR (fun w' _ _ _ _ => slc_nil w') rfl (by decide) (fun i hi => absurd hi (Nat.not_lt_zero _))) ?_
  rintro _ wE ⟨rfl, ⟨_, hs2⟩ | ⟨h, _⟩⟩
  case inr => rw [hml4] at h; exact absurd h (by decide +kernel)
  rw [hml4, show tellE 2 2 [] = 280 by decide +kernel]
  first | (refine RL_want rfl rfl ?_; (first | refine L_eql rfl rfl rfl (dtrue (by omega)) ?_ | refine L_eql rfl rfl rfl (dfalse (by omega)) ?_ | refine L_eql rfl rfl rfl rfl ?_)) | refine RL_skip rfl rfl rfl rfl ?_ | refine RL_skipU rfl rfl rfl ?_
  first | refine L_pick_t rfl rfl rfl ?_ | refine L_pick_f rfl rfl rfl ?_
  refine L_assign rfl rfl ?_
  refine RL_then ?_
  refine W_ret' ?_
  refine Ex_done1 rfl rfl ?_
  exact ⟨_, rfl, rfl, hs2.forget (hN4.owns.app hoR)⟩
end Go.Proofs.Ytknpoemkmcdgcaa
