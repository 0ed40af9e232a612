/-
  A part of the proof: what functions that the statement reaches do, or a plain law on what they do. Each theorem holds under its own premises alone.
-/
import Derived.Test.YtdllakfojligjaaTKA
namespace Go.Proofs.Ytdllakfojligjaa
open Go Go.Lk
/-! ### States: seen -/
def ltB (x y : Nat) : Bool := FloatKind.f64.format.order x y == some .lt
theorem ltB_congr {x y x' y' : Nat} (h : cn x = cn x') (h' : cn y = cn y') : ltB x y = ltB x' y' := by unfold ltB; rw [order_congr h h']
def seenY (s : Stt) (x : Nat) : Nat := fop .sub x s.x
def seenK (s : Stt) (n : Nat) : Nat := fop .quo s.p (farW s n)
def seenH (s : Stt) (n : Nat) : Nat := fop .quo s.q (farW s n)
def seenF (s : Stt) (x n : Nat) : Stt :=
 if gtZ (farW s n) then ⟨fop .add s.x (fop .mul (seenK s n) (seenY s x)), fop .add s.v (fop .mul (seenH s n) (seenY s x)), if ltB (fop .mul (seenK s n) n) s.p then fop .mul (seenK s n) n else s.p,
  fop .mul (seenH s n) n, aboveF (fop .sub s.r (fop .mul (seenH s n) s.q))⟩ else s
theorem seen_ok (s : Stt) (x n : Nat) (w0 : World) : Ret Try.prog 43 [.agg s.cells.toArray, .float .f64 x, .float .f64 n] w0 fun v w' => (∃ u : Stt, v = .agg u.cells.toArray ∧ u.c = (seenF s x n).c) ∧ HS w0 w' [] := by
 refine Ret.start fun w hs => ?_
 refine calls_of_W Try.func43 rfl rfl rfl ?_
 refine W_seq ?_
 refine W_region ?_
 refine L_box rfl hs rfl ?_
 intro b3 w hb3 hnb3 hs
 try dsimp only [List.set_cons_succ, List.set_cons_zero, List.cons_append, List.nil_append] at hs
 refine L_alloc rfl hs Try.ti46 ?_
 intro b6 w hb6 hnb6 hs
 try dsimp only [List.set_cons_succ, List.set_cons_zero, List.cons_append, List.nil_append] at hs
 refine RL_then ?_
 refine W_seq ?_
 refine W_region ?_
 replace hs : HS w0 w [(b3, Row 46 s.cells), (b6, Row 46 [.float .f64 0, .float .f64 0, .float .f64 0, .float .f64 0, .float .f64 0])] := hs
 refine L_fieldAddr rfl (off := 2) Try.underlying46 rfl rfl Try.ti23 rfl ?_
 refine L_load rfl Try.one23 rfl (by exact hs.cell (i := 0) rfl rfl) ?_
 refine L_move rfl rfl ?_
 refine L_farith rfl (op := .add) rfl rfl rfl ?_
 intro r15 k15 hr15
 try replace hs := hs.drewN k15
 refine L_assign rfl rfl ?_
 refine RL_then ?_
 refine W_seq ?_
 refine W_seq ?_
 refine W_region ?_
 refine L_move rfl rfl ?_
 have ew : cn r15 = cn (farW s n) := (Fs.cn hr15).trans (cn_fop ..).symm
 have hg : (FloatKind.f64.format.order r15 0 == some .gt) = gtZ (farW s n) := gtZ_congr ew
 cases hb : gtZ (farW s n)
 ·
  rw [hb] at hg
  refine L_fcmp rfl rfl rfl (fun _ => by rw [binOp_float_cmp_gtr, hg]; rfl) ?_
  refine L_not rfl rfl ?_
  refine RL_then ?_
  refine W_if_true rfl ?_
  refine W_seq ?_
  refine W_region ?_
  refine L_loadA rfl Try.agg46 Try.ti46 rfl (by exact cellsAt_whole (cs := s.cells) (hs.get (i := 0) rfl)) ?_
  refine L_storeA hs (i := 1) rfl Try.ti46 rfl rfl (by first | rfl | exact add_lit0 _ _ | exact Addr.add_lit .. | (rw [add_add]; exact add_lit0 _ _)) (by simp [Stt.cells]) (by exact Stt.one s) ?_
  intro w hs
  try dsimp only [List.set_cons_succ, List.set_cons_zero, List.cons_append, List.nil_append] at hs
  refine RL_then ?_
  refine W_ret' ?_
  refine Ex_then_ret ?_
  refine Ex_doneC rfl rfl Try.agg46 Try.ti46 (by exact cellsAt_whole (cs := s.cells) (hs.get (i := 1) rfl)) ?_
  exact ⟨_, rfl, ⟨s, rfl, by unfold seenF; rw [hb]; rfl⟩, hs.forget (Own.cons hb3 (Own.cons hb6 Own.nil))⟩
 ·
  rw [hb] at hg
  refine L_fcmp rfl rfl rfl (fun _ => by rw [binOp_float_cmp_gtr, hg]; rfl) ?_
  refine L_not rfl rfl ?_
  refine RL_then ?_
  refine W_if_false rfl ?_
  refine W_skip' ?_
  refine Nx_then ?_
  refine W_seq ?_
  refine W_pht [0, 1, 4, 6, 8, 10] [2, 3, 5, 7, 9, 11, 12, 13, 14] [] (fun _ _ _ => False) Try.mixed (by kernel_rfl) (fun _ _ _ _ _ h => h) hs ?_
  refine PL_val rfl (fun w => R_move rfl) ?_
  refine PL_val rfl (fun w => R_fieldAddr (off := 0) Try.underlying46 rfl rfl Try.ti23 rfl) ?_
  refine PL_val rfl (fun w => R_fieldAddr (off := 2) Try.underlying46 rfl rfl Try.ti23 rfl) ?_
  refine PL_val rfl (fun w => R_move rfl) ?_
  refine PL_val rfl (fun w => R_fieldAddr (off := 3) Try.underlying46 rfl rfl Try.ti23 rfl) ?_
  refine PL_val rfl (fun w => R_move rfl) ?_
  refine PL_end ?_
  refine HL_val rfl (fun w hs => R_load Try.one23 rfl (by exact hs.cell (i := 0) rfl rfl)) ?_
  refine HL_farith rfl (op := .sub) rfl rfl rfl ?_
  intro r23 hr23
  refine HL_val rfl (fun w hs => R_load Try.one23 rfl (by exact hs.cell (i := 0) rfl rfl)) ?_
  refine HL_farith rfl (op := .quo) rfl rfl rfl ?_
  intro r27 hr27
  refine HL_val rfl (fun w hs => R_load Try.one23 rfl (by exact hs.cell (i := 0) rfl rfl)) ?_
  refine HL_farith rfl (op := .quo) rfl rfl rfl ?_
  intro r31 hr31
  refine HL_val rfl (fun w hs => R_assign rfl) ?_
  refine HL_val rfl (fun w hs => R_assign rfl) ?_
  refine HL_val rfl (fun w hs => R_assign rfl) ?_
  refine HL_tail ?_
  intro w hs
  refine RL_then ?_
  refine W_seq ?_
  refine W_region ?_
  refine L_fieldAddr rfl (off := 0) Try.underlying46 rfl rfl Try.ti23 rfl ?_
  refine L_load rfl Try.one23 rfl (by exact hs.cell (i := 0) rfl rfl) ?_
  refine L_move rfl rfl ?_
  refine L_move rfl rfl ?_
  refine L_farith rfl (op := .mul) rfl rfl rfl ?_
  intro r36 k36 hr36
  try replace hs := hs.drewN k36
  refine L_farith rfl (op := .add) rfl rfl rfl ?_
  intro r37 k37 hr37
  try replace hs := hs.drewN k37
  refine L_fieldAddr rfl (off := 0) Try.underlying46 rfl rfl Try.ti23 rfl ?_
  refine L_store hs (i := 0) rfl Try.ti23 rfl rfl (by first | rfl | exact add_lit0 _ _ | exact Addr.add_lit .. | (rw [add_add]; exact add_lit0 _ _)) (by simp [Stt.cells]) rfl ?_
  intro w hs
  try dsimp only [List.set_cons_succ, List.set_cons_zero, List.cons_append, List.nil_append] at hs
  refine RL_then ?_
  refine W_seq ?_
  refine W_region ?_
  refine L_fieldAddr rfl (off := 1) Try.underlying46 rfl rfl Try.ti23 rfl ?_
  refine L_load rfl Try.one23 rfl (by exact hs.cell (i := 0) rfl rfl) ?_
  refine L_move rfl rfl ?_
  refine L_move rfl rfl ?_
  refine L_farith rfl (op := .mul) rfl rfl rfl ?_
  intro r43 k43 hr43
  try replace hs := hs.drewN k43
  refine L_farith rfl (op := .add) rfl rfl rfl ?_
  intro r44 k44 hr44
  try replace hs := hs.drewN k44
  refine L_fieldAddr rfl (off := 1) Try.underlying46 rfl rfl Try.ti23 rfl ?_
  refine L_store hs (i := 0) rfl Try.ti23 rfl rfl (by first | rfl | exact add_lit0 _ _ | exact Addr.add_lit .. | (rw [add_add]; exact add_lit0 _ _)) (by simp [Stt.cells]) rfl ?_
  intro w hs
  try dsimp only [List.set_cons_succ, List.set_cons_zero, List.cons_append, List.nil_append] at hs
  refine RL_then ?_
  refine W_seq ?_
  refine W_seq ?_
  refine W_region ?_
  refine L_move rfl rfl ?_
  refine L_move rfl rfl ?_
  refine L_farith rfl (op := .mul) rfl rfl rfl ?_
  intro r48 k48 hr48
  try replace hs := hs.drewN k48
  refine L_assign rfl rfl ?_
  refine RL_then ?_
  refine W_seq ?_
  have c23 : cn r23 = cn (seenY s x) := (Fs.cn hr23).trans (cn_fop ..).symm
  have c27 : cn r27 = cn (seenK s n) := (Fs.cn hr27).trans ((fop_congr rfl ew).trans (cn_fop ..).symm)
  have c31 : cn r31 = cn (seenH s n) := (Fs.cn hr31).trans ((fop_congr rfl ew).trans (cn_fop ..).symm)
  have c36 := (Fs.cn hr36).trans ((fop_congr c27 c23).trans (cn_fop ..).symm)
  have c37 := (Fs.cn hr37).trans ((fop_congr rfl c36).trans (cn_fop ..).symm)
  have c43 := (Fs.cn hr43).trans ((fop_congr c31 c23).trans (cn_fop ..).symm)
  have c44 := (Fs.cn hr44).trans ((fop_congr rfl c43).trans (cn_fop ..).symm)
  have c48 : cn r48 = cn (fop .mul (seenK s n) n) := (Fs.cn hr48).trans ((fop_congr c27 rfl).trans (cn_fop ..).symm)
  replace hs : HS w0 _ [(b3, Row 46 [.float .f64 r37, .float .f64 r44, .float .f64 s.p, .float .f64 s.q, .float .f64 s.r]), (b6, Row 46 [.float .f64 0, .float .f64 0, .float .f64 0, .float .f64 0, .float .f64 0])] := hs
  have hl : (FloatKind.f64.format.order r48 s.p == some .lt) = ltB (fop .mul (seenK s n) n) s.p := ltB_congr c48 rfl
  cases hlb : ltB (fop .mul (seenK s n) n) s.p
  ·
   rw [hlb] at hl
   refine W_region ?_
   refine L_move rfl rfl ?_
   refine L_fieldAddr rfl (off := 2) Try.underlying46 rfl rfl Try.ti23 rfl ?_
   refine L_load rfl Try.one23 rfl (by exact hs.cell (i := 0) rfl rfl) ?_
   refine L_fcmp rfl rfl rfl (fun _ => by rw [binOp_float_cmp_lss, hl]; rfl) ?_
   refine RL_then ?_
   refine W_if_false rfl ?_
   refine W_skip' ?_
   refine Nx_then ?_
   refine W_seq ?_
   refine W_region ?_
   refine L_fieldAddr rfl (off := 4) Try.underlying46 rfl rfl Try.ti23 rfl ?_
   refine L_load rfl Try.one23 rfl (by exact hs.cell (i := 0) rfl rfl) ?_
   refine L_move rfl rfl ?_
   refine L_fieldAddr rfl (off := 3) Try.underlying46 rfl rfl Try.ti23 rfl ?_
   refine L_load rfl Try.one23 rfl (by exact hs.cell (i := 0) rfl rfl) ?_
   refine L_farith rfl (op := .mul) rfl rfl rfl ?_
   intro r60 k60 hr60
   try replace hs := hs.drewN k60
   refine L_farith rfl (op := .sub) rfl rfl rfl ?_
   intro r61 k61 hr61
   try replace hs := hs.drewN k61
   refine L_call rfl Try.fun51 rfl (above_ok r61 _) ?_
   rintro _ _ ⟨rfl, rfl⟩
   refine L_fieldAddr rfl (off := 4) Try.underlying46 rfl rfl Try.ti23 rfl ?_
   refine L_store hs (i := 0) rfl Try.ti23 rfl rfl (by first | rfl | exact add_lit0 _ _ | exact Addr.add_lit .. | (rw [add_add]; exact add_lit0 _ _)) (by simp [Stt.cells]) rfl ?_
   intro w hs
   try dsimp only [List.set_cons_succ, List.set_cons_zero, List.cons_append, List.nil_append] at hs
   refine RL_then ?_
   refine W_seq ?_
   refine W_region ?_
   refine L_move rfl rfl ?_
   refine L_move rfl rfl ?_
   refine L_farith rfl (op := .mul) rfl rfl rfl ?_
   intro r66 k66 hr66
   try replace hs := hs.drewN k66
   refine L_fieldAddr rfl (off := 3) Try.underlying46 rfl rfl Try.ti23 rfl ?_
   refine L_store hs (i := 0) rfl Try.ti23 rfl rfl (by first | rfl | exact add_lit0 _ _ | exact Addr.add_lit .. | (rw [add_add]; exact add_lit0 _ _)) (by simp [Stt.cells]) rfl ?_
   intro w hs
   try dsimp only [List.set_cons_succ, List.set_cons_zero, List.cons_append, List.nil_append] at hs
   refine RL_then ?_
   refine W_seq ?_
   refine W_region ?_
   replace hs : HS w0 _ [(b3, Row 46 [.float .f64 r37, .float .f64 r44, .float .f64 s.p, .float .f64 r66, .float .f64 (aboveF r61)]), (b6, Row 46 [.float .f64 0, .float .f64 0, .float .f64 0, .float .f64 0, .float .f64 0])] := hs
   refine L_loadA rfl Try.agg46 Try.ti46 rfl (by exact cellsAt_whole (cs := [.float .f64 r37, .float .f64 r44, .float .f64 s.p, .float .f64 r66, .float .f64 (aboveF r61)]) (hs.get (i := 0) rfl)) ?_
   refine L_storeA hs (i := 1) rfl Try.ti46 rfl rfl (by first | rfl | exact add_lit0 _ _ | exact Addr.add_lit .. | (rw [add_add]; exact add_lit0 _ _)) (by simp [Stt.cells]) (by simp [Value.oneCell']) ?_
   intro w hs
   try dsimp only [List.set_cons_succ, List.set_cons_zero, List.cons_append, List.nil_append] at hs
   refine RL_then ?_
   refine W_ret' ?_
   refine Ex_doneC rfl rfl Try.agg46 Try.ti46 (by exact cellsAt_whole (cs := [.float .f64 r37, .float .f64 r44, .float .f64 s.p, .float .f64 r66, .float .f64 (aboveF r61)]) (hs.get (i := 1) rfl)) ?_
   refine ⟨_, rfl, ⟨⟨r37, r44, s.p, r66, aboveF r61⟩, rfl, ?_⟩, hs.forget (Own.cons hb3 (Own.cons hb6 Own.nil))⟩
   have c60 := (Fs.cn hr60).trans ((fop_congr c31 rfl).trans (cn_fop ..).symm)
   have c61 := (Fs.cn hr61).trans ((fop_congr rfl c60).trans (cn_fop ..).symm)
   have c66 := (Fs.cn hr66).trans ((fop_congr c31 rfl).trans (cn_fop ..).symm)
   unfold seenF
   rw [hb, if_pos rfl, hlb, if_neg (by decide)]
   show Stt.mk _ _ _ _ _ = Stt.mk _ _ _ _ _
   rw [c37, c44, c66, aboveF_congr c61]
  ·
   rw [hlb] at hl
   refine W_region ?_
   refine L_move rfl rfl ?_
   refine L_fieldAddr rfl (off := 2) Try.underlying46 rfl rfl Try.ti23 rfl ?_
   refine L_load rfl Try.one23 rfl (by exact hs.cell (i := 0) rfl rfl) ?_
   refine L_fcmp rfl rfl rfl (fun _ => by rw [binOp_float_cmp_lss, hl]; rfl) ?_
   refine RL_then ?_
   refine W_if_true rfl ?_
   refine W_region ?_
   refine L_move rfl rfl ?_
   refine L_fieldAddr rfl (off := 2) Try.underlying46 rfl rfl Try.ti23 rfl ?_
   refine L_store hs (i := 0) rfl Try.ti23 rfl rfl (by first | rfl | exact add_lit0 _ _ | exact Addr.add_lit .. | (rw [add_add]; exact add_lit0 _ _)) (by simp [Stt.cells]) rfl ?_
   intro w hs
   try dsimp only [List.set_cons_succ, List.set_cons_zero, List.cons_append, List.nil_append] at hs
   refine RL_then ?_
   refine W_seq ?_
   refine W_region ?_
   refine L_fieldAddr rfl (off := 4) Try.underlying46 rfl rfl Try.ti23 rfl ?_
   refine L_load rfl Try.one23 rfl (by exact hs.cell (i := 0) rfl rfl) ?_
   refine L_move rfl rfl ?_
   refine L_fieldAddr rfl (off := 3) Try.underlying46 rfl rfl Try.ti23 rfl ?_
   refine L_load rfl Try.one23 rfl (by exact hs.cell (i := 0) rfl rfl) ?_
   refine L_farith rfl (op := .mul) rfl rfl rfl ?_
   intro r60 k60 hr60
   try replace hs := hs.drewN k60
   refine L_farith rfl (op := .sub) rfl rfl rfl ?_
   intro r61 k61 hr61
   try replace hs := hs.drewN k61
   refine L_call rfl Try.fun51 rfl (above_ok r61 _) ?_
   rintro _ _ ⟨rfl, rfl⟩
   refine L_fieldAddr rfl (off := 4) Try.underlying46 rfl rfl Try.ti23 rfl ?_
   refine L_store hs (i := 0) rfl Try.ti23 rfl rfl (by first | rfl | exact add_lit0 _ _ | exact Addr.add_lit .. | (rw [add_add]; exact add_lit0 _ _)) (by simp [Stt.cells]) rfl ?_
   intro w hs
   try dsimp only [List.set_cons_succ, List.set_cons_zero, List.cons_append, List.nil_append] at hs
   refine RL_then ?_
   refine W_seq ?_
   refine W_region ?_
   refine L_move rfl rfl ?_
   refine L_move rfl rfl ?_
   refine L_farith rfl (op := .mul) rfl rfl rfl ?_
   intro r66 k66 hr66
   try replace hs := hs.drewN k66
   refine L_fieldAddr rfl (off := 3) Try.underlying46 rfl rfl Try.ti23 rfl ?_
   refine L_store hs (i := 0) rfl Try.ti23 rfl rfl (by first | rfl | exact add_lit0 _ _ | exact Addr.add_lit .. | (rw [add_add]; exact add_lit0 _ _)) (by simp [Stt.cells]) rfl ?_
   intro w hs
   try dsimp only [List.set_cons_succ, List.set_cons_zero, List.cons_append, List.nil_append] at hs
   refine RL_then ?_
   refine W_seq ?_
   refine W_region ?_
   replace hs : HS w0 _ [(b3, Row 46 [.float .f64 r37, .float .f64 r44, .float .f64 r48, .float .f64 r66, .float .f64 (aboveF r61)]), (b6, Row 46 [.float .f64 0, .float .f64 0, .float .f64 0, .float .f64 0, .float .f64 0])] := hs
   refine L_loadA rfl Try.agg46 Try.ti46 rfl (by exact cellsAt_whole (cs := [.float .f64 r37, .float .f64 r44, .float .f64 r48, .float .f64 r66, .float .f64 (aboveF r61)]) (hs.get (i := 0) rfl)) ?_
   refine L_storeA hs (i := 1) rfl Try.ti46 rfl rfl (by first | rfl | exact add_lit0 _ _ | exact Addr.add_lit .. | (rw [add_add]; exact add_lit0 _ _)) (by simp [Stt.cells]) (by simp [Value.oneCell']) ?_
   intro w hs
   try dsimp only [List.set_cons_succ, List.set_cons_zero, List.cons_append, List.nil_append] at hs
   refine RL_then ?_
   refine W_ret' ?_
   refine Ex_doneC rfl rfl Try.agg46 Try.ti46 (by exact cellsAt_whole (cs := [.float .f64 r37, .float .f64 r44, .float .f64 r48, .float .f64 r66, .float .f64 (aboveF r61)]) (hs.get (i := 1) rfl)) ?_
   refine ⟨_, rfl, ⟨⟨r37, r44, r48, r66, aboveF r61⟩, rfl, ?_⟩, hs.forget (Own.cons hb3 (Own.cons hb6 Own.nil))⟩
   have c60 := (Fs.cn hr60).trans ((fop_congr c31 rfl).trans (cn_fop ..).symm)
   have c61 := (Fs.cn hr61).trans ((fop_congr rfl c60).trans (cn_fop ..).symm)
   have c66 := (Fs.cn hr66).trans ((fop_congr c31 rfl).trans (cn_fop ..).symm)
   unfold seenF
   rw [hb, if_pos rfl, hlb, if_pos rfl]
   show Stt.mk _ _ _ _ _ = Stt.mk _ _ _ _ _
   rw [c37, c44, c48, c66, aboveF_congr c61]
end Go.Proofs.Ytdllakfojligjaa
