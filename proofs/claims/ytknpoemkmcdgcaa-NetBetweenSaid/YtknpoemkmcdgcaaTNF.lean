/-
  A part of the proof: what functions that the statement reaches do, or a plain law on what they do. Each theorem holds under its own premises alone.
-/
import Derived.Test.YtknpoemkmcdgcaaTNE
namespace Go.Proofs.Ytknpoemkmcdgcaa
open Go Go.Lk
theorem number_ok (x y : Nat) (w0 : World) : Ret Try.prog 49 [.agg #[.float .f64 x, .float .f64 y]] w0 fun v w' => v = .complex .f64 y x ∧ HS w0 w' [] := by
  refine Ret.start fun w hs => ?_
  refine calls_of_W Try.func49 rfl rfl rfl ?_
  refine W_seq ?_
  refine W_region ?_
  refine L_box rfl hs rfl ?_
  intro b1 w hb1 hnb1 hs
  try dsimp only [List.set_cons_succ, List.set_cons_zero, List.cons_append, List.nil_append] at hs
  refine L_assign rfl rfl ?_
  refine RL_then ?_
  refine W_seq ?_
  refine W_region ?_
  replace hs : HS w0 w [(b1, Row 35 [.float .f64 x, .float .f64 y])] := hs
  refine L_fieldAddr rfl (off := 1) Try.underlying35 rfl rfl Try.ti22 rfl ?_
  refine L_load rfl Try.one22 rfl (by first | exact hs.cell (i := 0) rfl rfl) ?_
  refine L_fieldAddr rfl (off := 0) Try.underlying35 rfl rfl Try.ti22 rfl ?_
  refine L_load rfl Try.one22 rfl (by first | exact hs.cell (i := 0) rfl rfl) ?_
  refine L_complex rfl rfl rfl ?_
  refine L_assign rfl rfl ?_
  refine RL_then ?_
  refine W_ret' ?_
  refine Ex_done1 rfl rfl ?_
  exact ⟨_, rfl, rfl, hs.forget (Own.cons hb1 Own.nil)⟩
theorem point_ok (re im : Nat) (w0 : World) : Ret Try.prog 47 [.complex .f64 re im] w0 fun v w' => v = .agg #[.float .f64 im, .float .f64 re] ∧ HS w0 w' [] := by
  refine Ret.start fun w hs => ?_
  refine calls_of_W Try.func47 rfl rfl rfl ?_
  refine W_seq ?_
  refine W_region ?_
  refine L_alloc rfl hs Try.ti35 ?_
  intro b2 w hb2 hnb2 hs
  try dsimp only [List.set_cons_succ, List.set_cons_zero, List.cons_append, List.nil_append] at hs
  refine RL_then ?_
  refine W_seq ?_
  refine W_region ?_
  refine L_move rfl rfl ?_
  refine L_imag rfl rfl ?_
  refine L_move rfl rfl ?_
  refine L_real rfl rfl ?_
  refine L_build rfl rfl (Pl.built Try.pl35 rfl) ?_
  refine L_storeA hs (i := 0) rfl Try.ti35 rfl rfl (by first | rfl | exact add_lit0 _ _ | exact Addr.add_lit .. | (rw [add_add]; exact add_lit0 _ _)) (by simp) (by first | (simp; done) | simp [Value.oneCell']) ?_
  intro w hs
  try dsimp only [List.set_cons_succ, List.set_cons_zero, List.cons_append, List.nil_append] at hs
  refine RL_then ?_
  refine W_ret' ?_
  refine Ex_doneC rfl rfl Try.agg35 Try.ti35 (by exact cellsAt_whole (hs.get (i := 0) rfl)) ?_
  exact ⟨_, rfl, rfl, hs.forget (Own.cons hb2 Own.nil)⟩
theorem padd_ok (a b c d : Nat) (w0 : World) : Ret Try.prog 44 [.agg #[.float .f64 a, .float .f64 b], .agg #[.float .f64 c, .float .f64 d]] w0 fun v w' => ∃ x y, v = .agg #[.float .f64 x, .float .f64 y] ∧ HS w0 w' [] ∧ cn x = fop .add a c ∧ cn y = fop .add b d := by
  refine Ret.start fun w hs => ?_
  refine calls_of_W Try.func44 rfl rfl rfl ?_
  refine W_seq ?_
  refine W_region ?_
  refine L_box rfl hs rfl ?_
  intro b2 w hb2 hnb2 hs
  try dsimp only [List.set_cons_succ, List.set_cons_zero, List.cons_append, List.nil_append] at hs
  refine L_box rfl hs rfl ?_
  intro b3 w hb3 hnb3 hs
  try dsimp only [List.set_cons_succ, List.set_cons_zero, List.cons_append, List.nil_append] at hs
  refine L_alloc rfl hs Try.ti35 ?_
  intro b4 w hb4 hnb4 hs
  try dsimp only [List.set_cons_succ, List.set_cons_zero, List.cons_append, List.nil_append] at hs
  refine RL_then ?_
  refine W_seq ?_
  refine W_region ?_
  replace hs : HS w0 w [(b2, Row 35 [.float .f64 a, .float .f64 b]), (b3, Row 35 [.float .f64 c, .float .f64 d]), (b4, Row 35 [.float .f64 0, .float .f64 0])] := hs
  refine L_fieldAddr rfl (off := 0) Try.underlying35 rfl rfl Try.ti22 rfl ?_
  refine L_load rfl Try.one22 rfl (by first | exact hs.cell (i := 0) rfl rfl | exact hs.cell (i := 1) rfl rfl) ?_
  refine L_fieldAddr rfl (off := 0) Try.underlying35 rfl rfl Try.ti22 rfl ?_
  refine L_load rfl Try.one22 rfl (by first | exact hs.cell (i := 0) rfl rfl | exact hs.cell (i := 1) rfl rfl) ?_
  refine L_farith rfl (op := .add) rfl rfl rfl ?_
  intro r9 k9 hr9
  try replace hs := hs.drewN k9
  refine L_fieldAddr rfl (off := 1) Try.underlying35 rfl rfl Try.ti22 rfl ?_
  refine L_load rfl Try.one22 rfl (by first | exact hs.cell (i := 0) rfl rfl | exact hs.cell (i := 1) rfl rfl) ?_
  refine L_fieldAddr rfl (off := 1) Try.underlying35 rfl rfl Try.ti22 rfl ?_
  refine L_load rfl Try.one22 rfl (by first | exact hs.cell (i := 0) rfl rfl | exact hs.cell (i := 1) rfl rfl) ?_
  refine L_farith rfl (op := .add) rfl rfl rfl ?_
  intro r14 k14 hr14
  try replace hs := hs.drewN k14
  refine L_build rfl rfl (Pl.built Try.pl35 rfl) ?_
  refine L_storeA hs (i := 2) rfl Try.ti35 rfl rfl (by first | rfl | exact add_lit0 _ _ | exact Addr.add_lit .. | (rw [add_add]; exact add_lit0 _ _)) (by simp) (by first | (simp; done) | simp [Value.oneCell']) ?_
  intro w hs
  try dsimp only [List.set_cons_succ, List.set_cons_zero, List.cons_append, List.nil_append] at hs
  refine RL_then ?_
  refine W_ret' ?_
  refine Ex_doneC rfl rfl Try.agg35 Try.ti35 (by exact cellsAt_whole (hs.get (i := 2) rfl)) ?_
  exact ⟨_, rfl, _, _, rfl, hs.forget (Own.cons hb2 (Own.cons hb3 (Own.cons hb4 Own.nil))), Fs.cn hr9, Fs.cn hr14⟩
/-- what 'Moved' may tell -/
def mvX (sx st px py : Nat) : Nat := fop .add (fop .add (fop .mul py (turnF st).2) (fop .mul px (turnF st).1)) sx
def mvY (sy st px py : Nat) : Nat := fop .add (fop .sub (fop .mul py (turnF st).1) (fop .mul px (turnF st).2)) sy
def MovR (sx sy st px py : Nat) (v : Value) : Prop := ∃ x y, v = .agg #[.float .f64 x, .float .f64 y] ∧ cn x = mvX sx st px py ∧ cn y = mvY sy st px py
theorem turnF_0 : turnF 0 = (4607182418800017408, 0) := by decide +kernel
def SPM (f : FuncId) (args : Array Value) (v : Value) : Prop := match f, args.toList with
  | 49, [.agg a] => (match a.toList with
    | [.float .f64 x, .float .f64 y] => v = .complex .f64 y x
    | _ => False)
  | 50, [.float .f64 t] => ∃ re im, v = .complex .f64 re im ∧ cn re = cn (turnF t).1 ∧ cn im = cn (turnF t).2
  | 48, [.complex .f64 a b, .complex .f64 c d] => ∃ re im, v = .complex .f64 re im ∧ cn re = fop .sub (fop .mul a c) (fop .mul b d) ∧ cn im = fop .add (fop .mul a d) (fop .mul b c)
  | 47, [.complex .f64 re im] => v = .agg #[.float .f64 im, .float .f64 re]
  | _, _ => False
theorem numberH {w0 w : World} {L : Bks} (hs : HS w0 w L) (x y : Nat) : Ret Try.prog 49 [.agg #[.float .f64 x, .float .f64 y]] w fun v w' => SPM 49 [.agg #[.float .f64 x, .float .f64 y]].toArray v ∧ HS w0 w' L :=
  Calls.mono (number_ok x y w) fun e w' => by
    rintro ⟨v, rfl, rfl, hs'⟩
    exact ⟨_, rfl, rfl, hs.nil hs'⟩
theorem turnH {w0 w : World} {L : Bks} (hs : HS w0 w L) (t : Nat) (ht : t < 18446744073709551616) : Ret Try.prog 50 [.float .f64 t] w fun v w' => SPM 50 [.float .f64 t].toArray v ∧ HS w0 w' L :=
  Calls.mono (turn_ok t ht w) fun e w' => by
    rintro ⟨v, rfl, re, im, rfl, hs', h1, h2⟩
    exact ⟨_, rfl, ⟨re, im, rfl, h1, h2⟩, hs.nil hs'⟩
theorem mulH {w0 w : World} {L : Bks} (hs : HS w0 w L) (a b c d : Nat) : Ret Try.prog 48 [.complex .f64 a b, .complex .f64 c d] w fun v w' => SPM 48 [.complex .f64 a b, .complex .f64 c d].toArray v ∧ HS w0 w' L :=
  Calls.mono (mul_ok a b c d w) fun e w' => by
    rintro ⟨v, rfl, re, im, rfl, hs', h1, h2⟩
    exact ⟨_, rfl, ⟨re, im, rfl, h1, h2⟩, hs.nil hs'⟩
theorem pointH {w0 w : World} {L : Bks} (hs : HS w0 w L) (re im : Nat) : Ret Try.prog 47 [.complex .f64 re im] w fun v w' => SPM 47 [.complex .f64 re im].toArray v ∧ HS w0 w' L :=
  Calls.mono (point_ok re im w) fun e w' => by
    rintro ⟨v, rfl, rfl, hs'⟩
    exact ⟨_, rfl, rfl, hs.nil hs'⟩
theorem moved_ok (sx sy st px py : Nat) (ht : st < 18446744073709551616) (w0 : World) : Ret Try.prog 28 [.agg #[.float .f64 sx, .float .f64 sy, .float .f64 st], .agg #[.float .f64 px, .float .f64 py]] w0 fun v w' => MovR sx sy st px py v ∧ HS w0 w' [] := by
  refine Ret.start fun w hs => ?_
  refine calls_of_W Try.func28 rfl rfl rfl ?_
  refine W_seq ?_
  refine W_region ?_
  refine L_box rfl hs rfl ?_
  intro b2 w hb2 hnb2 hs
  try dsimp only [List.set_cons_succ, List.set_cons_zero, List.cons_append, List.nil_append] at hs
  refine L_box rfl hs rfl ?_
  intro b3 w hb3 hnb3 hs
  try dsimp only [List.set_cons_succ, List.set_cons_zero, List.cons_append, List.nil_append] at hs
  refine L_alloc rfl hs Try.ti35 ?_
  intro b4 w hb4 hnb4 hs
  try dsimp only [List.set_cons_succ, List.set_cons_zero, List.cons_append, List.nil_append] at hs
  refine RL_then ?_
  refine W_seq ?_
  replace hs : HS w0 w [(b2, Row 37 [.float .f64 sx, .float .f64 sy, .float .f64 st]), (b3, Row 35 [.float .f64 px, .float .f64 py]), (b4, Row 35 [.float .f64 0, .float .f64 0])] := hs
  refine W_sg Try.mixed ?_
  replace hs := hs.drewN 1
  refine SG_stageB [2] [0, 1, 3, 4, 5, 6, 7] [8] (noBk SPM) (g' := 0) (by kernel_rfl) (by kernel_rfl) (fun _ _ _ _ _ h => h) hs ?_
  refine PL_val rfl (fun w => R_fieldAddr (off := 2) Try.underlying37 rfl rfl Try.ti22 rfl) ?_
  refine PL_endB ?_
  refine HB_val rfl (fun w R hR hs => R_loadA Try.agg35 Try.ti35 rfl (by exact cellsAt_whole (cs := [.float .f64 px, .float .f64 py]) (hs.get (i := 1) rfl))) ?_
  refine HB_callH rfl Try.fun49 rfl (fun w R hR hs => numberH hs px py) ?_
  rintro _ rfl
  refine HB_val rfl (fun w R hR hs => R_load Try.one22 rfl (by first | exact hs.cell (i := 0) rfl rfl | exact hs.cell (i := 1) rfl rfl | exact hs.cell (i := 3) rfl rfl)) ?_
  refine HB_callH rfl Try.fun50 rfl (fun w R hR hs => turnH hs st ht) ?_
  rintro _ ⟨tr, ti, rfl, hT1, hT2⟩
  refine HB_callH rfl Try.fun48 rfl (fun w R hR hs => mulH hs _ _ _ _) ?_
  rintro _ ⟨re, im, rfl, hre, him⟩
  refine HB_callH rfl Try.fun47 rfl (fun w R hR hs => pointH hs _ _) ?_
  rintro _ rfl
  refine HB_alloc rfl Try.ti35 ?_
  intro b5 hb5
  refine HB_tail ?_
  intro w hs
  refine L_storeA hs (i := 3) rfl Try.ti35 rfl rfl (by first | rfl | exact add_lit0 _ _ | exact Addr.add_lit .. | (rw [add_add]; exact add_lit0 _ _)) (by simp) (by first | (simp; done) | simp [Value.oneCell']) ?_
  intro w hs
  try dsimp only [List.set_cons_succ, List.set_cons_zero, List.cons_append, List.nil_append] at hs
  refine RL_sg ?_
  refine SG_end (by kernel_rfl) ?_
  refine Nx_then ?_
  refine W_seq ?_
  refine W_region ?_
  refine L_fieldAddr rfl (off := 0) Try.underlying35 rfl rfl Try.ti22 rfl ?_
  refine L_load rfl Try.one22 rfl (by first | exact hs.cell (i := 0) rfl rfl | exact hs.cell (i := 1) rfl rfl | exact hs.cell (i := 3) rfl rfl) ?_
  replace hs : HS w0 w [(b2, Row 37 [.float .f64 sx, .float .f64 sy, .float .f64 st]), (b3, Row 35 [.float .f64 px, .float .f64 py]), (b4, Row 35 [.float .f64 0, .float .f64 0]), (b5, Row 35 [.float .f64 im, .float .f64 re])] := hs
  refine L_fieldAddr rfl (off := 0) Try.underlying37 rfl rfl Try.ti35 rfl ?_
  refine L_fieldAddr rfl (off := 0) Try.underlying35 rfl rfl Try.ti22 rfl ?_
  refine L_load rfl Try.one22 rfl (by first | exact hs.cell (i := 0) rfl rfl | exact hs.cell (i := 1) rfl rfl | exact hs.cell (i := 3) rfl rfl) ?_
  refine L_farith rfl (op := .add) rfl rfl rfl ?_
  intro r18 k18 hr18
  try replace hs := hs.drewN k18
  refine L_fieldAddr rfl (off := 1) Try.underlying35 rfl rfl Try.ti22 rfl ?_
  refine L_load rfl Try.one22 rfl (by first | exact hs.cell (i := 0) rfl rfl | exact hs.cell (i := 1) rfl rfl | exact hs.cell (i := 3) rfl rfl) ?_
  refine L_fieldAddr rfl (off := 0) Try.underlying37 rfl rfl Try.ti35 rfl ?_
  refine L_fieldAddr rfl (off := 1) Try.underlying35 rfl rfl Try.ti22 rfl ?_
  refine L_load rfl Try.one22 rfl (by first | exact hs.cell (i := 0) rfl rfl | exact hs.cell (i := 1) rfl rfl | exact hs.cell (i := 3) rfl rfl) ?_
  refine L_farith rfl (op := .add) rfl rfl rfl ?_
  intro r24 k24 hr24
  try replace hs := hs.drewN k24
  refine L_build rfl rfl (Pl.built Try.pl35 rfl) ?_
  refine L_storeA hs (i := 2) rfl Try.ti35 rfl rfl (by first | rfl | exact add_lit0 _ _ | exact Addr.add_lit .. | (rw [add_add]; exact add_lit0 _ _)) (by simp) (by first | (simp; done) | simp [Value.oneCell']) ?_
  intro w hs
  try dsimp only [List.set_cons_succ, List.set_cons_zero, List.cons_append, List.nil_append] at hs
  refine RL_then ?_
  refine W_ret' ?_
  refine Ex_doneC rfl rfl Try.agg35 Try.ti35 (by exact cellsAt_whole (hs.get (i := 2) rfl)) ?_
  refine ⟨_, rfl, ⟨r18, r24, rfl, ?_, ?_⟩, hs.forget (Own.cons hb2 (Own.cons hb3 (Own.cons hb4 (Own.cons hb5 Own.nil))))⟩
  · exact (Fs.cn hr18).trans (fop_congr (him.trans ((cn_fop ..).symm.trans (by rw [fop_congr (op := .mul) rfl hT2, fop_congr (op := .mul) rfl hT1]))) rfl)
  · exact (Fs.cn hr24).trans (fop_congr (hre.trans ((cn_fop ..).symm.trans (by rw [fop_congr (op := .mul) rfl hT2, fop_congr (op := .mul) rfl hT1]))) rfl)
end Go.Proofs.Ytknpoemkmcdgcaa
