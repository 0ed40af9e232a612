/-
 A part of the proof: laws for walks, and plain laws, over any program of the model. Each theorem holds under its own premises alone.
-/
import Derived.Test.YtknpoemkmcdgcaaTNB
import Derived.Test.YtknpoemkmcdgcaaKitY
import Derived.Test.YtknpoemkmcdgcaaKitQ
namespace Go.Proofs.Ytknpoemkmcdgcaa
open Go Go.Lk
theorem Tk.one (t : Tk) : ∀ v ∈ t.cells, v.oneCell' = true := fun v hv => tcs_one [t] v (by simpa [tcs] using hv)
theorem HS.drop1 {w0 w : World} {p : Nat × Obj} {L : Bks} (h : HS w0 w (p :: L)) (hp : w0.heap.size ≤ p.1) : HS w0 w L :=
 h.sub (fun _ hq => List.mem_cons_of_mem _ hq) (by have := h.nodup; simp only [List.map_cons, List.nodup_cons] at this; exact this.2) (fun q hq => by
  rcases List.mem_cons.1 hq with rfl | hq
  ·
   exact .inr hp
  ·
   exact .inl hq)
abbrev NetL (B far g k cap : Nat) (zs : List Value) (R : Bks) : Bks := (B, Row 76 [.float .f64 far, .slice (some ⟨g, 0, none⟩) k cap]) :: (g, Row 84 zs) :: R
end Go.Proofs.Ytknpoemkmcdgcaa

namespace Go.Proofs.Ytknpoemkmcdgcaa
open Go Go.Lk
theorem number_ok (x y : Nat) (w0 : World) : Ret Try.prog 49 [.agg #[.float .f64 x, .float .f64 y]] w0 fun v w' => v = .complex .f64 y x ∧ HS w0 w' [] := by
 refine Ret.start fun w hs => ?_
 refine calls_of_W Try.func49 rfl rfl rfl (W_seq (W_region (L_box rfl hs rfl ?_)))
 intro b1 w hb1 hnb1 hs
 dsimp only [List.set_cons_succ, List.set_cons_zero, List.cons_append, List.nil_append] at hs
 refine L_assign rfl rfl (RL_then (W_seq (W_region ?_)))
 replace hs : HS w0 w [(b1, Row 35 [.float .f64 x, .float .f64 y])] := hs
 refine L_fieldAddr rfl (off := 1) Try.underlying35 rfl rfl Try.ti22 rfl (L_load rfl Try.one22 rfl (by exact hs.cell (i := 0) rfl rfl) ?_)
 refine L_fieldAddr rfl (off := 0) Try.underlying35 rfl rfl Try.ti22 rfl (L_load rfl Try.one22 rfl (by exact hs.cell (i := 0) rfl rfl) ?_)
 refine L_complex rfl rfl rfl (L_assign rfl rfl (RL_then (W_ret' (Ex_done1 rfl rfl ?_))))
 exact ⟨_, rfl, rfl, hs.forget (Own.cons hb1 Own.nil)⟩
theorem point_ok (re im : Nat) (w0 : World) : Ret Try.prog 47 [.complex .f64 re im] w0 fun v w' => v = .agg #[.float .f64 im, .float .f64 re] ∧ HS w0 w' [] := by
 refine Ret.start fun w hs => ?_
 refine calls_of_W Try.func47 rfl rfl rfl (W_seq (W_region (L_alloc rfl hs Try.ti35 ?_)))
 intro b2 w hb2 hnb2 hs
 dsimp only [List.set_cons_succ, List.set_cons_zero, List.cons_append, List.nil_append] at hs
 refine RL_then (W_seq (W_region (L_move rfl rfl (L_imag rfl rfl (L_move rfl rfl (L_real rfl rfl (L_build rfl rfl (Pl.built Try.pl35 rfl) (L_storeA hs (i := 0) rfl Try.ti35 rfl rfl (by rfl) (by simp) (by simp [Value.oneCell']) ?_))))))))
 intro w hs
 dsimp only [List.set_cons_succ, List.set_cons_zero, List.cons_append, List.nil_append] at hs
 refine RL_then (W_ret' (Ex_doneC rfl rfl Try.agg35 Try.ti35 (by exact cellsAt_whole (hs.get (i := 0) rfl)) ?_))
 exact ⟨_, rfl, rfl, hs.forget (Own.cons hb2 Own.nil)⟩
theorem padd_ok (a b c d : Nat) (w0 : World) : Ret Try.prog 44 [.agg #[.float .f64 a, .float .f64 b], .agg #[.float .f64 c, .float .f64 d]] w0 fun v w' => ∃ x y, v = .agg #[.float .f64 x, .float .f64 y] ∧ HS w0 w' [] ∧ cn x = fop .add a c ∧ cn y = fop .add b d := by
 refine Ret.start fun w hs => ?_
 refine calls_of_W Try.func44 rfl rfl rfl (W_seq (W_region (L_box rfl hs rfl ?_)))
 intro b2 w hb2 hnb2 hs
 dsimp only [List.set_cons_succ, List.set_cons_zero, List.cons_append, List.nil_append] at hs
 refine L_box rfl hs rfl ?_
 intro b3 w hb3 hnb3 hs
 dsimp only [List.set_cons_succ, List.set_cons_zero, List.cons_append, List.nil_append] at hs
 refine L_alloc rfl hs Try.ti35 ?_
 intro b4 w hb4 hnb4 hs
 dsimp only [List.set_cons_succ, List.set_cons_zero, List.cons_append, List.nil_append] at hs
 refine RL_then (W_seq (W_region ?_))
 replace hs : HS w0 w [(b2, Row 35 [.float .f64 a, .float .f64 b]), (b3, Row 35 [.float .f64 c, .float .f64 d]), (b4, Row 35 [.float .f64 0, .float .f64 0])] := hs
 refine L_fieldAddr rfl (off := 0) Try.underlying35 rfl rfl Try.ti22 rfl (L_load rfl Try.one22 rfl (by exact hs.cell (i := 0) rfl rfl) ?_)
 refine L_fieldAddr rfl (off := 0) Try.underlying35 rfl rfl Try.ti22 rfl (L_load rfl Try.one22 rfl (by exact hs.cell (i := 1) rfl rfl) ?_)
 refine L_farith rfl (op := .add) rfl rfl rfl ?_
 intro r9 k9 hr9
 replace hs := hs.drewN k9
 refine L_fieldAddr rfl (off := 1) Try.underlying35 rfl rfl Try.ti22 rfl (L_load rfl Try.one22 rfl (by exact hs.cell (i := 0) rfl rfl) ?_)
 refine L_fieldAddr rfl (off := 1) Try.underlying35 rfl rfl Try.ti22 rfl (L_load rfl Try.one22 rfl (by exact hs.cell (i := 1) rfl rfl) ?_)
 refine L_farith rfl (op := .add) rfl rfl rfl ?_
 intro r14 k14 hr14
 replace hs := hs.drewN k14
 refine L_build rfl rfl (Pl.built Try.pl35 rfl) (L_storeA hs (i := 2) rfl Try.ti35 rfl rfl (by rfl) (by simp) (by simp [Value.oneCell']) ?_)
 intro w hs
 dsimp only [List.set_cons_succ, List.set_cons_zero, List.cons_append, List.nil_append] at hs
 refine RL_then (W_ret' (Ex_doneC rfl rfl Try.agg35 Try.ti35 (by exact cellsAt_whole (hs.get (i := 2) rfl)) ?_))
 exact ⟨_, rfl, _, _, rfl, hs.forget (Own.cons hb2 (Own.cons hb3 (Own.cons hb4 Own.nil))), Fs.cn hr9, Fs.cn hr14⟩
/-- what 'Moved' may tell -/
def mvX (sx st px py : Nat) : Nat := fop .add (fop .add (fop .mul py (turnF st).2) (fop .mul px (turnF st).1)) sx
def mvY (sy st px py : Nat) : Nat := fop .add (fop .sub (fop .mul py (turnF st).1) (fop .mul px (turnF st).2)) sy
def MovR (sx sy st px py : Nat) (v : Value) : Prop := ∃ x y, v = .agg #[.float .f64 x, .float .f64 y] ∧ cn x = mvX sx st px py ∧ cn y = mvY sy st px py
def SPM (f : FuncId) (args : Array Value) (v : Value) : Prop := match f, args.toList with
 | 49, [.agg a] => (match a.toList with
  | [.float .f64 x, .float .f64 y] => v = .complex .f64 y x
  | _ => False)
 | 50, [.float .f64 t] => ∃ re im, v = .complex .f64 re im ∧ cn re = cn (turnF t).1 ∧ cn im = cn (turnF t).2
 | 48, [.complex .f64 a b, .complex .f64 c d] => ∃ re im, v = .complex .f64 re im ∧ cn re = fop .sub (fop .mul a c) (fop .mul b d) ∧ cn im = fop .add (fop .mul a d) (fop .mul b c)
 | 47, [.complex .f64 re im] => v = .agg #[.float .f64 im, .float .f64 re]
 | _, _ => False
theorem numberH {w0 w : World} {L : Bks} (hs : HS w0 w L) (x y : Nat) : Ret Try.prog 49 [.agg #[.float .f64 x, .float .f64 y]] w fun v w' => SPM 49 [.agg #[.float .f64 x, .float .f64 y]].toArray v ∧ HS w0 w' L :=
 Calls.mono (number_ok x y w) fun e w' => by
  rintro ⟨v, rfl, rfl, hs'⟩
  exact ⟨_, rfl, rfl, hs.nil hs'⟩
theorem turnH {w0 w : World} {L : Bks} (hs : HS w0 w L) (t : Nat) (ht : t < 18446744073709551616) : Ret Try.prog 50 [.float .f64 t] w fun v w' => SPM 50 [.float .f64 t].toArray v ∧ HS w0 w' L :=
 Calls.mono (turn_ok t ht w) fun e w' => by
  rintro ⟨v, rfl, re, im, rfl, hs', h1, h2⟩
  exact ⟨_, rfl, ⟨re, im, rfl, h1, h2⟩, hs.nil hs'⟩
theorem mulH {w0 w : World} {L : Bks} (hs : HS w0 w L) (a b c d : Nat) : Ret Try.prog 48 [.complex .f64 a b, .complex .f64 c d] w fun v w' => SPM 48 [.complex .f64 a b, .complex .f64 c d].toArray v ∧ HS w0 w' L :=
 Calls.mono (mul_ok a b c d w) fun e w' => by
  rintro ⟨v, rfl, re, im, rfl, hs', h1, h2⟩
  exact ⟨_, rfl, ⟨re, im, rfl, h1, h2⟩, hs.nil hs'⟩
theorem pointH {w0 w : World} {L : Bks} (hs : HS w0 w L) (re im : Nat) : Ret Try.prog 47 [.complex .f64 re im] w fun v w' => SPM 47 [.complex .f64 re im].toArray v ∧ HS w0 w' L :=
 Calls.mono (point_ok re im w) fun e w' => by
  rintro ⟨v, rfl, rfl, hs'⟩
  exact ⟨_, rfl, rfl, hs.nil hs'⟩
theorem moved_ok (sx sy st px py : Nat) (ht : st < 18446744073709551616) (w0 : World) : Ret Try.prog 28 [.agg #[.float .f64 sx, .float .f64 sy, .float .f64 st], .agg #[.float .f64 px, .float .f64 py]] w0 fun v w' => MovR sx sy st px py v ∧ HS w0 w' [] := by
 refine Ret.start fun w hs => ?_
 refine calls_of_W Try.func28 rfl rfl rfl (W_seq (W_region (L_box rfl hs rfl ?_)))
 intro b2 w hb2 hnb2 hs
 dsimp only [List.set_cons_succ, List.set_cons_zero, List.cons_append, List.nil_append] at hs
 refine L_box rfl hs rfl ?_
 intro b3 w hb3 hnb3 hs
 dsimp only [List.set_cons_succ, List.set_cons_zero, List.cons_append, List.nil_append] at hs
 refine L_alloc rfl hs Try.ti35 ?_
 intro b4 w hb4 hnb4 hs
 dsimp only [List.set_cons_succ, List.set_cons_zero, List.cons_append, List.nil_append] at hs
 refine RL_then (W_seq ?_)
 replace hs : HS w0 w [(b2, Row 37 [.float .f64 sx, .float .f64 sy, .float .f64 st]), (b3, Row 35 [.float .f64 px, .float .f64 py]), (b4, Row 35 [.float .f64 0, .float .f64 0])] := hs
 refine W_sg Try.mixed ?_
 replace hs := hs.drewN 1
 refine SG_stageB [2] [0, 1, 3, 4, 5, 6, 7] [8] (noBk SPM) (g' := 0) (by kernel_rfl) (by kernel_rfl) (fun _ _ _ _ _ h => h) hs ?_
 refine PL_val rfl (fun w => R_fieldAddr (off := 2) Try.underlying37 rfl rfl Try.ti22 rfl) ?_
 refine PL_endB ?_
 refine HB_val rfl (fun w R hR hs => R_loadA Try.agg35 Try.ti35 rfl (by exact cellsAt_whole (cs := [.float .f64 px, .float .f64 py]) (hs.get (i := 1) rfl))) ?_
 refine HB_callH rfl Try.fun49 rfl (fun w R hR hs => numberH hs px py) ?_
 rintro _ rfl
 refine HB_val rfl (fun w R hR hs => R_load Try.one22 rfl (by exact hs.cell (i := 0) rfl rfl)) ?_
 refine HB_callH rfl Try.fun50 rfl (fun w R hR hs => turnH hs st ht) ?_
 rintro _ ⟨tr, ti, rfl, hT1, hT2⟩
 refine HB_callH rfl Try.fun48 rfl (fun w R hR hs => mulH hs _ _ _ _) ?_
 rintro _ ⟨re, im, rfl, hre, him⟩
 refine HB_callH rfl Try.fun47 rfl (fun w R hR hs => pointH hs _ _) ?_
 rintro _ rfl
 refine HB_alloc rfl Try.ti35 ?_
 intro b5 hb5
 refine HB_tail ?_
 intro w hs
 refine L_storeA hs (i := 3) rfl Try.ti35 rfl rfl (by rfl) (by simp) (by simp [Value.oneCell']) ?_
 intro w hs
 dsimp only [List.set_cons_succ, List.set_cons_zero, List.cons_append, List.nil_append] at hs
 refine RL_sg (SG_end (by kernel_rfl) ?_)
 refine Nx_then (W_seq (W_region (L_fieldAddr rfl (off := 0) Try.underlying35 rfl rfl Try.ti22 rfl (L_load rfl Try.one22 rfl (by exact hs.cell (i := 3) rfl rfl) ?_))))
 replace hs : HS w0 w [(b2, Row 37 [.float .f64 sx, .float .f64 sy, .float .f64 st]), (b3, Row 35 [.float .f64 px, .float .f64 py]), (b4, Row 35 [.float .f64 0, .float .f64 0]), (b5, Row 35 [.float .f64 im, .float .f64 re])] := hs
 refine L_fieldAddr rfl (off := 0) Try.underlying37 rfl rfl Try.ti35 rfl (L_fieldAddr rfl (off := 0) Try.underlying35 rfl rfl Try.ti22 rfl (L_load rfl Try.one22 rfl (by exact hs.cell (i := 0) rfl rfl) ?_))
 refine L_farith rfl (op := .add) rfl rfl rfl ?_
 intro r18 k18 hr18
 replace hs := hs.drewN k18
 refine L_fieldAddr rfl (off := 1) Try.underlying35 rfl rfl Try.ti22 rfl (L_load rfl Try.one22 rfl (by exact hs.cell (i := 3) rfl rfl) ?_)
 refine L_fieldAddr rfl (off := 0) Try.underlying37 rfl rfl Try.ti35 rfl (L_fieldAddr rfl (off := 1) Try.underlying35 rfl rfl Try.ti22 rfl (L_load rfl Try.one22 rfl (by exact hs.cell (i := 0) rfl rfl) ?_))
 refine L_farith rfl (op := .add) rfl rfl rfl ?_
 intro r24 k24 hr24
 replace hs := hs.drewN k24
 refine L_build rfl rfl (Pl.built Try.pl35 rfl) (L_storeA hs (i := 2) rfl Try.ti35 rfl rfl (by rfl) (by simp) (by simp [Value.oneCell']) ?_)
 intro w hs
 dsimp only [List.set_cons_succ, List.set_cons_zero, List.cons_append, List.nil_append] at hs
 refine RL_then (W_ret' (Ex_doneC rfl rfl Try.agg35 Try.ti35 (by exact cellsAt_whole (hs.get (i := 2) rfl)) ?_))
 refine ⟨_, rfl, ⟨r18, r24, rfl, ?_, ?_⟩, hs.forget (Own.cons hb2 (Own.cons hb3 (Own.cons hb4 (Own.cons hb5 Own.nil))))⟩
 ·
  exact (Fs.cn hr18).trans (fop_congr (him.trans ((cn_fop ..).symm.trans (by rw [fop_congr (op := .mul) rfl hT2, fop_congr (op := .mul) rfl hT1]))) rfl)
 ·
  exact (Fs.cn hr24).trans (fop_congr (hre.trans ((cn_fop ..).symm.trans (by rw [fop_congr (op := .mul) rfl hT2, fop_congr (op := .mul) rfl hT1]))) rfl)
end Go.Proofs.Ytknpoemkmcdgcaa

namespace Go.Proofs.Ytknpoemkmcdgcaa
open Go Go.Lk
theorem part_ok (A px py n c : Nat) (a : Option Addr) (w0 : World) (hse : w0.cell? ⟨A, 4, none⟩ = some (.slice a n c)) :
  Ret Try.prog 45 [.pointer (some ⟨A, 0, none⟩), .agg #[.float .f64 px, .float .f64 py]] w0 fun v w' => ∃ x y, v = .agg #[.float .f64 x, .float .f64 y] ∧ HS w0 w' [] ∧ cn x = fop .quo px (FloatKind.f64.nearest (n : Int)) ∧ cn y = fop .quo py (FloatKind.f64.nearest (n : Int)) := by
 refine Ret.start fun w hs => ?_
 have hA := World.block_lt_of_cell? w0 _ hse
 refine calls_of_W Try.func45 rfl rfl rfl (W_seq (W_region (L_box rfl hs rfl ?_)))
 intro b3 w hb3 hnb3 hs
 dsimp only [List.set_cons_succ, List.set_cons_zero, List.cons_append, List.nil_append] at hs
 refine L_alloc rfl hs Try.ti35 ?_
 intro b4 w hb4 hnb4 hs
 dsimp only [List.set_cons_succ, List.set_cons_zero, List.cons_append, List.nil_append] at hs
 refine RL_then (W_seq (W_region ?_))
 replace hs : HS w0 w [(b3, Row 35 [.float .f64 px, .float .f64 py]), (b4, Row 35 [.float .f64 0, .float .f64 0])] := hs
 refine L_move rfl rfl (L_nilCheck rfl rfl (L_fieldAddr rfl (off := 4) Try.underlying92 rfl rfl Try.ti60 rfl (L_load rfl Try.one60 rfl (by exact hs.oldcell hse ((Own.cons hb3 (Own.cons hb4 Own.nil)).notin hA)) ?_)))
 refine L_len rfl Try.underlying60 rfl (L_itof rfl Try.underlying3 Try.underlying22 rfl (L_assign rfl rfl (RL_then (W_seq (W_region (L_fieldAddr rfl (off := 0) Try.underlying35 rfl rfl Try.ti22 rfl (L_load rfl Try.one22 rfl (by exact hs.cell (i := 0) rfl rfl) ?_)))))))
 refine L_move rfl rfl (L_farith rfl (op := .quo) rfl rfl rfl ?_)
 intro r15 k15 hr15
 replace hs := hs.drewN k15
 refine L_fieldAddr rfl (off := 1) Try.underlying35 rfl rfl Try.ti22 rfl (L_load rfl Try.one22 rfl (by exact hs.cell (i := 0) rfl rfl) ?_)
 refine L_move rfl rfl (L_farith rfl (op := .quo) rfl rfl rfl ?_)
 intro r19 k19 hr19
 replace hs := hs.drewN k19
 refine L_build rfl rfl (Pl.built Try.pl35 rfl) (L_storeA hs (i := 1) rfl Try.ti35 rfl rfl (by rfl) (by simp) (by simp [Value.oneCell']) ?_)
 intro w hs
 dsimp only [List.set_cons_succ, List.set_cons_zero, List.cons_append, List.nil_append] at hs
 refine RL_then (W_ret' (Ex_doneC rfl rfl Try.agg35 Try.ti35 (by exact cellsAt_whole (hs.get (i := 1) rfl)) ?_))
 exact ⟨_, rfl, _, _, rfl, hs.forget (Own.cons hb3 (Own.cons hb4 Own.nil)), Fs.cn hr15, Fs.cn hr19⟩
theorem floor_ok (x r : Nat) (hx : isnan x = false) (hr : FloatKind.f64.encode ((FloatKind.f64.decode x).integral .down) = r) (w : World) : Ret Try.prog 61 [.float .f64 x] w fun v w' => v = .float .f64 r ∧ w' = w := by
 refine calls_of_W Try.func61 rfl rfl rfl (W_seq (W_region (L_assign rfl rfl (RL_then (W_seq (W_if_true rfl (W_seq (W_region (L_move rfl rfl (RL_val rfl (R_extern Try.ext77 rfl (fun w => run_trunc hx w)) ?_))))))))))
 refine L_assign rfl rfl (RL_then (W_ret' (Ex_then_ret (Ex_done1 rfl rfl ?_))))
 exact ⟨_, rfl, by rw [hr], rfl⟩
def leB (x y : Nat) : Bool := FloatKind.f64.format.order x y == some .lt || FloatKind.f64.format.order x y == some .eq
/-- a cost that is a number -/
theorem cost_near (B A far px py ax ay n c X Y F D Q Z : Nat) (m : Int) (a : Option Addr) (w0 : World) (hfar : w0.cell? ⟨B, 0, none⟩ = some (.float .f64 far)) (hax : w0.cell? ⟨A, 0, none⟩ = some (.float .f64 ax)) (hay : w0.cell? ⟨A, 1, none⟩ = some (.float .f64 ay)) (hse : w0.cell? ⟨A, 4, none⟩ = some (.slice a n c))
  (hX : fop .sub px (fop .quo ax (FloatKind.f64.nearest (n : Int))) = X) (hY : fop .sub py (fop .quo ay (FloatKind.f64.nearest (n : Int))) = Y) (hD : fop .add (fop .mul X X) (fop .mul Y Y) = D) (nD : isnan D = false) (hF : fop .mul far far = F) (nF : isnan F = false) (hle : leB D F = true)
  (hQ : fop .mul (fop .quo D F) 4697254411347427328 = Q) (nQ : isnan Q = false) (hZ : FloatKind.f64.encode ((FloatKind.f64.decode Q).integral .down) = Z) (hm : floatToIntVal .f64 Z .i64 = some m) :
  Ret Try.prog 42 [.pointer (some ⟨B, 0, none⟩), .agg #[.float .f64 px, .float .f64 py], .pointer (some ⟨A, 0, none⟩)] w0 fun v w' => v = .int .i64 m ∧ HS w0 w' [] := by
 refine Ret.start fun w hs => ?_
 have hA := World.block_lt_of_cell? w0 _ hse
 have hB := World.block_lt_of_cell? w0 _ hfar
 refine calls_of_W Try.func42 rfl rfl rfl (W_seq (W_region (L_box rfl hs rfl ?_)))
 intro b4 w hb4 hnb4 hs
 dsimp only [List.set_cons_succ, List.set_cons_zero, List.cons_append, List.nil_append] at hs
 refine L_assign rfl rfl (RL_then (W_seq (W_region ?_)))
 replace hs : HS w0 w [(b4, Row 35 [.float .f64 px, .float .f64 py])] := hs
 have ho : Own w0 [(b4, Row 35 [.float .f64 px, .float .f64 py])] := Own.cons hb4 Own.nil
 have hax' : CellsAt w ⟨A, 0, none⟩ [.float .f64 ax, .float .f64 ay] := fun q v hv => by
  rw [add_lit0]
  match q, hv with
  | 0, rfl => exact hs.oldcell hax (ho.notin hA)
  | 1, rfl => exact hs.oldcell hay (ho.notin hA)
 refine L_move rfl rfl (L_move rfl rfl (L_nilCheck rfl rfl (L_fieldAddr rfl (off := 0) Try.underlying92 rfl rfl Try.ti35 rfl (L_loadA rfl Try.agg35 Try.ti35 rfl (by exact hax') ?_))))
 refine L_call rfl Try.fun45 rfl (part_ok A ax ay n c a w (hs.oldcell hse (ho.notin hA))) ?_
 rintro _ w1 ⟨x, y, rfl, hs', hx, hy⟩
 replace hs := hs.nil hs'
 clear hs'
 refine L_alloc rfl hs Try.ti35 ?_
 intro b7 w hb7 hnb7 hs
 dsimp only [List.set_cons_succ, List.set_cons_zero, List.cons_append, List.nil_append] at hs
 refine L_storeA hs (i := 1) rfl Try.ti35 rfl rfl (by rfl) (by simp) (by simp [Value.oneCell']) ?_
 intro w hs
 dsimp only [List.set_cons_succ, List.set_cons_zero, List.cons_append, List.nil_append] at hs
 refine RL_then (W_seq ?_)
 replace hs : HS w0 w [(b4, Row 35 [.float .f64 px, .float .f64 py]), (b7, Row 35 [.float .f64 x, .float .f64 y])] := hs
 have ho2 : Own w0 [(b4, Row 35 [.float .f64 px, .float .f64 py]), (b7, Row 35 [.float .f64 x, .float .f64 y])] := Own.cons hb4 (Own.cons hb7 Own.nil)
 refine W_sg Try.mixed ?_
 replace hs := hs.drewN 1
 refine SG_stageB [0, 2, 5, 7] [1, 3, 4, 6, 8, 9, 10, 11] [] (noBk (fun _ _ _ => False)) (g' := 0) (by kernel_rfl) (by kernel_rfl) (fun _ _ _ _ _ h => h) hs ?_
 refine PL_val rfl (fun w => R_fieldAddr (off := 0) Try.underlying35 rfl rfl Try.ti22 rfl) ?_
 refine PL_val rfl (fun w => R_fieldAddr (off := 0) Try.underlying35 rfl rfl Try.ti22 rfl) ?_
 refine PL_val rfl (fun w => R_fieldAddr (off := 1) Try.underlying35 rfl rfl Try.ti22 rfl) ?_
 refine PL_val rfl (fun w => R_fieldAddr (off := 1) Try.underlying35 rfl rfl Try.ti22 rfl) ?_
 refine PL_endB ?_
 refine HB_val rfl (fun w R hR hs => R_load Try.one22 rfl (by exact hs.cell (i := 0) rfl rfl)) ?_
 refine HB_val rfl (fun w R hR hs => R_load Try.one22 rfl (by exact hs.cell (i := 1) rfl rfl)) ?_
 refine HB_farith rfl (op := .sub) rfl rfl rfl ?_
 intro r22 hr22
 refine HB_val rfl (fun w R hR hs => R_load Try.one22 rfl (by exact hs.cell (i := 0) rfl rfl)) ?_
 refine HB_val rfl (fun w R hR hs => R_load Try.one22 rfl (by exact hs.cell (i := 1) rfl rfl)) ?_
 refine HB_farith rfl (op := .sub) rfl rfl rfl ?_
 intro r27 hr27
 refine HB_val rfl (fun w R hR hs => R_assign rfl) ?_
 refine HB_val rfl (fun w R hR hs => R_assign rfl) ?_
 refine HB_tail ?_
 intro w hs
 refine RL_sg (SG_end (by kernel_rfl) ?_)
 refine Nx_then (W_seq (W_region (L_move rfl rfl (L_move rfl rfl (L_farith rfl (op := .mul) rfl rfl rfl ?_)))))
 intro r30 k30 hr30
 replace hs := hs.drewN k30
 refine L_move rfl rfl (L_move rfl rfl (L_farith rfl (op := .mul) rfl rfl rfl ?_))
 intro r33 k33 hr33
 replace hs := hs.drewN k33
 refine L_farith rfl (op := .add) rfl rfl rfl ?_
 intro r34 k34 hr34
 replace hs := hs.drewN k34
 refine L_assign rfl rfl (RL_then (W_seq (W_sg Try.mixed ?_)))
 replace hs := hs.drewN 1
 refine SG_stageB [0, 1, 2, 4, 5, 6] [3, 7, 8, 9] [] (noBk (fun _ _ _ => False)) (g' := 0) (by kernel_rfl) (by kernel_rfl) (fun _ _ _ _ _ h => h) hs ?_
 refine PL_val rfl (fun w => R_move rfl) ?_
 refine PL_val rfl (fun w => R_nilCheck rfl) ?_
 refine PL_val rfl (fun w => R_fieldAddr (off := 0) Try.underlying76 rfl rfl Try.ti22 rfl) ?_
 refine PL_val rfl (fun w => R_move rfl) ?_
 refine PL_val rfl (fun w => R_nilCheck rfl) ?_
 refine PL_val rfl (fun w => R_fieldAddr (off := 0) Try.underlying76 rfl rfl Try.ti22 rfl) ?_
 refine PL_endB ?_
 refine HB_val rfl (fun w R hR hs => R_load Try.one22 rfl (by exact HS.oldcell hs hfar ((ho2.app hR).notin hB))) ?_
 refine HB_val rfl (fun w R hR hs => R_load Try.one22 rfl (by exact HS.oldcell hs hfar ((ho2.app hR).notin hB))) ?_
 refine HB_farith rfl (op := .mul) rfl rfl rfl ?_
 intro r43 hr43
 refine HB_val rfl (fun w R hR hs => R_assign rfl) ?_
 refine HB_tail ?_
 intro w hs
 refine RL_sg (SG_end (by kernel_rfl) ?_)
 refine Nx_then (W_seq (W_seq (W_region (L_move rfl rfl (L_move rfl rfl ?_)))))
 refine L_fcmp rfl rfl rfl (fun _ => by rw [binOp_float_cmp_leq]; rfl) ?_
 refine RL_then ?_
 have cX : cn X = X := by rw [← hX, cn_fop]
 have cY : cn Y = Y := by rw [← hY, cn_fop]
 have e22 : cn r22 = cn X := by rw [cX]; exact (Fs.cn hr22).trans ((fop_congr rfl (hx.trans (cn_fop ..).symm)).trans hX)
 have e27 : cn r27 = cn Y := by rw [cY]; exact (Fs.cn hr27).trans ((fop_congr rfl (hy.trans (cn_fop ..).symm)).trans hY)
 obtain rfl : r34 = D := cn_same (by
  rw [cn_num nD, ← hD]
  exact (Fs.cn hr34).trans (fop_congr ((Fs.cn hr30).trans ((fop_congr e22 e22).trans (cn_fop ..).symm)) ((Fs.cn hr33).trans ((fop_congr e27 e27).trans (cn_fop ..).symm)))) nD
 obtain rfl : r43 = F := cn_same (by rw [cn_num nF, ← hF]; exact Fs.cn hr43) nF
 change leB r34 r43 = true at hle
 unfold leB at hle
 rw [hle]
 refine W_if_true rfl (W_seq (W_region (L_move rfl rfl (L_move rfl rfl (L_farith rfl (op := .quo) rfl rfl rfl ?_)))))
 intro r49 k49 hr49
 replace hs := hs.drewN k49
 refine L_farith rfl (op := .mul) rfl rfl rfl ?_
 intro r50 k50 hr50
 replace hs := hs.drewN k50
 obtain rfl : r50 = Q := cn_same (by
  rw [cn_num nQ, ← hQ]
  exact (Fs.cn hr50).trans (fop_congr ((Fs.cn hr49).trans (cn_fop ..).symm) rfl)) nQ
 refine L_call rfl Try.fun61 rfl (floor_ok r50 Z nQ hZ _) ?_
 rintro _ _ ⟨rfl, rfl⟩
 refine RL_val rfl (R_ftoi Try.underlying22 Try.underlying2 rfl hm) (L_assign rfl rfl (RL_then (W_ret' (Ex_then_ret (Ex_done1 rfl rfl ?_)))))
 exact ⟨_, rfl, rfl, hs.forget ho2⟩
/-- too far -/
theorem cost_far (B A far px py ax ay n c X Y F D : Nat) (a : Option Addr) (w0 : World) (hfar : w0.cell? ⟨B, 0, none⟩ = some (.float .f64 far)) (hax : w0.cell? ⟨A, 0, none⟩ = some (.float .f64 ax)) (hay : w0.cell? ⟨A, 1, none⟩ = some (.float .f64 ay)) (hse : w0.cell? ⟨A, 4, none⟩ = some (.slice a n c))
  (hX : fop .sub px (fop .quo ax (FloatKind.f64.nearest (n : Int))) = X) (hY : fop .sub py (fop .quo ay (FloatKind.f64.nearest (n : Int))) = Y) (hD : fop .add (fop .mul X X) (fop .mul Y Y) = D) (hF : fop .mul far far = F) (hle : leB D F = false) :
  Ret Try.prog 42 [.pointer (some ⟨B, 0, none⟩), .agg #[.float .f64 px, .float .f64 py], .pointer (some ⟨A, 0, none⟩)] w0 fun v w' => v = .int .i64 (-1) ∧ HS w0 w' [] := by
 refine Ret.start fun w hs => ?_
 have hA := World.block_lt_of_cell? w0 _ hse
 have hB := World.block_lt_of_cell? w0 _ hfar
 refine calls_of_W Try.func42 rfl rfl rfl (W_seq (W_region (L_box rfl hs rfl ?_)))
 intro b4 w hb4 hnb4 hs
 dsimp only [List.set_cons_succ, List.set_cons_zero, List.cons_append, List.nil_append] at hs
 refine L_assign rfl rfl (RL_then (W_seq (W_region ?_)))
 replace hs : HS w0 w [(b4, Row 35 [.float .f64 px, .float .f64 py])] := hs
 have ho : Own w0 [(b4, Row 35 [.float .f64 px, .float .f64 py])] := Own.cons hb4 Own.nil
 have hax' : CellsAt w ⟨A, 0, none⟩ [.float .f64 ax, .float .f64 ay] := fun q v hv => by
  rw [add_lit0]
  match q, hv with
  | 0, rfl => exact hs.oldcell hax (ho.notin hA)
  | 1, rfl => exact hs.oldcell hay (ho.notin hA)
 refine L_move rfl rfl (L_move rfl rfl (L_nilCheck rfl rfl (L_fieldAddr rfl (off := 0) Try.underlying92 rfl rfl Try.ti35 rfl (L_loadA rfl Try.agg35 Try.ti35 rfl (by exact hax') ?_))))
 refine L_call rfl Try.fun45 rfl (part_ok A ax ay n c a w (hs.oldcell hse (ho.notin hA))) ?_
 rintro _ w1 ⟨x, y, rfl, hs', hx, hy⟩
 replace hs := hs.nil hs'
 clear hs'
 refine L_alloc rfl hs Try.ti35 ?_
 intro b7 w hb7 hnb7 hs
 dsimp only [List.set_cons_succ, List.set_cons_zero, List.cons_append, List.nil_append] at hs
 refine L_storeA hs (i := 1) rfl Try.ti35 rfl rfl (by rfl) (by simp) (by simp [Value.oneCell']) ?_
 intro w hs
 dsimp only [List.set_cons_succ, List.set_cons_zero, List.cons_append, List.nil_append] at hs
 refine RL_then (W_seq ?_)
 replace hs : HS w0 w [(b4, Row 35 [.float .f64 px, .float .f64 py]), (b7, Row 35 [.float .f64 x, .float .f64 y])] := hs
 have ho2 : Own w0 [(b4, Row 35 [.float .f64 px, .float .f64 py]), (b7, Row 35 [.float .f64 x, .float .f64 y])] := Own.cons hb4 (Own.cons hb7 Own.nil)
 refine W_sg Try.mixed ?_
 replace hs := hs.drewN 1
 refine SG_stageB [0, 2, 5, 7] [1, 3, 4, 6, 8, 9, 10, 11] [] (noBk (fun _ _ _ => False)) (g' := 0) (by kernel_rfl) (by kernel_rfl) (fun _ _ _ _ _ h => h) hs ?_
 refine PL_val rfl (fun w => R_fieldAddr (off := 0) Try.underlying35 rfl rfl Try.ti22 rfl) ?_
 refine PL_val rfl (fun w => R_fieldAddr (off := 0) Try.underlying35 rfl rfl Try.ti22 rfl) ?_
 refine PL_val rfl (fun w => R_fieldAddr (off := 1) Try.underlying35 rfl rfl Try.ti22 rfl) ?_
 refine PL_val rfl (fun w => R_fieldAddr (off := 1) Try.underlying35 rfl rfl Try.ti22 rfl) ?_
 refine PL_endB ?_
 refine HB_val rfl (fun w R hR hs => R_load Try.one22 rfl (by exact hs.cell (i := 0) rfl rfl)) ?_
 refine HB_val rfl (fun w R hR hs => R_load Try.one22 rfl (by exact hs.cell (i := 1) rfl rfl)) ?_
 refine HB_farith rfl (op := .sub) rfl rfl rfl ?_
 intro r22 hr22
 refine HB_val rfl (fun w R hR hs => R_load Try.one22 rfl (by exact hs.cell (i := 0) rfl rfl)) ?_
 refine HB_val rfl (fun w R hR hs => R_load Try.one22 rfl (by exact hs.cell (i := 1) rfl rfl)) ?_
 refine HB_farith rfl (op := .sub) rfl rfl rfl ?_
 intro r27 hr27
 refine HB_val rfl (fun w R hR hs => R_assign rfl) ?_
 refine HB_val rfl (fun w R hR hs => R_assign rfl) ?_
 refine HB_tail ?_
 intro w hs
 refine RL_sg (SG_end (by kernel_rfl) ?_)
 refine Nx_then (W_seq (W_region (L_move rfl rfl (L_move rfl rfl (L_farith rfl (op := .mul) rfl rfl rfl ?_)))))
 intro r30 k30 hr30
 replace hs := hs.drewN k30
 refine L_move rfl rfl (L_move rfl rfl (L_farith rfl (op := .mul) rfl rfl rfl ?_))
 intro r33 k33 hr33
 replace hs := hs.drewN k33
 refine L_farith rfl (op := .add) rfl rfl rfl ?_
 intro r34 k34 hr34
 replace hs := hs.drewN k34
 refine L_assign rfl rfl (RL_then (W_seq (W_sg Try.mixed ?_)))
 replace hs := hs.drewN 1
 refine SG_stageB [0, 1, 2, 4, 5, 6] [3, 7, 8, 9] [] (noBk (fun _ _ _ => False)) (g' := 0) (by kernel_rfl) (by kernel_rfl) (fun _ _ _ _ _ h => h) hs ?_
 refine PL_val rfl (fun w => R_move rfl) ?_
 refine PL_val rfl (fun w => R_nilCheck rfl) ?_
 refine PL_val rfl (fun w => R_fieldAddr (off := 0) Try.underlying76 rfl rfl Try.ti22 rfl) ?_
 refine PL_val rfl (fun w => R_move rfl) ?_
 refine PL_val rfl (fun w => R_nilCheck rfl) ?_
 refine PL_val rfl (fun w => R_fieldAddr (off := 0) Try.underlying76 rfl rfl Try.ti22 rfl) ?_
 refine PL_endB ?_
 refine HB_val rfl (fun w R hR hs => R_load Try.one22 rfl (by exact HS.oldcell hs hfar ((ho2.app hR).notin hB))) ?_
 refine HB_val rfl (fun w R hR hs => R_load Try.one22 rfl (by exact HS.oldcell hs hfar ((ho2.app hR).notin hB))) ?_
 refine HB_farith rfl (op := .mul) rfl rfl rfl ?_
 intro r43 hr43
 refine HB_val rfl (fun w R hR hs => R_assign rfl) ?_
 refine HB_tail ?_
 intro w hs
 refine RL_sg (SG_end (by kernel_rfl) ?_)
 refine Nx_then (W_seq (W_seq (W_region (L_move rfl rfl (L_move rfl rfl ?_)))))
 refine L_fcmp rfl rfl rfl (fun _ => by rw [binOp_float_cmp_leq]; rfl) ?_
 refine RL_then ?_
 have cX : cn X = X := by rw [← hX, cn_fop]
 have cY : cn Y = Y := by rw [← hY, cn_fop]
 have e22 : cn r22 = cn X := by rw [cX]; exact (Fs.cn hr22).trans ((fop_congr rfl (hx.trans (cn_fop ..).symm)).trans hX)
 have e27 : cn r27 = cn Y := by rw [cY]; exact (Fs.cn hr27).trans ((fop_congr rfl (hy.trans (cn_fop ..).symm)).trans hY)
 have e34 : cn r34 = cn D := by
  rw [← hD, cn_fop]
  exact (Fs.cn hr34).trans (fop_congr ((Fs.cn hr30).trans ((fop_congr e22 e22).trans (cn_fop ..).symm)) ((Fs.cn hr33).trans ((fop_congr e27 e27).trans (cn_fop ..).symm)))
 have e43 : cn r43 = cn F := by rw [← hF, cn_fop]; exact Fs.cn hr43
 unfold leB at hle
 rw [← order_congr e34 e43] at hle
 rw [hle]
 refine W_if_false rfl (W_skip' (Nx_then (W_seq (W_region (L_assign rfl rfl (RL_then (W_ret' (Ex_done1 rfl rfl ?_))))))))
 exact ⟨_, rfl, rfl, hs.forget ho2⟩
/-! ### The cost, of any two -/
def cX (p a n : Nat) : Nat := fop .sub p (fop .quo a (FloatKind.f64.nearest (n : Int)))
def cD (px py ax ay n : Nat) : Nat := fop .add (fop .mul (cX px ax n) (cX px ax n)) (fop .mul (cX py ay n) (cX py ay n))
def cQ (D F : Nat) : Nat := fop .mul (fop .quo D F) 4697254411347427328
def cV (Q : Nat) : Option Int := floatToIntVal .f64 (FloatKind.f64.encode ((FloatKind.f64.decode Q).integral .down)) .i64
def costF (far px py ax ay n : Nat) : Int := if leB (cD px py ax ay n) (fop .mul far far) then (cV (cQ (cD px py ax ay n) (fop .mul far far))).getD 0 else -1
structure FarOk (far : Nat) : Prop where
 lt : far < 18446744073709551616
 fin : finB far = true
 low : (FloatKind.f64.format.order far 4156822456062967808 == some .lt) = false
 high : (FloatKind.f64.format.order far 5057542381537067008 == some .gt) = false
theorem FarOk.fv {far : Nat} (h : FarOk far) : ∃ r, 4156822456062967808 ≤ r ∧ r ≤ 5057542381537067008 ∧ far = r := by
 rcases classify h.lt with ⟨v, hv⟩ | ⟨s, hs⟩ | hn
 ·
  have h1 := h.low
  have h2 := h.high
  have va := FV.nat (r := 4156822456062967808) (by decide)
  have vb := FV.nat (r := 5057542381537067008) (by decide)
  rw [hv.order va] at h1
  rw [hv.order vb] at h2
  have l1 : ¬ v < (rv 4156822456062967808 : Int) := fun hh => by rw [Int.compare_eq_lt.2 hh] at h1; exact absurd h1 (by decide)
  have l2 : ¬ (rv 5057542381537067008 : Int) < v := fun hh => by rw [Int.compare_eq_gt.2 hh] at h2; exact absurd h2 (by decide)
  obtain ⟨s, r, h3, h4, h5⟩ := hv
  have pa : 0 < rv 4156822456062967808 := Nat.pos_of_ne_zero fun h => absurd (rv_zero.1 h) (by decide)
  have hs : s = false := by
   cases s
   ·
    rfl
   ·
    simp at h5; omega
  subst hs
  simp at h5
  subst h5
  exact ⟨r, rv_le.1 (by omega), rv_le.1 (by omega), by rw [h3, word_false]⟩
 ·
  have h1 := h.low
  have h2 := h.high
  have ea : Ieee.double.read 4156822456062967808 = .number false 4503599627370496 (-152) := by decide +kernel
  have eb : Ieee.double.read 5057542381537067008 = .number false 4503599627370496 48 := by decide +kernel
  have f1 : FloatKind.f64.format.order far 4156822456062967808 = (Ieee.double.read far).order (Ieee.double.read 4156822456062967808) := rfl
  have f2 : FloatKind.f64.format.order far 5057542381537067008 = (Ieee.double.read far).order (Ieee.double.read 5057542381537067008) := rfl
  rw [f1, hs, ea] at h1
  rw [f2, hs, eb] at h2
  cases s
  ·
   exact absurd h2 (by decide)
  ·
   exact absurd h1 (by decide)
 ·
  have h1 := h.fin
  unfold finB nanB at h1
  rw [order_nanL hn] at h1
  exact absurd h1 (by simp)
theorem rungU_at {a k : Nat} (ha : a < 9218868437227405312) (ha0 : a ≠ 0) (hk : k < 9218868437227405312) (h : floatBits .mul .f64 a a = some k) : rungU (rv a * rv a) = k := by
 have va := FV.nat ha
 obtain ⟨r, h1, _, h2⟩ := fv_mul va va
 have p : 0 < rv a := Nat.pos_of_ne_zero fun h => ha0 (rv_zero.1 h)
 have hp : (0 : Int) < (rv a : Int) * (rv a : Int) := Int.mul_pos (by omega) (by omega)
 have h3 := h2 (by omega)
 rw [decide_eq_false (by omega), word_false, Int.natAbs_natCast] at h3
 have h4 := Option.some.inj (h1.symm.trans h)
 omega
theorem FarOk.sq {far : Nat} (h : FarOk far) (e : Nat) (he : e = 2000) : ∃ u, FV (fop .mul far far) u ∧ 0 < u ∧ u.natAbs ≤ 2 ^ e := by
 obtain ⟨r, h1, h2, rfl⟩ := h.fv
 have hv := FV.nat (r := far) (by omega)
 have p : 0 < rv far := Nat.pos_of_ne_zero fun h => by have := rv_zero.1 h; omega
 obtain ⟨F, h3, _, h4⟩ := fv_mul hv hv
 have hp : (0 : Int) < (rv far : Int) * (rv far : Int) := Int.mul_pos (by omega) (by omega)
 have h5 := h4 (by omega)
 rw [decide_eq_false (by omega), word_false, Int.natAbs_natCast] at h5
 have ka := rungU_at (a := 4156822456062967808) (k := 3706462493325918208) (by decide) (by decide) (by decide) (by decide +kernel)
 have kb := rungU_at (a := 5057542381537067008) (k := 5507902344274116608) (by decide) (by decide) (by decide) (by decide +kernel)
 have la := rv_le.2 h1
 have lb := rv_le.2 h2
 have pa : 0 < rv 4156822456062967808 := Nat.pos_of_ne_zero fun h => absurd (rv_zero.1 h) (by decide)
 have ma : rungU (rv 4156822456062967808 * rv 4156822456062967808) ≤ rungU (rv far * rv far) := rungU_mono (Nat.mul_ne_zero (by omega) (by omega)) (Nat.mul_le_mul la la)
 have mb : rungU (rv far * rv far) ≤ rungU (rv 5057542381537067008 * rv 5057542381537067008) := rungU_mono (Nat.mul_ne_zero (by omega) (by omega)) (Nat.mul_le_mul lb lb)
 rw [ka] at ma
 rw [kb] at mb
 have hF : F = rungU (rv far * rv far) := by omega
 refine ⟨(rv F : Int), ?_, ?_, ?_⟩
 ·
  rw [fop_some h3]; exact FV.nat (by omega)
 ·
  have : rv F ≠ 0 := fun h => by have := rv_zero.1 h; omega
  omega
 ·
  rw [Int.natAbs_natCast]
  refine Nat.le_trans (rv_le.2 (show F ≤ 5507902344274116608 by omega)) ?_
  obtain ⟨e', he'⟩ : ∃ e', e' = 1222 := ⟨_, rfl⟩
  rw [rv_norm (r := 5507902344274116608) (e := e') (m := 0) (by omega) (by decide), Nat.add_zero, ← two52, ← Nat.pow_add]
  exact Nat.pow_le_pow_right (by decide) (by omega)
theorem cost_some {far px py ax ay n : Nat} (hf : FarOk far) (hle : leB (cD px py ax ay n) (fop .mul far far) = true) :
  isnan (cD px py ax ay n) = false ∧ isnan (fop .mul far far) = false ∧ isnan (cQ (cD px py ax ay n) (fop .mul far far)) = false ∧ ∃ m : Nat, m ≤ 1048576 ∧ cV (cQ (cD px py ax ay n) (fop .mul far far)) = some (m : Int) := by
 obtain ⟨c, hc⟩ : ∃ c, c = 1074 := ⟨_, rfl⟩
 obtain ⟨e, he⟩ : ∃ e, e = 2000 := ⟨_, rfl⟩
 obtain ⟨u, hu, hu0, hu2⟩ := hf.sq e he
 have hnD : isnan (cD px py ax ay n) = false := by
  unfold leB at hle
  cases ho : FloatKind.f64.format.order (cD px py ax ay n) (fop .mul far far) with
  | none => rw [ho] at hle; exact absurd hle (by decide)
  | some o => exact order_num ho
 have hD := squares hnD
 obtain ⟨hv, hle2⟩ := fin_of_le hD hu hle
 obtain ⟨r, z, h1, h2, h3, h4⟩ := quo_unit c hc hv hu (Int.natCast_nonneg _) hle2 hu0 e he hu2
 obtain ⟨q, y, k1, k2, k3, k4⟩ := mul_fine c hc h2 h3 h4
 have hq : cQ (cD px py ax ay n) (fop .mul far far) = q := by
  unfold cQ
  rw [show fop .quo (cD px py ax ay n) (fop .mul far far) = r from fop_some h1, fop_some k1]
 rw [hq]
 exact ⟨hnD, hu.num, k2.num, floor_small c hc k2 k3 k4⟩
theorem costF_rng {far px py ax ay n : Nat} (hf : FarOk far) : costF far px py ax ay n = -1 ∨ (0 ≤ costF far px py ax ay n ∧ costF far px py ax ay n ≤ 1048576) := by
 unfold costF
 split
 ·
  next h =>
  obtain ⟨_, _, _, m, h1, h2⟩ := cost_some hf h
  rw [h2]
  right
  show 0 ≤ (m : Int) ∧ (m : Int) ≤ 1048576
  omega
 ·
  exact .inl rfl
theorem cost_ok (B A far px py ax ay n c : Nat) (a : Option Addr) (w0 : World) (hf : FarOk far) (hfar : w0.cell? ⟨B, 0, none⟩ = some (.float .f64 far)) (hax : w0.cell? ⟨A, 0, none⟩ = some (.float .f64 ax)) (hay : w0.cell? ⟨A, 1, none⟩ = some (.float .f64 ay)) (hse : w0.cell? ⟨A, 4, none⟩ = some (.slice a n c)) :
  Ret Try.prog 42 [.pointer (some ⟨B, 0, none⟩), .agg #[.float .f64 px, .float .f64 py], .pointer (some ⟨A, 0, none⟩)] w0 fun v w' => v = .int .i64 (costF far px py ax ay n) ∧ HS w0 w' [] := by
 cases hle : leB (cD px py ax ay n) (fop .mul far far) with
 | true =>
  obtain ⟨h1, h2, h3, m, h4, h5⟩ := cost_some hf hle
  have e : costF far px py ax ay n = (m : Int) := by unfold costF; rw [hle, if_pos rfl, h5]; rfl
  rw [e]
  exact cost_near B A far px py ax ay n c _ _ _ _ _ _ (m : Int) a w0 hfar hax hay hse rfl rfl rfl h1 rfl h2 hle rfl h3 rfl h5
 | false =>
  have e : costF far px py ax ay n = -1 := by unfold costF; rw [hle, if_neg (by decide)]
  rw [e]
  exact cost_far B A far px py ax ay n c _ _ _ _ a w0 hfar hax hay hse rfl rfl rfl rfl hle
theorem costF_congr {far px py ax ay px' py' ax' ay' n : Nat} (h1 : cn px = cn px') (h2 : cn py = cn py') (h3 : cn ax = cn ax') (h4 : cn ay = cn ay') : costF far px py ax ay n = costF far px' py' ax' ay' n := by
 have e1 : cX px ax n = cX px' ax' n := by unfold cX; exact fop_congr h1 (by rw [fop_congr h3 rfl])
 have e2 : cX py ay n = cX py' ay' n := by unfold cX; exact fop_congr h2 (by rw [fop_congr h4 rfl])
 have e3 : cD px py ax ay n = cD px' py' ax' ay' n := by unfold cD; rw [e1, e2]
 unfold costF
 rw [e3]
end Go.Proofs.Ytknpoemkmcdgcaa
