/-
  A part of the proof: what functions that the statement reaches do, or a plain law on what they do. Each theorem holds under its own premises alone.
-/
import Derived.Test.YtdllakfojligjaaTCB8
namespace Go.Proofs.Ytdllakfojligjaa
open Go Go.Lk
theorem write_lt (d : Ieee.Datum) (h : d.isNaN = false) : Ieee.double.write d < 18446744073709551616 := by
 have hw : ∀ s r, r ≤ 9218868437227405312 → Ieee.double.word s r < 18446744073709551616 := fun s r hr => by
  unfold Ieee.Format.word
  rw [double_sw]
  split <;> omega
 cases d with
 | nan s f => simp [Ieee.Datum.isNaN] at h
 | infinity s => exact hw s _ (Nat.le_refl _)
 | number s m p =>
  show Ieee.double.nearest s m p < _
  unfold Ieee.Format.nearest
  dsimp only
  split
  ·
   exact hw s 0 (by omega)
  ·
   exact hw s _ (by rw [double_inf]; exact Nat.min_le_right _ _)
theorem floatBits_lt {op : BinOp} {x y r : Nat} (h : floatBits op .f64 x y = some r) : r < 18446744073709551616 := by
 have key : ∀ o : Option Ieee.Datum, (∀ d, o = some d → d.isNaN = false) → o.map Ieee.double.write = some r → r < 18446744073709551616 := fun o ho hr => by
  cases o with
  | none => cases hr
  | some d => cases hr; exact write_lt d (ho d rfl)
 unfold floatBits at h
 split at h
 ·
  exact key _ (fun d hd => sum_not_nan hd) h
 ·
  exact key _ (fun d hd => sum_not_nan hd) h
 ·
  exact key _ (fun d hd => product_not_nan hd) h
 ·
  exact key _ (fun d hd => quotient_not_nan hd) h
 ·
  cases h
theorem fs_lt {op : BinOp} {x y r : Nat} (h : Fs op x y r) (hn : isnan r = false) : r < 18446744073709551616 := by
 rcases h with h | ⟨_, h⟩
 ·
  exact floatBits_lt h
 ·
  rw [hn] at h; cases h
def truF (x : Nat) : Nat := FloatKind.f64.encode ((FloatKind.f64.decode x).integral .zero)
theorem trunc_ok (x : Nat) (hx : isnan x = false) (w : World) : Ret Try.prog 85 [.float .f64 x] w fun v w' => v = .float .f64 (truF x) ∧ w' = w := by
 refine calls_of_W Try.func85 rfl rfl rfl ?_
 refine W_seq ?_
 refine W_region ?_
 refine L_assign rfl rfl ?_
 refine RL_then ?_
 refine W_seq ?_
 refine W_if_true rfl ?_
 refine W_seq ?_
 refine W_region ?_
 refine L_move rfl rfl ?_
 refine RL_val rfl (R_extern Try.ext93 rfl (fun w => run_trunc hx w)) ?_
 refine L_assign rfl rfl ?_
 refine RL_then ?_
 refine W_ret' ?_
 refine Ex_then_ret ?_
 refine Ex_done1 rfl rfl ?_
 exact ⟨_, rfl, rfl, rfl⟩
def copF (f s : Nat) : Nat := (f &&& (18446744073709551615 - 9223372036854775808)) ||| (s &&& 9223372036854775808)
theorem copy_ok (f s : Nat) (hf : f < 18446744073709551616) (hs : s < 18446744073709551616) (w : World) : Ret Try.prog 86 [.float .f64 f, .float .f64 s] w fun v w' => v = .float .f64 (copF f s) ∧ w' = w := by
 have h1 := u64_andNot_nat f 9223372036854775808 hf (by decide)
 have h2 := u64_and_nat s 9223372036854775808 hs (by decide)
 have h3 := u64_or_nat (f &&& (18446744073709551615 - 9223372036854775808)) (s &&& 9223372036854775808) (Nat.lt_of_le_of_lt Nat.and_le_left hf) (Nat.lt_of_le_of_lt Nat.and_le_left hs)
 refine calls_of_W Try.func86 rfl rfl rfl ?_
 refine W_seq ?_
 refine W_region ?_
 refine L_assign rfl rfl ?_
 refine RL_then ?_
 refine W_seq ?_
 refine W_region ?_
 refine L_move rfl rfl ?_
 refine RL_val rfl (R_f64bits Try.ext46 rfl) ?_
 refine RL_val rfl (R_ibits (by simp) rfl rfl h1) ?_
 refine L_move rfl rfl ?_
 refine RL_val rfl (R_f64bits Try.ext46 rfl) ?_
 refine RL_val rfl (R_ibits (by simp) rfl rfl h2) ?_
 refine RL_val rfl (R_ibits (by simp) rfl rfl h3) ?_
 refine RL_val rfl (R_f64from Try.ext62 rfl) ?_
 refine L_assign rfl rfl ?_
 refine RL_then ?_
 refine W_ret' ?_
 refine Ex_done1 rfl rfl ?_
 exact ⟨_, rfl, rfl, rfl⟩
theorem modf_ok (x : Nat) (hx : isnan x = false) (hx2 : x < 18446744073709551616) (hfin : ∃ r, floatBits .sub .f64 x (truF x) = some r) (w0 : World) : Ret Try.prog 74 [.float .f64 x] w0 fun v w' => ∃ r, floatBits .sub .f64 x (truF x) = some r ∧ v = .tuple #[.float .f64 (truF x), .float .f64 (copF r x)] ∧ HS w0 w' [] := by
 obtain ⟨r, hr⟩ := hfin
 refine Ret.start fun w hs => ?_
 refine calls_of_W Try.func74 rfl rfl rfl ?_
 refine W_seq ?_
 refine W_region ?_
 refine L_assign rfl rfl ?_
 refine L_assign rfl rfl ?_
 refine RL_then ?_
 refine W_seq ?_
 refine W_region ?_
 refine L_move rfl rfl ?_
 refine L_call rfl Try.fun85 rfl (trunc_ok x hx w) ?_
 rintro _ w ⟨rfl, rfl⟩
 refine L_assign rfl rfl ?_
 refine RL_then ?_
 refine W_seq ?_
 refine W_region ?_
 refine L_move rfl rfl ?_
 refine L_move rfl rfl ?_
 refine L_farith rfl (op := .sub) rfl rfl rfl ?_
 intro r8 k8 hr8
 try replace hs := hs.drewN k8
 refine L_move rfl rfl ?_
 obtain rfl := fs_val hr8 hr
 refine L_call rfl Try.fun86 rfl (copy_ok r8 x (floatBits_lt hr) hx2 _) ?_
 rintro _ w ⟨rfl, rfl⟩
 refine L_assign rfl rfl ?_
 refine RL_then ?_
 refine W_ret' ?_
 refine Ex_done2 rfl rfl rfl ?_
 exact ⟨_, rfl, _, hr, rfl, hs⟩
theorem order_num {x y : Nat} {o : Ordering} (h : FloatKind.f64.format.order x y = some o) : isnan x = false := by
 cases hx : isnan x with
 | false => rfl
 | true => rw [order_nanL hx] at h; cases h
theorem sub_self_num {x r : Nat} (h : Fs .sub x x r) (hr : isnan r = false) : ∃ s m p, Ieee.double.read x = .number s m p := by
 rcases h with h | ⟨_, h⟩
 ·
  have h' : (Ieee.Datum.sum (Ieee.double.read x) (Ieee.double.read x).opposite).map Ieee.double.write = some r := h
  cases hx : Ieee.double.read x with
  | nan s f => rw [hx] at h'; simp [Ieee.Datum.sum] at h'
  | infinity s => rw [hx] at h'; cases s <;> simp [Ieee.Datum.sum, Ieee.Datum.opposite] at h'
  | number s m p => exact ⟨s, m, p, rfl⟩
 ·
  rw [hr] at h; cases h
theorem num_facts {x : Nat} (h : ∃ s m p, Ieee.double.read x = .number s m p) : isnan x = false ∧ ∃ r, floatBits .sub .f64 x (truF x) = some r := by
 obtain ⟨s, m, p, h⟩ := h
 have hn : isnan x = false := by show (Ieee.double.read x).isNaN = false; rw [h]; rfl
 refine ⟨hn, ?_⟩
 have h2 : isnan (truF x) = false := write_not_nan _ (by
  show ((Ieee.double.read x).integral .zero).isNaN = false
  rw [h]; rfl)
 have h3 : (Ieee.double.read (truF x)).isNaN = false := h2
 show ∃ r, (Ieee.Datum.sum (Ieee.double.read x) (Ieee.double.read (truF x)).opposite).map Ieee.double.write = some r
 rw [h]
 cases hd : Ieee.double.read (truF x) with
 | nan t f => rw [hd] at h3; cases h3
 | infinity t => exact ⟨_, rfl⟩
 | number t n j => exact ⟨_, rfl⟩
theorem nan_ok (w0 : World) : Ret Try.prog 73 [] w0 fun v w' => ∃ r, v = .float .f64 r ∧ isnan r = true ∧ HS w0 w' [] := by
 refine Ret.start fun w hs => ?_
 refine calls_of_W Try.func73 rfl rfl rfl ?_
 refine W_seq ?_
 refine W_region ?_
 refine L_assign rfl rfl ?_
 refine RL_then ?_
 refine W_seq ?_
 refine W_region ?_
 refine RL_val rfl (R_f64from Try.ext62 (b := 9221120237041090561) rfl) ?_
 refine L_assign rfl rfl ?_
 refine RL_then ?_
 refine W_ret' ?_
 refine Ex_done1 rfl rfl ?_
 exact ⟨_, rfl, _, rfl, by decide +kernel, hs⟩
/-- what a turn is wrapped into -/
def wrapG (y : Nat) : Nat := if (FloatKind.f64.format.order y 4602678819172646912 == some .gt || FloatKind.f64.format.order y 4602678819172646912 == some .eq) then fop .sub y 4607182418800017408 else if FloatKind.f64.format.order y 13826050856027422720 == some .lt then fop .add y 4607182418800017408 else y
def wrapF (x : Nat) : Nat := if FloatKind.f64.format.order (fop .sub x x) 0 != some .eq then qnan else fop .add (wrapG (copF (fop .sub x (truF x)) x)) 0
theorem wrap_ok (x : Nat) (hx2 : x < 18446744073709551616) (w0 : World) : Ret Try.prog 52 [.float .f64 x] w0 fun v w' => ∃ r, v = .float .f64 r ∧ ((isnan r = false → r < 18446744073709551616) ∧ cn r = wrapF x) ∧ HS w0 w' [] := by
 refine Ret.start fun w hs => ?_
 refine calls_of_W Try.func52 rfl rfl rfl ?_
 refine W_seq ?_
 refine W_region ?_
 refine L_assign rfl rfl ?_
 refine RL_then ?_
 refine W_seq ?_
 refine W_seq ?_
 refine W_region ?_
 refine L_move rfl rfl ?_
 refine L_move rfl rfl ?_
 refine L_farith rfl (op := .sub) rfl rfl rfl ?_
 intro r7 k7 hr7
 try replace hs := hs.drewN k7
 cases hc : FloatKind.f64.format.order r7 0 != some .eq
 ·
  have hc' : FloatKind.f64.format.order r7 0 = some .eq := by simpa using hc
  obtain ⟨hn, hfin⟩ := num_facts (sub_self_num hr7 (order_num hc'))
  refine L_fcmp rfl rfl rfl (fun _ => by rw [binOp_float_cmp_neq]; rfl) ?_
  refine RL_then ?_
  refine W_set 8 (v' := .bool false) rfl (by rw [hc]) ?_
  refine W_if_false rfl ?_
  refine W_skip' ?_
  refine Nx_then ?_
  refine W_seq ?_
  refine W_region ?_
  refine L_move rfl rfl ?_
  refine L_call rfl Try.fun74 rfl (modf_ok x hn hx2 hfin _) ?_
  rintro _ w2 ⟨q, hq, rfl, hs'⟩
  replace hs := hs.nil hs'
  clear hs'
  have hw : wrapF x = fop .add (wrapG (copF q x)) 0 := by
   unfold wrapF
   rw [order_congr ((cn_fop ..).trans (Fs.cn hr7).symm) (rfl : cn 0 = _), hc, if_neg (by decide), fop_some hq]
  obtain ⟨y, hy⟩ : ∃ y, y = copF q x := ⟨_, rfl⟩
  rw [← hy] at hw ⊢
  refine L_move rfl rfl ?_
  refine L_extract rfl rfl rfl ?_
  refine L_extract rfl rfl rfl ?_
  refine L_assign rfl rfl ?_
  refine L_assign rfl rfl ?_
  refine RL_then ?_
  refine W_seq ?_
  refine W_block ?_
  refine W_seq ?_
  refine W_region ?_
  refine L_move rfl rfl ?_
  refine L_fcmp rfl rfl rfl (fun _ => by rw [binOp_float_cmp_geq]; rfl) ?_
  refine L_assign rfl rfl ?_
  refine RL_then ?_
  cases hg : (FloatKind.f64.format.order y 4602678819172646912 == some .gt || FloatKind.f64.format.order y 4602678819172646912 == some .eq)
  ·
   refine W_if_false rfl ?_
   refine W_seq ?_
   refine W_region ?_
   refine L_move rfl rfl ?_
   refine L_fcmp rfl rfl rfl (fun _ => by rw [binOp_float_cmp_lss]; rfl) ?_
   refine L_assign rfl rfl ?_
   refine RL_then ?_
   cases hl : FloatKind.f64.format.order y 13826050856027422720 == some .lt
   ·
    refine W_if_false rfl ?_
    refine W_skip' ?_
    refine Nx_block ?_
    refine Nx_then ?_
    refine W_seq ?_
    refine W_region ?_
    refine L_move rfl rfl ?_
    refine L_farith rfl (op := .add) rfl rfl rfl ?_
    intro r26 k26 hr26
    try replace hs := hs.drewN k26
    refine L_assign rfl rfl ?_
    refine RL_then ?_
    refine W_ret' ?_
    refine Ex_done1 rfl rfl ?_
    refine ⟨_, rfl, _, rfl, ⟨fs_lt hr26, ?_⟩, hs⟩
    rw [hw]; unfold wrapG; rw [hg, hl, if_neg (by decide), if_neg (by decide)]
    exact (Fs.cn hr26)
   ·
    refine W_if_true rfl ?_
    refine W_region ?_
    refine L_move rfl rfl ?_
    refine L_farith rfl (op := .add) rfl rfl rfl ?_
    intro r24 k24 hr24
    try replace hs := hs.drewN k24
    refine L_assign rfl rfl ?_
    refine RL_nil' ?_
    refine Nx_block ?_
    refine Nx_then ?_
    refine W_seq ?_
    refine W_region ?_
    refine L_move rfl rfl ?_
    refine L_farith rfl (op := .add) rfl rfl rfl ?_
    intro r26 k26 hr26
    try replace hs := hs.drewN k26
    refine L_assign rfl rfl ?_
    refine RL_then ?_
    refine W_ret' ?_
    refine Ex_done1 rfl rfl ?_
    refine ⟨_, rfl, _, rfl, ⟨fs_lt hr26, ?_⟩, hs⟩
    rw [hw]; unfold wrapG; rw [hg, hl, if_neg (by decide), if_pos rfl]
    exact (Fs.cn hr26).trans (fop_congr ((Fs.cn hr24).trans (cn_fop ..).symm) rfl)
  ·
   refine W_if_true rfl ?_
   refine W_region ?_
   refine L_move rfl rfl ?_
   refine L_farith rfl (op := .sub) rfl rfl rfl ?_
   intro r19 k19 hr19
   try replace hs := hs.drewN k19
   refine L_assign rfl rfl ?_
   refine RL_nil' ?_
   refine Nx_block ?_
   refine Nx_then ?_
   refine W_seq ?_
   refine W_region ?_
   refine L_move rfl rfl ?_
   refine L_farith rfl (op := .add) rfl rfl rfl ?_
   intro r26 k26 hr26
   try replace hs := hs.drewN k26
   refine L_assign rfl rfl ?_
   refine RL_then ?_
   refine W_ret' ?_
   refine Ex_done1 rfl rfl ?_
   refine ⟨_, rfl, _, rfl, ⟨fs_lt hr26, ?_⟩, hs⟩
   rw [hw]; unfold wrapG; rw [hg, if_pos rfl]
   exact (Fs.cn hr26).trans (fop_congr ((Fs.cn hr19).trans (cn_fop ..).symm) rfl)
 ·
  refine L_fcmp rfl rfl rfl (fun _ => by rw [binOp_float_cmp_neq]; rfl) ?_
  refine RL_then ?_
  refine W_set 8 (v' := .bool true) rfl (by rw [hc]) ?_
  refine W_if_true rfl ?_
  refine W_seq ?_
  refine W_region ?_
  refine L_call rfl Try.fun73 rfl (nan_ok _) ?_
  rintro _ w2 ⟨r, rfl, hr, hs'⟩
  replace hs := hs.nil hs'
  refine L_assign rfl rfl ?_
  refine RL_then ?_
  refine W_ret' ?_
  refine Ex_then_ret ?_
  refine Ex_done1 rfl rfl ?_
  refine ⟨_, rfl, _, rfl, ⟨fun h => absurd (hr.symm.trans h) (by decide), ?_⟩, hs⟩
  unfold wrapF
  rw [order_congr ((cn_fop ..).trans (Fs.cn hr7).symm) (rfl : cn 0 = _), hc, if_pos rfl]
  exact cn_nan hr
end Go.Proofs.Ytdllakfojligjaa
