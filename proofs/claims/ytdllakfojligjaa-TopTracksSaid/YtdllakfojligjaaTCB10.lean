/-
  A part of the proof: what functions that the statement reaches do, or a plain law on what they do. Each theorem holds under its own premises alone.
-/
import Derived.Test.YtdllakfojligjaaTCB9
namespace Go.Proofs.Ytdllakfojligjaa
open Go Go.Lk
theorem isnan_neg (x : Nat) : isnan (Op.negFloat .f64 x) = isnan x := by
 have h : Op.negFloat .f64 x % 9223372036854775808 = x % 9223372036854775808 := by
  show (x ^^^ 2 ^ 63) % 2 ^ 63 = x % 2 ^ 63
  rw [Nat.xor_mod_two_pow, Nat.mod_self, Nat.xor_zero]
 have e : ∀ y, isnan y = !(decide (y % 9223372036854775808 ≤ 9218868437227405312)) := fun y => by
  show (Ieee.Format.read Ieee.double y).isNaN = _
  unfold Ieee.Format.read
  rw [double_sw, double_bin, double_inf]
  dsimp only
  split
  ·
   rw [decide_eq_true (by omega)]; rfl
  ·
   split
   ·
    rw [decide_eq_true (by omega)]; rfl
   ·
    split
    ·
     rw [decide_eq_true (by omega)]; rfl
    ·
     rw [decide_eq_false (by omega)]; rfl
 rw [e, e, h]
theorem neg_congr {x y : Nat} (h : cn x = cn y) : cn (Op.negFloat .f64 x) = cn (Op.negFloat .f64 y) := by
 have hn : isnan x = isnan y := by rw [← isnan_cn x, h, isnan_cn]
 cases hx : isnan x with
 | true => rw [cn_nan (by rw [isnan_neg]; exact hx), cn_nan (by rw [isnan_neg, ← hn]; exact hx)]
 | false =>
  rw [cn_num hx, cn_num (by rw [← hn]; exact hx)] at h
  rw [h]
/-- the point of the circle at a turn -/
def tqC (l s n : Bool) (p : Nat × Nat) : Nat × Nat := (fop .add (if l then Op.negFloat .f64 (if s then p.2 else p.1) else (if s then p.2 else p.1)) 0, fop .add (if n then Op.negFloat .f64 (if s then p.1 else p.2) else (if s then p.1 else p.2)) 0)
def tqA (r : Nat) (l : Bool) : Nat := if l then fop .sub 4602678819172646912 (r % 9223372036854775808) else r % 9223372036854775808
def tqB (a : Nat) (s : Bool) : Nat := if s then fop .sub 4598175219545276416 a else a
def tqL (r : Nat) : Bool := FloatKind.f64.format.order (r % 9223372036854775808) 4598175219545276416 == some .gt
def tqS (a : Nat) : Bool := FloatKind.f64.format.order a 4593671619917905920 == some .gt
def tqN (r : Nat) : Bool := FloatKind.f64.format.order r 0 == some .lt
def tqF (r : Nat) : Nat × Nat := if FloatKind.f64.format.order r r != some .eq then (r, r) else tqC (tqL r) (tqS (tqA r (tqL r))) (tqN r) (eigF (tqB (tqA r (tqL r)) (tqS (tqA r (tqL r)))))
def turnF (x : Nat) : Nat × Nat := tqF (wrapF x)
theorem turn_leaf {x r a1 a2 c d : Nat} {l s n : Bool} (hc : (FloatKind.f64.format.order r r != some .eq) = false) (hw : r = wrapF x) (hl : tqL r = l) (h1 : cn a1 = cn (tqA r l)) (hst : tqS a1 = s) (h2 : cn a2 = cn (tqB a1 s)) (hng : tqN r = n)
  (h3 : cn c = (tqC l s n (eigF a2)).1) (h4 : cn d = (tqC l s n (eigF a2)).2) : cn c = cn (turnF x).1 ∧ cn d = cn (turnF x).2 := by
 have e1 : tqS (tqA r l) = s := by rw [← hst]; unfold tqS; rw [order_congr h1 rfl]
 have e2 : eigF a2 = eigF (tqB (tqA r l) s) := eigF_congr (h2.trans (by
  unfold tqB
  split
  ·
   rw [cn_fop, cn_fop]; exact fop_congr rfl h1
  ·
   exact h1))
 have e3 : turnF x = tqC l s n (eigF a2) := by
  unfold turnF tqF
  rw [← hw, hc, if_neg (by decide), hl, e1, hng, e2]
 rw [e3]
 exact ⟨by rw [← h3, cn_cn], by rw [← h4, cn_cn]⟩
set_option maxHeartbeats 1000000 in
theorem turn_ok (x : Nat) (hx2 : x < 18446744073709551616) (w0 : World) : Ret Try.prog 24 [.float .f64 x] w0 fun v w' => ∃ re im, v = .complex .f64 re im ∧ HS w0 w' [] ∧ cn re = cn (turnF x).1 ∧ cn im = cn (turnF x).2 := by
 refine Ret.start fun w hs => ?_
 refine calls_of_W Try.func24 rfl rfl rfl ?_
 refine W_seq ?_
 refine W_region ?_
 refine L_assign rfl rfl ?_
 refine RL_then ?_
 refine W_seq ?_
 refine W_region ?_
 refine L_move rfl rfl ?_
 refine L_call rfl Try.fun52 rfl (wrap_ok x hx2 w) ?_
 rintro _ w1 ⟨r, rfl, ⟨hlt, hwr⟩, hs'⟩
 replace hs := hs.nil hs'
 clear hs'
 refine L_assign rfl rfl ?_
 refine RL_then ?_
 refine W_seq ?_
 refine W_seq ?_
 refine W_region ?_
 refine L_move rfl rfl ?_
 refine L_move rfl rfl ?_
 cases hc : FloatKind.f64.format.order r r != some .eq
 ·
  have hn : isnan r = false := order_num (o := .eq) (y := r) (by simpa using hc)
  rw [cn_num hn] at hwr
  refine L_fcmp rfl rfl rfl (fun _ => by rw [binOp_float_cmp_neq]; rfl) ?_
  refine RL_then ?_
  refine W_set 12 (v' := .bool false) rfl (by rw [hc]) ?_
  refine W_if_false rfl ?_
  refine W_skip' ?_
  refine Nx_then ?_
  refine W_seq ?_
  refine W_region ?_
  refine L_move rfl rfl ?_
  refine L_call rfl Try.fun30 rfl (abs_ok r (hlt hn) w1) ?_
  rintro _ w1 ⟨rfl, rfl⟩
  refine L_assign rfl rfl ?_
  refine RL_then ?_
  refine W_seq ?_
  refine W_region ?_
  refine L_move rfl rfl ?_
  cases hl : FloatKind.f64.format.order (r % 9223372036854775808) 4598175219545276416 == some .gt
  ·
   skip
   refine L_fcmp rfl rfl rfl (fun _ => by rw [binOp_float_cmp_gtr, hl]; rfl) ?_
   refine L_assign rfl rfl ?_
   refine RL_then ?_
   refine W_seq ?_
   refine W_seq ?_
   refine W_region ?_
   refine L_move rfl rfl ?_
   refine RL_then ?_
   refine W_if_false rfl ?_
   refine W_skip' ?_
   refine Nx_then ?_
   refine W_seq ?_
   refine W_region ?_
   refine L_move rfl rfl ?_
   cases hst : FloatKind.f64.format.order (r % 9223372036854775808) 4593671619917905920 == some .gt
   ·
    skip
    refine L_fcmp rfl rfl rfl (fun _ => by rw [binOp_float_cmp_gtr, hst]; rfl) ?_
    refine L_assign rfl rfl ?_
    refine RL_then ?_
    refine W_seq ?_
    refine W_seq ?_
    refine W_region ?_
    refine L_move rfl rfl ?_
    refine RL_then ?_
    refine W_if_false rfl ?_
    refine W_skip' ?_
    refine Nx_then ?_
    refine W_seq ?_
    refine W_region ?_
    refine L_move rfl rfl ?_
    refine L_call rfl Try.fun53 rfl (eighth_ok (r % 9223372036854775808) _) ?_
    rintro _ w2 ⟨re, im, rfl, hs', hre, him⟩
    replace hs := hs.nil hs'
    clear hs'
    refine L_assign rfl rfl ?_
    refine RL_then ?_
    refine W_seq ?_
    refine W_seq ?_
    refine W_region ?_
    refine L_move rfl rfl ?_
    refine RL_then ?_
    refine W_if_false rfl ?_
    refine W_skip' ?_
    refine Nx_then ?_
    refine W_seq ?_
    refine W_seq ?_
    refine W_region ?_
    refine L_move rfl rfl ?_
    refine RL_then ?_
    refine W_if_false rfl ?_
    refine W_skip' ?_
    refine Nx_then ?_
    refine W_seq ?_
    refine W_seq ?_
    refine W_region ?_
    refine L_move rfl rfl ?_
    cases hng : FloatKind.f64.format.order r 0 == some .lt
    ·
     skip
     refine L_fcmp rfl rfl rfl (fun _ => by rw [binOp_float_cmp_lss, hng]; rfl) ?_
     refine RL_then ?_
     refine W_if_false rfl ?_
     refine W_skip' ?_
     refine Nx_then ?_
     refine W_seq ?_
     refine W_region ?_
     refine L_move rfl rfl ?_
     refine L_real rfl rfl ?_
     refine L_farith rfl (op := .add) rfl rfl rfl ?_
     intro r53 k53 hr53
     try replace hs := hs.drewN k53
     refine L_move rfl rfl ?_
     refine L_imag rfl rfl ?_
     refine L_farith rfl (op := .add) rfl rfl rfl ?_
     intro r56 k56 hr56
     try replace hs := hs.drewN k56
     refine L_complex rfl rfl rfl ?_
     refine L_assign rfl rfl ?_
     refine RL_then ?_
     refine W_ret' ?_
     refine Ex_done1 rfl rfl ?_
     refine ⟨_, rfl, _, _, rfl, hs, turn_leaf (a1 := (r % 9223372036854775808)) (a2 := (r % 9223372036854775808)) hc hwr hl rfl hst rfl hng ?_ ?_⟩
     ·
      exact (Fs.cn hr53).trans (fop_congr hre rfl)
     ·
      exact (Fs.cn hr56).trans (fop_congr him rfl)
    ·
     skip
     refine L_fcmp rfl rfl rfl (fun _ => by rw [binOp_float_cmp_lss, hng]; rfl) ?_
     refine RL_then ?_
     refine W_if_true rfl ?_
     refine W_region ?_
     refine L_move rfl rfl ?_
     refine L_real rfl rfl ?_
     refine L_move rfl rfl ?_
     refine L_imag rfl rfl ?_
     refine L_fneg rfl rfl ?_
     refine L_complex rfl rfl rfl ?_
     refine L_assign rfl rfl ?_
     refine RL_then ?_
     refine W_seq ?_
     refine W_region ?_
     refine L_move rfl rfl ?_
     refine L_real rfl rfl ?_
     refine L_farith rfl (op := .add) rfl rfl rfl ?_
     intro r53 k53 hr53
     try replace hs := hs.drewN k53
     refine L_move rfl rfl ?_
     refine L_imag rfl rfl ?_
     refine L_farith rfl (op := .add) rfl rfl rfl ?_
     intro r56 k56 hr56
     try replace hs := hs.drewN k56
     refine L_complex rfl rfl rfl ?_
     refine L_assign rfl rfl ?_
     refine RL_then ?_
     refine W_ret' ?_
     refine Ex_done1 rfl rfl ?_
     refine ⟨_, rfl, _, _, rfl, hs, turn_leaf (a1 := (r % 9223372036854775808)) (a2 := (r % 9223372036854775808)) hc hwr hl rfl hst rfl hng ?_ ?_⟩
     ·
      exact (Fs.cn hr53).trans (fop_congr hre rfl)
     ·
      exact (Fs.cn hr56).trans (fop_congr (neg_congr him) rfl)
   ·
    skip
    refine L_fcmp rfl rfl rfl (fun _ => by rw [binOp_float_cmp_gtr, hst]; rfl) ?_
    refine L_assign rfl rfl ?_
    refine RL_then ?_
    refine W_seq ?_
    refine W_seq ?_
    refine W_region ?_
    refine L_move rfl rfl ?_
    refine RL_then ?_
    refine W_if_true rfl ?_
    refine W_region ?_
    refine L_move rfl rfl ?_
    refine L_farith rfl (op := .sub) rfl rfl rfl ?_
    intro r27 k27 hr27
    try replace hs := hs.drewN k27
    refine L_assign rfl rfl ?_
    refine RL_then ?_
    refine W_seq ?_
    refine W_region ?_
    refine L_move rfl rfl ?_
    refine L_call rfl Try.fun53 rfl (eighth_ok r27 _) ?_
    rintro _ w2 ⟨re, im, rfl, hs', hre, him⟩
    replace hs := hs.nil hs'
    clear hs'
    refine L_assign rfl rfl ?_
    refine RL_then ?_
    refine W_seq ?_
    refine W_seq ?_
    refine W_region ?_
    refine L_move rfl rfl ?_
    refine RL_then ?_
    refine W_if_true rfl ?_
    refine W_region ?_
    refine L_move rfl rfl ?_
    refine L_imag rfl rfl ?_
    refine L_move rfl rfl ?_
    refine L_real rfl rfl ?_
    refine L_complex rfl rfl rfl ?_
    refine L_assign rfl rfl ?_
    refine RL_then ?_
    refine W_seq ?_
    refine W_seq ?_
    refine W_region ?_
    refine L_move rfl rfl ?_
    refine RL_then ?_
    refine W_if_false rfl ?_
    refine W_skip' ?_
    refine Nx_then ?_
    refine W_seq ?_
    refine W_seq ?_
    refine W_region ?_
    refine L_move rfl rfl ?_
    cases hng : FloatKind.f64.format.order r 0 == some .lt
    ·
     skip
     refine L_fcmp rfl rfl rfl (fun _ => by rw [binOp_float_cmp_lss, hng]; rfl) ?_
     refine RL_then ?_
     refine W_if_false rfl ?_
     refine W_skip' ?_
     refine Nx_then ?_
     refine W_seq ?_
     refine W_region ?_
     refine L_move rfl rfl ?_
     refine L_real rfl rfl ?_
     refine L_farith rfl (op := .add) rfl rfl rfl ?_
     intro r53 k53 hr53
     try replace hs := hs.drewN k53
     refine L_move rfl rfl ?_
     refine L_imag rfl rfl ?_
     refine L_farith rfl (op := .add) rfl rfl rfl ?_
     intro r56 k56 hr56
     try replace hs := hs.drewN k56
     refine L_complex rfl rfl rfl ?_
     refine L_assign rfl rfl ?_
     refine RL_then ?_
     refine W_ret' ?_
     refine Ex_done1 rfl rfl ?_
     refine ⟨_, rfl, _, _, rfl, hs, turn_leaf (a1 := (r % 9223372036854775808)) (a2 := r27) hc hwr hl rfl hst ((Fs.cn hr27).trans (cn_fop ..).symm) hng ?_ ?_⟩
     ·
      exact (Fs.cn hr53).trans (fop_congr him rfl)
     ·
      exact (Fs.cn hr56).trans (fop_congr hre rfl)
    ·
     skip
     refine L_fcmp rfl rfl rfl (fun _ => by rw [binOp_float_cmp_lss, hng]; rfl) ?_
     refine RL_then ?_
     refine W_if_true rfl ?_
     refine W_region ?_
     refine L_move rfl rfl ?_
     refine L_real rfl rfl ?_
     refine L_move rfl rfl ?_
     refine L_imag rfl rfl ?_
     refine L_fneg rfl rfl ?_
     refine L_complex rfl rfl rfl ?_
     refine L_assign rfl rfl ?_
     refine RL_then ?_
     refine W_seq ?_
     refine W_region ?_
     refine L_move rfl rfl ?_
     refine L_real rfl rfl ?_
     refine L_farith rfl (op := .add) rfl rfl rfl ?_
     intro r53 k53 hr53
     try replace hs := hs.drewN k53
     refine L_move rfl rfl ?_
     refine L_imag rfl rfl ?_
     refine L_farith rfl (op := .add) rfl rfl rfl ?_
     intro r56 k56 hr56
     try replace hs := hs.drewN k56
     refine L_complex rfl rfl rfl ?_
     refine L_assign rfl rfl ?_
     refine RL_then ?_
     refine W_ret' ?_
     refine Ex_done1 rfl rfl ?_
     refine ⟨_, rfl, _, _, rfl, hs, turn_leaf (a1 := (r % 9223372036854775808)) (a2 := r27) hc hwr hl rfl hst ((Fs.cn hr27).trans (cn_fop ..).symm) hng ?_ ?_⟩
     ·
      exact (Fs.cn hr53).trans (fop_congr him rfl)
     ·
      exact (Fs.cn hr56).trans (fop_congr (neg_congr hre) rfl)
  ·
   skip
   refine L_fcmp rfl rfl rfl (fun _ => by rw [binOp_float_cmp_gtr, hl]; rfl) ?_
   refine L_assign rfl rfl ?_
   refine RL_then ?_
   refine W_seq ?_
   refine W_seq ?_
   refine W_region ?_
   refine L_move rfl rfl ?_
   refine RL_then ?_
   refine W_if_true rfl ?_
   refine W_region ?_
   refine L_move rfl rfl ?_
   refine L_farith rfl (op := .sub) rfl rfl rfl ?_
   intro r22 k22 hr22
   try replace hs := hs.drewN k22
   refine L_assign rfl rfl ?_
   refine RL_then ?_
   refine W_seq ?_
   refine W_region ?_
   refine L_move rfl rfl ?_
   cases hst : FloatKind.f64.format.order r22 4593671619917905920 == some .gt
   ·
    skip
    refine L_fcmp rfl rfl rfl (fun _ => by rw [binOp_float_cmp_gtr, hst]; rfl) ?_
    refine L_assign rfl rfl ?_
    refine RL_then ?_
    refine W_seq ?_
    refine W_seq ?_
    refine W_region ?_
    refine L_move rfl rfl ?_
    refine RL_then ?_
    refine W_if_false rfl ?_
    refine W_skip' ?_
    refine Nx_then ?_
    refine W_seq ?_
    refine W_region ?_
    refine L_move rfl rfl ?_
    refine L_call rfl Try.fun53 rfl (eighth_ok r22 _) ?_
    rintro _ w2 ⟨re, im, rfl, hs', hre, him⟩
    replace hs := hs.nil hs'
    clear hs'
    refine L_assign rfl rfl ?_
    refine RL_then ?_
    refine W_seq ?_
    refine W_seq ?_
    refine W_region ?_
    refine L_move rfl rfl ?_
    refine RL_then ?_
    refine W_if_false rfl ?_
    refine W_skip' ?_
    refine Nx_then ?_
    refine W_seq ?_
    refine W_seq ?_
    refine W_region ?_
    refine L_move rfl rfl ?_
    refine RL_then ?_
    refine W_if_true rfl ?_
    refine W_region ?_
    refine L_move rfl rfl ?_
    refine L_real rfl rfl ?_
    refine L_fneg rfl rfl ?_
    refine L_move rfl rfl ?_
    refine L_imag rfl rfl ?_
    refine L_complex rfl rfl rfl ?_
    refine L_assign rfl rfl ?_
    refine RL_then ?_
    refine W_seq ?_
    refine W_seq ?_
    refine W_region ?_
    refine L_move rfl rfl ?_
    cases hng : FloatKind.f64.format.order r 0 == some .lt
    ·
     skip
     refine L_fcmp rfl rfl rfl (fun _ => by rw [binOp_float_cmp_lss, hng]; rfl) ?_
     refine RL_then ?_
     refine W_if_false rfl ?_
     refine W_skip' ?_
     refine Nx_then ?_
     refine W_seq ?_
     refine W_region ?_
     refine L_move rfl rfl ?_
     refine L_real rfl rfl ?_
     refine L_farith rfl (op := .add) rfl rfl rfl ?_
     intro r53 k53 hr53
     try replace hs := hs.drewN k53
     refine L_move rfl rfl ?_
     refine L_imag rfl rfl ?_
     refine L_farith rfl (op := .add) rfl rfl rfl ?_
     intro r56 k56 hr56
     try replace hs := hs.drewN k56
     refine L_complex rfl rfl rfl ?_
     refine L_assign rfl rfl ?_
     refine RL_then ?_
     refine W_ret' ?_
     refine Ex_done1 rfl rfl ?_
     refine ⟨_, rfl, _, _, rfl, hs, turn_leaf (a1 := r22) (a2 := r22) hc hwr hl ((Fs.cn hr22).trans (cn_fop ..).symm) hst rfl hng ?_ ?_⟩
     ·
      exact (Fs.cn hr53).trans (fop_congr (neg_congr hre) rfl)
     ·
      exact (Fs.cn hr56).trans (fop_congr him rfl)
    ·
     skip
     refine L_fcmp rfl rfl rfl (fun _ => by rw [binOp_float_cmp_lss, hng]; rfl) ?_
     refine RL_then ?_
     refine W_if_true rfl ?_
     refine W_region ?_
     refine L_move rfl rfl ?_
     refine L_real rfl rfl ?_
     refine L_move rfl rfl ?_
     refine L_imag rfl rfl ?_
     refine L_fneg rfl rfl ?_
     refine L_complex rfl rfl rfl ?_
     refine L_assign rfl rfl ?_
     refine RL_then ?_
     refine W_seq ?_
     refine W_region ?_
     refine L_move rfl rfl ?_
     refine L_real rfl rfl ?_
     refine L_farith rfl (op := .add) rfl rfl rfl ?_
     intro r53 k53 hr53
     try replace hs := hs.drewN k53
     refine L_move rfl rfl ?_
     refine L_imag rfl rfl ?_
     refine L_farith rfl (op := .add) rfl rfl rfl ?_
     intro r56 k56 hr56
     try replace hs := hs.drewN k56
     refine L_complex rfl rfl rfl ?_
     refine L_assign rfl rfl ?_
     refine RL_then ?_
     refine W_ret' ?_
     refine Ex_done1 rfl rfl ?_
     refine ⟨_, rfl, _, _, rfl, hs, turn_leaf (a1 := r22) (a2 := r22) hc hwr hl ((Fs.cn hr22).trans (cn_fop ..).symm) hst rfl hng ?_ ?_⟩
     ·
      exact (Fs.cn hr53).trans (fop_congr (neg_congr hre) rfl)
     ·
      exact (Fs.cn hr56).trans (fop_congr (neg_congr him) rfl)
   ·
    skip
    refine L_fcmp rfl rfl rfl (fun _ => by rw [binOp_float_cmp_gtr, hst]; rfl) ?_
    refine L_assign rfl rfl ?_
    refine RL_then ?_
    refine W_seq ?_
    refine W_seq ?_
    refine W_region ?_
    refine L_move rfl rfl ?_
    refine RL_then ?_
    refine W_if_true rfl ?_
    refine W_region ?_
    refine L_move rfl rfl ?_
    refine L_farith rfl (op := .sub) rfl rfl rfl ?_
    intro r27 k27 hr27
    try replace hs := hs.drewN k27
    refine L_assign rfl rfl ?_
    refine RL_then ?_
    refine W_seq ?_
    refine W_region ?_
    refine L_move rfl rfl ?_
    refine L_call rfl Try.fun53 rfl (eighth_ok r27 _) ?_
    rintro _ w2 ⟨re, im, rfl, hs', hre, him⟩
    replace hs := hs.nil hs'
    clear hs'
    refine L_assign rfl rfl ?_
    refine RL_then ?_
    refine W_seq ?_
    refine W_seq ?_
    refine W_region ?_
    refine L_move rfl rfl ?_
    refine RL_then ?_
    refine W_if_true rfl ?_
    refine W_region ?_
    refine L_move rfl rfl ?_
    refine L_imag rfl rfl ?_
    refine L_move rfl rfl ?_
    refine L_real rfl rfl ?_
    refine L_complex rfl rfl rfl ?_
    refine L_assign rfl rfl ?_
    refine RL_then ?_
    refine W_seq ?_
    refine W_seq ?_
    refine W_region ?_
    refine L_move rfl rfl ?_
    refine RL_then ?_
    refine W_if_true rfl ?_
    refine W_region ?_
    refine L_move rfl rfl ?_
    refine L_real rfl rfl ?_
    refine L_fneg rfl rfl ?_
    refine L_move rfl rfl ?_
    refine L_imag rfl rfl ?_
    refine L_complex rfl rfl rfl ?_
    refine L_assign rfl rfl ?_
    refine RL_then ?_
    refine W_seq ?_
    refine W_seq ?_
    refine W_region ?_
    refine L_move rfl rfl ?_
    cases hng : FloatKind.f64.format.order r 0 == some .lt
    ·
     skip
     refine L_fcmp rfl rfl rfl (fun _ => by rw [binOp_float_cmp_lss, hng]; rfl) ?_
     refine RL_then ?_
     refine W_if_false rfl ?_
     refine W_skip' ?_
     refine Nx_then ?_
     refine W_seq ?_
     refine W_region ?_
     refine L_move rfl rfl ?_
     refine L_real rfl rfl ?_
     refine L_farith rfl (op := .add) rfl rfl rfl ?_
     intro r53 k53 hr53
     try replace hs := hs.drewN k53
     refine L_move rfl rfl ?_
     refine L_imag rfl rfl ?_
     refine L_farith rfl (op := .add) rfl rfl rfl ?_
     intro r56 k56 hr56
     try replace hs := hs.drewN k56
     refine L_complex rfl rfl rfl ?_
     refine L_assign rfl rfl ?_
     refine RL_then ?_
     refine W_ret' ?_
     refine Ex_done1 rfl rfl ?_
     refine ⟨_, rfl, _, _, rfl, hs, turn_leaf (a1 := r22) (a2 := r27) hc hwr hl ((Fs.cn hr22).trans (cn_fop ..).symm) hst ((Fs.cn hr27).trans (cn_fop ..).symm) hng ?_ ?_⟩
     ·
      exact (Fs.cn hr53).trans (fop_congr (neg_congr him) rfl)
     ·
      exact (Fs.cn hr56).trans (fop_congr hre rfl)
    ·
     skip
     refine L_fcmp rfl rfl rfl (fun _ => by rw [binOp_float_cmp_lss, hng]; rfl) ?_
     refine RL_then ?_
     refine W_if_true rfl ?_
     refine W_region ?_
     refine L_move rfl rfl ?_
     refine L_real rfl rfl ?_
     refine L_move rfl rfl ?_
     refine L_imag rfl rfl ?_
     refine L_fneg rfl rfl ?_
     refine L_complex rfl rfl rfl ?_
     refine L_assign rfl rfl ?_
     refine RL_then ?_
     refine W_seq ?_
     refine W_region ?_
     refine L_move rfl rfl ?_
     refine L_real rfl rfl ?_
     refine L_farith rfl (op := .add) rfl rfl rfl ?_
     intro r53 k53 hr53
     try replace hs := hs.drewN k53
     refine L_move rfl rfl ?_
     refine L_imag rfl rfl ?_
     refine L_farith rfl (op := .add) rfl rfl rfl ?_
     intro r56 k56 hr56
     try replace hs := hs.drewN k56
     refine L_complex rfl rfl rfl ?_
     refine L_assign rfl rfl ?_
     refine RL_then ?_
     refine W_ret' ?_
     refine Ex_done1 rfl rfl ?_
     refine ⟨_, rfl, _, _, rfl, hs, turn_leaf (a1 := r22) (a2 := r27) hc hwr hl ((Fs.cn hr22).trans (cn_fop ..).symm) hst ((Fs.cn hr27).trans (cn_fop ..).symm) hng ?_ ?_⟩
     ·
      exact (Fs.cn hr53).trans (fop_congr (neg_congr him) rfl)
     ·
      exact (Fs.cn hr56).trans (fop_congr (neg_congr hre) rfl)
 ·
  refine L_fcmp rfl rfl rfl (fun _ => by rw [binOp_float_cmp_neq]; rfl) ?_
  refine RL_then ?_
  refine W_set 12 (v' := .bool true) rfl (by rw [hc]) ?_
  refine W_if_true rfl ?_
  refine W_seq ?_
  refine W_region ?_
  refine L_move rfl rfl ?_
  refine L_move rfl rfl ?_
  refine L_complex rfl rfl rfl ?_
  refine L_assign rfl rfl ?_
  refine RL_then ?_
  refine W_ret' ?_
  refine Ex_then_ret ?_
  refine Ex_done1 rfl rfl ?_
  have hc2 : (FloatKind.f64.format.order (wrapF x) (wrapF x) != some .eq) = true := by rw [← hwr, order_cn]; exact hc
  have e : turnF x = (wrapF x, wrapF x) := by unfold turnF tqF; rw [hc2, if_pos rfl]
  refine ⟨_, rfl, _, _, rfl, hs, ?_, ?_⟩
  ·
   rw [e, ← hwr, cn_cn]
  ·
   rw [e, ← hwr, cn_cn]
end Go.Proofs.Ytdllakfojligjaa
