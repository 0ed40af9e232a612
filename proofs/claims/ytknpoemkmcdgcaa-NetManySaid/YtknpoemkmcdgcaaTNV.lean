/-
 A part of the proof: laws for walks, and plain laws, over any program of the model. Each theorem holds under its own premises alone.
-/
import Derived.Test.YtknpoemkmcdgcaaTNB
import Derived.Test.YtknpoemkmcdgcaaKitQ
import Derived.Test.YtknpoemkmcdgcaaTNE
import Derived.Test.YtknpoemkmcdgcaaTNH
namespace Go.Proofs.Ytknpoemkmcdgcaa
open Go Go.Lk
/-! ### The document's Wrap: plain -/
theorem or_63 {q : Nat} (hq : q < 9223372036854775808) : q ||| 9223372036854775808 = 9223372036854775808 + q := by
 have := Nat.two_pow_add_eq_or_of_lt (i := 63) (b := q) hq 1
 rw [Nat.mul_one] at this
 rw [Nat.or_comm]
 exact this.symm
theorem copF_word (a s : Bool) (q r : Nat) (hq : q < 9223372036854775808) (hr : r < 9223372036854775808) : copF (Ieee.double.word a q) (Ieee.double.word s r) = Ieee.double.word s q := by
 unfold copF
 have h1 : Ieee.double.word a q &&& (18446744073709551615 - 9223372036854775808) = q := by
  rw [show 18446744073709551615 - 9223372036854775808 = 2 ^ 63 - 1 by decide, Nat.and_two_pow_sub_one_eq_mod]
  unfold Ieee.Format.word
  rw [double_sw]
  cases a <;> simp <;> omega
 have h0 : r &&& 9223372036854775808 = 0 := by
  apply Nat.eq_of_testBit_eq
  intro i
  rw [Nat.testBit_and, show (9223372036854775808 : Nat) = 2 ^ 63 by decide, Nat.testBit_two_pow, Nat.zero_testBit]
  by_cases hi : 63 = i
  ·
   subst hi
   rw [Nat.testBit_lt_two_pow (by omega)]; rfl
  ·
   simp [hi]
 have h2 : Ieee.double.word s r &&& 9223372036854775808 = if s then 9223372036854775808 else 0 := by
  unfold Ieee.Format.word
  rw [double_sw]
  cases s
  ·
   simp only [Bool.false_eq_true, if_false]
   exact h0
  ·
   simp only [if_true]
   rw [← or_63 hr, Nat.and_or_distrib_right, h0, Nat.and_self, Nat.zero_or]
 rw [h1, h2]
 unfold Ieee.Format.word
 rw [double_sw]
 cases s
 ·
  simp
 ·
  simp only [if_true]; exact or_63 hq
def tD (x : Nat) : Nat := if FloatKind.f64.format.order x 0 == some .lt then Op.negFloat .f64 (floW (Op.negFloat .f64 x)) else floW x
theorem fv_word (s : Bool) (r : Nat) (h : r < 9218868437227405312) : FV (Ieee.double.word s r) ((if s then -1 else 1) * (rv r : Int)) := ⟨s, r, rfl, h, rfl⟩
theorem fv_nought : FV 0 0 := fv_zero false
theorem tD_word (s : Bool) (r : Nat) (h : r < 9218868437227405312) : ∃ r1, r1 ≤ r ∧ truF (Ieee.double.word s r) = Ieee.double.word s r1 ∧ tD (Ieee.double.word s r) = Ieee.double.word s r1 := by
 obtain ⟨r1, h1, h2, h3, h4⟩ := tru_word s r h
 refine ⟨r1, h1, h2, ?_⟩
 unfold tD
 rw [(fv_word s r h).order fv_nought]
 by_cases hr : r = 0
 ·
  subst hr
  obtain rfl : r1 = 0 := by omega
  rw [show rv 0 = 0 from rv_zero.2 rfl, if_neg (by cases s <;> decide)]
  exact h4 rfl
 ·
  have hp : rv r ≠ 0 := fun h0 => hr (rv_zero.1 h0)
  cases s
  ·
   rw [if_neg]
   ·
    exact h3
   ·
    simp only [Bool.false_eq_true, if_false, Int.one_mul]
    rw [Int.compare_eq_gt.2 (by omega)]
    decide
  ·
   rw [if_pos]
   ·
    rw [neg_word true r (by omega)]
    show Op.negFloat .f64 (floW (Ieee.double.word false r)) = _
    rw [h3, neg_word false r1 (by omega)]
    rfl
   ·
    simp only [if_true]
    rw [Int.compare_eq_lt.2 (by omega)]
    rfl
theorem sub_word (s : Bool) (r r1 : Nat) (h : r < 9218868437227405312) (h1 : r1 ≤ r) : ∃ a q, fop .sub (Ieee.double.word s r) (Ieee.double.word s r1) = Ieee.double.word a q ∧ q < 9218868437227405312 ∧ (q = 0 ∨ a = s) := by
 obtain ⟨c, hc⟩ : ∃ c, c = 1074 := ⟨_, rfl⟩
 obtain ⟨m, p, e1, e2, e3⟩ := read_both r h
 obtain ⟨n, j, f1, f2, f3⟩ := read_both r1 (by omega)
 have hv : Ieee.signed s m (p + 1074).toNat = (if s then -1 else 1) * (rv r : Int) := by rw [signed_eq, e3]
 have hu : Ieee.signed (!s) n (j + 1074).toNat = - ((if s then -1 else 1) * (rv r1 : Int)) := by rw [signed_not, signed_eq, f3]
 obtain ⟨w, g1, g2, g3⟩ := fv_sum c hc e2 f2 hv hu
 have hw : floatBits .sub .f64 (Ieee.double.word s r) (Ieee.double.word s r1) = some w := by
  rw [← g1]
  show (Ieee.Datum.sum (Ieee.double.read _) (Ieee.double.read _).opposite).map Ieee.double.write = _
  rw [e1, f1]
  rfl
 have hf : fop .sub (Ieee.double.word s r) (Ieee.double.word s r1) = w := by unfold fop; rw [hw]; rfl
 rw [hf]
 have hle := rv_le.2 h1
 by_cases h0 : (if s then -1 else 1) * (rv r : Int) + - ((if s then -1 else 1) * (rv r1 : Int)) = 0
 ·
  obtain ⟨a, q, h2, h3, h4⟩ := g2 h0
  refine ⟨a, q, h2, h3, .inl (rv_zero.1 ?_)⟩
  cases a <;> simp at h4 <;> omega
 ·
  refine ⟨_, _, g3 h0, ?_, .inr ?_⟩
  ·
   have hb : ((if s then -1 else 1) * (rv r : Int) + - ((if s then -1 else 1) * (rv r1 : Int))).natAbs ≤ rv r := by cases s <;> simp <;> omega
   have hR := rR_mono (c := c) (T := ((if s then -1 else 1) * (rv r : Int) + - ((if s then -1 else 1) * (rv r1 : Int))).natAbs) (by omega) hb
   have hr0 : r ≠ 0 := fun hr => by
    subst hr
    obtain rfl : r1 = 0 := by omega
    rw [show rv 0 = 0 from rv_zero.2 rfl] at h0
    cases s <;> simp at h0
   rw [rR_rv c r hc hr0] at hR
   exact Nat.lt_of_le_of_lt (Nat.min_le_left _ _) (Nat.lt_of_le_of_lt hR h)
  ·
   cases s
   ·
    simp at h0 ⊢; omega
   ·
    simp at h0 ⊢; omega
theorem isnan_e (y : Nat) : isnan y = !(decide (y % 9223372036854775808 ≤ 9218868437227405312)) := by
 show (Ieee.Format.read Ieee.double y).isNaN = _
 unfold Ieee.Format.read
 rw [double_sw, double_bin, double_inf]
 dsimp only
 split
 ·
  rw [decide_eq_true (by omega)]; rfl
 ·
  split
  ·
   rw [decide_eq_true (by omega)]; rfl
  ·
   split
   ·
    rw [decide_eq_true (by omega)]; rfl
   ·
    rw [decide_eq_false (by omega)]; rfl
theorem word_of {x : Nat} (h : x < 18446744073709551616) : ∃ s r, x = Ieee.double.word s r ∧ r < 9223372036854775808 := by
 refine ⟨decide (9223372036854775808 ≤ x), x % 9223372036854775808, ?_, Nat.mod_lt _ (by decide)⟩
 unfold Ieee.Format.word
 rw [double_sw]
 by_cases hx : 9223372036854775808 ≤ x
 ·
  simp only [hx, decide_true, if_true]; omega
 ·
  simp only [hx, decide_false, Bool.false_eq_true, if_false]; omega
theorem word_mod (s : Bool) {r : Nat} (h : r < 9223372036854775808) : Ieee.double.word s r % 9223372036854775808 = r := by
 unfold Ieee.Format.word
 rw [double_sw]
 cases s <;> simp <;> omega
theorem word_lt (s : Bool) {r : Nat} (h : r < 9223372036854775808) : Ieee.double.word s r < 18446744073709551616 := by
 unfold Ieee.Format.word
 rw [double_sw]
 cases s <;> simp <;> omega
theorem wrapG_lt {y : Nat} (h : y < 18446744073709551616) : wrapG y < 18446744073709551616 := by
 unfold wrapG
 split
 ·
  exact fop_lt _ _ _
 ·
  split
  ·
   exact fop_lt _ _ _
  ·
   exact h
theorem fin_self (s : Bool) (r : Nat) (h : r < 9218868437227405312) : FloatKind.f64.format.order (fop .sub (Ieee.double.word s r) (Ieee.double.word s r)) 0 = some .eq := by
 obtain ⟨a, q, h1, h2, _⟩ := sub_word s r r h (Nat.le_refl _)
 obtain ⟨m, p, e1, e2, e3⟩ := read_both r h
 obtain ⟨c, hc⟩ : ∃ c, c = 1074 := ⟨_, rfl⟩
 have hv : Ieee.signed s m (p + 1074).toNat = (if s then -1 else 1) * (rv r : Int) := by rw [signed_eq, e3]
 have hu : Ieee.signed (!s) m (p + 1074).toNat = - ((if s then -1 else 1) * (rv r : Int)) := by rw [signed_not, signed_eq, e3]
 obtain ⟨w, g1, g2, _⟩ := fv_sum c hc e2 e2 hv hu
 have hw : floatBits .sub .f64 (Ieee.double.word s r) (Ieee.double.word s r) = some w := by
  rw [← g1]
  show (Ieee.Datum.sum (Ieee.double.read _) (Ieee.double.read _).opposite).map Ieee.double.write = _
  rw [e1]
  rfl
 have hf : fop .sub (Ieee.double.word s r) (Ieee.double.word s r) = w := by unfold fop; rw [hw]; rfl
 rw [hf, (g2 (by omega)).order fv_nought]
 rfl
/-- the document's wrapping beside the program's -/
theorem wrap_fin (s : Bool) (r : Nat) (h : r < 9218868437227405312) {y : Nat} (hy : y = wrapG (fop .sub (Ieee.double.word s r) (tD (Ieee.double.word s r)))) :
  (isnan y = true ∧ wrapF (Ieee.double.word s r) = qnan) ∨ (isnan y = false ∧ wrapF (Ieee.double.word s r) = if (FloatKind.f64.format.order y 0 == some .eq) = true then 0 else y) := by
 obtain ⟨r1, h1, h2, h3⟩ := tD_word s r h
 obtain ⟨a, q, h4, h5, h6⟩ := sub_word s r r1 h h1
 have hw : wrapF (Ieee.double.word s r) = fop .add (wrapG (Ieee.double.word s q)) 0 := by
  unfold wrapF
  rw [fin_self s r h, if_neg (by decide), h2, h4, copF_word a s q r (by omega) (by omega)]
 rw [h3, h4] at hy
 rw [hw]
 rcases h6 with hq | hq
 ·
  subst hq hy
  right
  cases a <;> cases s <;> decide +kernel
 ·
  subst hq
  rw [← hy]
  have hl : y < 18446744073709551616 := by rw [hy]; exact wrapG_lt (word_lt a (by omega))
  cases hn : isnan y with
  | true =>
   left
   refine ⟨rfl, ?_⟩
   have : cn y = cn qnan := by rw [cn_nan hn, cn_nan (by decide +kernel)]
   rw [fop_congr (op := .add) this (rfl : cn 0 = cn 0)]
   decide +kernel
  | false => exact .inr ⟨rfl, fop_add0 hl hn⟩
theorem wrapF_inf (s : Bool) : wrapF (Ieee.double.word s 9218868437227405312) = qnan := by cases s <;> decide +kernel
theorem wrapF_nan {x : Nat} (h : isnan x = true) : wrapF x = qnan := by
 unfold wrapF
 have : cn x = cn qnan := by rw [cn_nan h, cn_nan (by decide +kernel)]
 rw [fop_congr (op := .sub) this this, if_pos (by decide +kernel)]
end Go.Proofs.Ytknpoemkmcdgcaa

namespace Go.Proofs.Ytknpoemkmcdgcaa
open Go Go.Lk
/-! ### The document's Wrap: the walk -/
theorem isnanA (x : Nat) (w : World) : Ret Try.prog 54 [.float .f64 x] w fun v w' => v = .bool (FloatKind.f64.format.order x x != some .eq) ∧ w' = w := by
 refine calls_of_W Try.func54 rfl rfl rfl (W_seq (W_region (L_assign rfl rfl (RL_then (W_seq (W_region (L_move rfl rfl (L_move rfl rfl ?_))))))))
 refine L_fcmp rfl rfl rfl (fun _ => by rw [binOp_float_cmp_neq]; rfl) ?_
 refine L_assign rfl rfl (RL_then (W_ret' (Ex_done1 rfl rfl ?_)))
 exact ⟨_, rfl, rfl, rfl⟩
theorem isinfA (x : Nat) (hx : x < 18446744073709551616) (w : World) : Ret Try.prog 55 [.float .f64 x, .int .i64 0] w fun v w' => v = .bool (FloatKind.f64.format.order (x % 9223372036854775808) 9218868437227405311 == some .gt) ∧ w' = w := by
 refine calls_of_W Try.func55 rfl rfl rfl (W_seq (W_region (L_assign rfl rfl (RL_then (W_seq (W_seq (W_region (L_move rfl rfl (L_eql rfl rfl rfl (dtrue (by omega)) ?_)))))))))
 refine RL_then (W_if_true rfl (W_region (L_move rfl rfl (L_call rfl Try.fun26 rfl (abs_ok x hx w) ?_))))
 rintro _ w ⟨rfl, rfl⟩
 refine L_assign rfl rfl (RL_then (W_seq (W_region (L_move rfl rfl ?_))))
 refine L_fcmp rfl rfl rfl (fun _ => by rw [binOp_float_cmp_gtr]; rfl) ?_
 refine L_assign rfl rfl (RL_then (W_ret' (Ex_done1 rfl rfl ?_)))
 exact ⟨_, rfl, rfl, rfl⟩
theorem fin_order (s : Bool) (r : Nat) (h : r < 9218868437227405312) : FloatKind.f64.format.order (Ieee.double.word s r) (Ieee.double.word s r) = some .eq := by
 rw [(fv_word s r h).order (fv_word s r h), Int.compare_eq_eq.2 rfl]
theorem fin_max (r : Nat) (h : r < 9218868437227405312) : (FloatKind.f64.format.order r 9218868437227405311 == some .gt) = false := by
 have h1 := (fv_word false r h).order (fv_word false 9218868437227405311 (by decide))
 have h2 : FloatKind.f64.format.order r 9218868437227405311 = compare ((if false = true then -1 else 1) * (rv r : Int)) ((if false = true then -1 else 1) * (rv 9218868437227405311 : Int)) := h1
 rw [h2]
 have := rv_le.2 (show r ≤ 9218868437227405311 by omega)
 simp only [Bool.false_eq_true, if_false, Int.one_mul]
 have h3 : compare (rv r : Int) (rv 9218868437227405311 : Int) ≠ .gt := fun hg => by
  have := Int.compare_eq_gt.1 hg
  omega
 cases hc : compare (rv r : Int) (rv 9218868437227405311 : Int) with
 | gt => exact absurd hc h3
 | lt => rfl
 | eq => rfl
theorem isnan_word (s : Bool) (r : Nat) (h : r < 9223372036854775808) : isnan (Ieee.double.word s r) = decide (9218868437227405312 < r) := by
 rw [isnan_e, word_mod s h]
 by_cases hr : r ≤ 9218868437227405312
 ·
  rw [decide_eq_true hr, decide_eq_false (by omega)]; rfl
 ·
  rw [decide_eq_false hr, decide_eq_true (by omega)]; rfl
/-- what the document's wrapping answers -/
def WR (x r : Nat) : Prop := (isnan r = true ∧ wrapF x = qnan) ∨ (isnan r = false ∧ r < 18446744073709551616 ∧ wrapF x = if (FloatKind.f64.format.order r 0 == some .eq) = true then 0 else r)
theorem WR.of {s : Bool} {q r : Nat} (h : q < 9218868437227405312) (hr : isnan r = false → r < 18446744073709551616) (hy : cn r = wrapG (fop .sub (Ieee.double.word s q) (tD (Ieee.double.word s q)))) : WR (Ieee.double.word s q) r := by
 cases hn : isnan r with
 | true =>
  left
  rcases wrap_fin s q h hy with ⟨_, h2⟩ | ⟨h1, _⟩
  ·
   exact ⟨hn, h2⟩
  ·
   rw [isnan_cn, hn] at h1; cases h1
 | false =>
  right
  rw [cn_num hn] at hy
  rcases wrap_fin s q h hy with ⟨h1, _⟩ | ⟨_, h2⟩
  ·
   rw [hn] at h1; cases h1
  ·
   exact ⟨hn, hr hn, h2⟩
set_option maxHeartbeats 1000000 in
theorem rwrap_ok (x : Nat) (hx : x < 18446744073709551616) (w0 : World) : Ret Try.prog 85 [.float .f64 x] w0 fun v w' => ∃ r, v = .float .f64 r ∧ WR x r ∧ HS w0 w' [] := by
 refine Ret.start fun w hs => ?_
 obtain ⟨s, q, hxw, hq⟩ := word_of hx
 refine calls_of_W Try.func85 rfl rfl rfl (W_seq (W_region (L_assign rfl rfl (RL_then (W_seq (W_seq (W_region (L_move rfl rfl (L_call rfl Try.fun54 rfl (isnanA x w) ?_)))))))))
 rintro _ w ⟨rfl, rfl⟩
 by_cases hnn : 9218868437227405312 < q
 ·
  have hxn : isnan x = true := by rw [hxw, isnan_word s q hq]; exact decide_eq_true hnn
  rw [order_nanL hxn]
  refine L_move rfl rfl (RL_skip rfl rfl rfl rfl (RL_skip rfl rfl rfl rfl (L_pick_t rfl rfl rfl (RL_then (W_if_true rfl (W_seq (W_region (L_call rfl Try.fun80 rfl (nan_ok _) ?_))))))))
  rintro _ w2 ⟨r, rfl, hr, hs'⟩
  replace hs := hs.nil hs'
  refine L_assign rfl rfl (RL_then (W_ret' (Ex_then_ret (Ex_done1 rfl rfl ?_))))
  exact ⟨_, rfl, _, rfl, .inl ⟨hr, wrapF_nan hxn⟩, hs⟩
 ·
  by_cases hin : q = 9218868437227405312
  ·
   have e1 : FloatKind.f64.format.order x x = some .eq := by rw [hxw, hin]; cases s <;> decide +kernel
   rw [e1]
   refine L_move rfl rfl (RL_want rfl rfl (L_move rfl rfl (RL_want rfl rfl (L_call rfl Try.fun55 rfl (isinfA x hx w) ?_))))
   rintro _ w ⟨rfl, rfl⟩
   have e2 : (FloatKind.f64.format.order (x % 9223372036854775808) 9218868437227405311 == some .gt) = true := by rw [hxw, word_mod s hq, hin]; decide +kernel
   rw [e2]
   refine L_pick_f rfl rfl rfl (RL_then (W_if_true rfl (W_seq (W_region (L_call rfl Try.fun80 rfl (nan_ok _) ?_)))))
   rintro _ w2 ⟨r, rfl, hr, hs'⟩
   replace hs := hs.nil hs'
   refine L_assign rfl rfl (RL_then (W_ret' (Ex_then_ret (Ex_done1 rfl rfl ?_))))
   exact ⟨_, rfl, _, rfl, .inl ⟨hr, by rw [hxw, hin]; exact wrapF_inf s⟩, hs⟩
  ·
   have hqf : q < 9218868437227405312 := by omega
   have e1 : FloatKind.f64.format.order x x = some .eq := by rw [hxw]; exact fin_order s q hqf
   have hxn : isnan x = false := by rw [hxw, isnan_word s q hq]; exact decide_eq_false hnn
   rw [e1]
   refine L_move rfl rfl (RL_want rfl rfl (L_move rfl rfl (RL_want rfl rfl (L_call rfl Try.fun55 rfl (isinfA x hx w) ?_))))
   rintro _ w ⟨rfl, rfl⟩
   have e2 : (FloatKind.f64.format.order (x % 9223372036854775808) 9218868437227405311 == some .gt) = false := by rw [hxw, word_mod s hq]; exact fin_max q hqf
   rw [e2]
   refine L_pick_f rfl rfl rfl (RL_then (W_if_false rfl (W_skip' (Nx_then (W_seq (W_region (L_move rfl rfl (L_call rfl Try.fun61 rfl (floor_ok x (floW x) hxn rfl w) ?_))))))))
   rintro _ w ⟨rfl, rfl⟩
   obtain ⟨td, htd⟩ : ∃ td, td = tD x := ⟨_, rfl⟩
   refine L_assign rfl rfl (RL_then (W_seq (W_seq (W_region (L_move rfl rfl ?_)))))
   refine L_fcmp rfl rfl rfl (fun _ => by rw [binOp_float_cmp_lss]; rfl) ?_
   refine RL_then ?_
   refine W_cut1 (fun (w : World) => [(0, .float .f64 x), (3, .float .f64 td)]) (fun (w : World) => w) (fun (w : World) => (HS w0 w [])) ?_ ?_
   ·
    cases hlt : FloatKind.f64.format.order x 0 == some .lt
    ·
     refine W_set 3 (v' := .float .f64 td) rfl ((by rw [htd]; unfold tD; rw [hlt]; rfl)) ?_
     refine W_if_false rfl (W_skip' (Nx_cutP (w) (is := [0, 3]) (I' := (fun (w : World) => (HS w0 w [])) (w)) rfl rfl rfl ?_))
     exact hs
    ·
     refine W_if_true rfl (W_region (L_move rfl rfl (L_fneg rfl rfl ?_)))
     refine L_call rfl Try.fun61 rfl (floor_ok (Op.negFloat .f64 x) (floW (Op.negFloat .f64 x)) (by rw [isnan_neg]; exact hxn) rfl _) ?_
     rintro _ w ⟨rfl, rfl⟩
     refine L_fneg rfl rfl (L_assign rfl rfl (RL_nil' ?_))
     refine Nx_set 3 (v' := .float .f64 td) rfl ((by rw [htd]; unfold tD; rw [hlt]; rfl)) ?_
     refine Nx_cutP (_) (is := [0, 3]) (I' := (fun (w : World) => (HS w0 w [])) (_)) rfl rfl rfl ?_
     exact hs
   ·
    clear hs
    intro w hI
    show W _ _ _ _ [(0, .float .f64 x), (3, .float .f64 td)] w
    have hs := hI
    clear hI
    refine W_seq (W_region (L_move rfl rfl (L_move rfl rfl (L_farith rfl (op := .sub) rfl rfl rfl ?_))))
    intro r22 k22 hr22
    replace hs := hs.drewN k22
    refine L_assign rfl rfl (RL_then (W_seq (W_seq ?_)))
    have hy : cn r22 = fop .sub x (tD x) := by rw [← htd]; exact Fs.cn hr22
    have o1 : ∀ z, FloatKind.f64.format.order (fop .sub x (tD x)) z = FloatKind.f64.format.order r22 z := fun z => order_congr ((cn_fop ..).trans hy.symm) rfl
    have c1 : cn r22 = cn (fop .sub x (tD x)) := hy.trans (cn_fop ..).symm
    cases hg : (FloatKind.f64.format.order r22 4602678819172646912 == some .gt || FloatKind.f64.format.order r22 4602678819172646912 == some .eq)
    ·
     refine W_region (L_move rfl rfl ?_)
     refine L_fcmp rfl rfl rfl (fun _ => by rw [binOp_float_cmp_geq]; rfl) ?_
     refine RL_then (W_set 24 (v' := .bool false) rfl ((congrArg Value.bool hg)) (W_if_false rfl (W_skip' (Nx_then (W_seq (W_seq (W_region (L_move rfl rfl ?_))))))))
     refine L_fcmp rfl rfl rfl (fun _ => by rw [binOp_float_cmp_lss]; rfl) ?_
     refine RL_then ?_
     cases hl : FloatKind.f64.format.order r22 13826050856027422720 == some .lt
     ·
      refine W_if_false rfl (W_skip' (Nx_then (W_seq (W_region (L_move rfl rfl (L_assign rfl rfl (RL_then (W_ret' (Ex_done1 rfl rfl ?_)))))))))
      refine ⟨_, rfl, _, rfl, ?_, hs⟩
      rw [hxw] at hy o1 c1 ⊢
      refine WR.of hqf (fs_lt hr22) ?_
      unfold wrapG; rw [o1, o1, hg, hl, if_neg (by decide), if_neg (by decide)]
      exact hy
     ·
      refine W_if_true rfl (W_seq (W_region (L_move rfl rfl (L_farith rfl (op := .add) rfl rfl rfl ?_))))
      intro r30 k30 hr30
      replace hs := hs.drewN k30
      refine L_assign rfl rfl (RL_then (W_ret' (Ex_then_ret (Ex_done1 rfl rfl ?_))))
      refine ⟨_, rfl, _, rfl, ?_, hs⟩
      rw [hxw] at hy o1 c1 ⊢
      refine WR.of hqf (fs_lt hr30) ?_
      unfold wrapG; rw [o1, o1, hg, hl, if_neg (by decide), if_pos rfl]
      exact (Fs.cn hr30).trans (fop_congr c1 rfl)
    ·
     refine W_region (L_move rfl rfl ?_)
     refine L_fcmp rfl rfl rfl (fun _ => by rw [binOp_float_cmp_geq]; rfl) ?_
     refine RL_then (W_set 24 (v' := .bool true) rfl ((congrArg Value.bool hg)) (W_if_true rfl (W_seq (W_region (L_move rfl rfl (L_farith rfl (op := .sub) rfl rfl rfl ?_))))))
     intro r26 k26 hr26
     replace hs := hs.drewN k26
     refine L_assign rfl rfl (RL_then (W_ret' (Ex_then_ret (Ex_done1 rfl rfl ?_))))
     refine ⟨_, rfl, _, rfl, ?_, hs⟩
     rw [hxw] at hy o1 c1 ⊢
     refine WR.of hqf (fs_lt hr26) ?_
     unfold wrapG; rw [o1, hg, if_pos rfl]
     exact (Fs.cn hr26).trans (fop_congr c1 rfl)
end Go.Proofs.Ytknpoemkmcdgcaa

namespace Go.Proofs.Ytknpoemkmcdgcaa
open Go Go.Lk
/-! ### The document's rows of sines and cosines -/
theorem rfac_ok (n : Nat) (hn : n ≤ 17) (w0 : World) : Ret Try.prog 97 [.int .i64 n] w0 fun v w' => v = .float .f64 (facF n) ∧ HS w0 w' [] := by
 refine Ret.start fun w hs => ?_
 have f1 : facF 1 = 4607182418800017408 := by decide +kernel
 have f0 : facF 0 = 4607182418800017408 := rfl
 refine calls_of_W Try.func97 rfl rfl rfl (W_seq (W_region (L_assign rfl rfl (RL_then (W_seq (W_region (L_assign rfl rfl (RL_then (W_seq (W_seq (W_region (L_assign rfl rfl ?_))))))))))))
 refine RL_then (W_block (W_set 3 (v' := .float .f64 (facF (0 + 1))) rfl ((by rw [f1])) ?_))
 refine W_loop2 (fun (j : Nat) (w : World) => [(0, .int .i64 n), (3, .float .f64 (facF (j + 1))), (4, .int .i64 ((j + 2 : Nat) : Int))]) (fun (j : Nat) (w : World) => w) (fun (j : Nat) (w : World) => (j = 0 ∨ j + 1 ≤ n) ∧ (HS w0 w [])) (fun (j : Nat) (w : World) => n - j) (0) (w) (is := [0, 3, 4]) rfl rfl ?_ ?_
 ·
  exact ⟨.inl rfl, hs⟩
 ·
  clear hs
  intro j w hI
  show W _ _ _ _ [(0, .int .i64 n), (3, .float .f64 (facF (j + 1))), (4, .int .i64 ((j + 2 : Nat) : Int))] w
  obtain ⟨hj, hs⟩ := hI
  by_cases hlt : j + 2 ≤ n
  ·
   refine W_seq (W_seq (W_region (L_move rfl rfl (L_move rfl rfl (L_leq rfl rfl rfl (dtrue (by omega)) ?_)))))
   refine RL_then (W_if_true rfl (W_skip' (Nx_then (W_seq (W_block (W_region (L_move rfl rfl (L_move rfl rfl (L_itof rfl Try.underlying3 Try.underlying22 rfl (L_farith rfl (op := .mul) rfl rfl rfl ?_))))))))))
   intro r13 k13 hr13
   replace hs := hs.drewN k13
   obtain rfl := fs_val hr13 (fac_ok (j + 1) (by omega))
   refine L_assign rfl rfl (RL_nil' (Nx_block (Nx_then (W_region (L_move rfl rfl (L_add rfl rfl rfl (wrp_i64 (by omega)) ?_))))))
   rw [show ((j + 2 : Nat) : Int) + 1 = ((j + 1 + 2 : Nat) : Int) by omega]
   refine L_assign rfl rfl (RL_nil' ?_)
   refine Nx_loopP (j + 1, _) (is := [0, 3, 4]) (I' := (fun (j : Nat) (w : World) => (j = 0 ∨ j + 1 ≤ n) ∧ (HS w0 w [])) (j + 1) (_)) rfl rfl rfl ?_ ?_
   ·
    exact ⟨.inr (by omega), hs⟩
   ·
    omega
  ·
   refine W_seq (W_seq (W_region (L_move rfl rfl (L_move rfl rfl (L_leq rfl rfl rfl (dfalse (by omega)) ?_)))))
   refine RL_then (W_if_false rfl (W_exit' (Ex_then_exit (Ex_loop_exit (Ex_block_hit (Nx_then (W_seq (W_region (L_move rfl rfl (L_assign rfl rfl (RL_then (W_ret' ?_))))))))))))
   refine Ex_done1 rfl rfl ?_
   refine ⟨_, rfl, ?_, hs⟩
   rcases Nat.eq_zero_or_pos n with h0 | h0
   ·
    obtain rfl : j = 0 := by omega
    rw [h0, f0, f1]
   ·
    obtain rfl : n = j + 1 := by omega
    rfl
def quoE (k i : Nat) : Nat := if k % 2 = 1 then Op.negFloat .f64 (fop .quo 4607182418800017408 (facF i)) else fop .quo 4607182418800017408 (facF i)
theorem one_quo : ∀ i, i < 18 → floatBits .quo .f64 4607182418800017408 (facF i) = some (fop .quo 4607182418800017408 (facF i)) := by decide +kernel
theorem rquo_ok (k i : Nat) (hk : k < 9) (hi : i < 18) (w0 : World) : Ret Try.prog 96 [.int .i64 k, .float .f64 (facF i)] w0 fun v w' => v = .float .f64 (quoE k i) ∧ HS w0 w' [] := by
 refine Ret.start fun w hs => ?_
 have ht : (k : Int).tmod 2 = ((k % 2 : Nat) : Int) := rfl
 refine calls_of_W Try.func96 rfl rfl rfl (W_seq (W_region (L_assign rfl rfl (RL_then (W_seq (W_region (L_move rfl rfl (L_farith rfl (op := .quo) rfl rfl rfl ?_))))))))
 intro r7 k7 hr7
 replace hs := hs.drewN k7
 obtain rfl := fs_val hr7 (one_quo i hi)
 by_cases h1 : k % 2 = 1
 ·
  have h2 : (k : Int).tmod 2 = 1 := by rw [ht, h1]; rfl
  refine L_assign rfl rfl (RL_then (W_seq (W_seq (W_region (L_move rfl rfl (L_rem rfl rfl rfl (by omega) ?_))))))
  refine L_eql rfl rfl rfl (dtrue (by omega)) ?_
  refine RL_then (W_if_true rfl (W_seq (W_region (L_move rfl rfl (L_fneg rfl rfl (L_assign rfl rfl (RL_then (W_ret' (Ex_then_ret (Ex_done1 rfl rfl ?_))))))))))
  exact ⟨_, rfl, by unfold quoE; rw [if_pos h1], hs⟩
 ·
  have h2 : (k : Int).tmod 2 = 0 := by rw [ht, show k % 2 = 0 by omega]; rfl
  refine L_assign rfl rfl (RL_then (W_seq (W_seq (W_region (L_move rfl rfl (L_rem rfl rfl rfl (by omega) ?_))))))
  refine L_eql rfl rfl rfl (dfalse (by omega)) ?_
  refine RL_then (W_if_false rfl (W_skip' (Nx_then (W_seq (W_region (L_move rfl rfl (L_assign rfl rfl (RL_then (W_ret' (Ex_done1 rfl rfl ?_))))))))))
  exact ⟨_, rfl, by unfold quoE; rw [if_neg h1], hs⟩
def rowE (which k : Nat) : Nat := quoE k (2 * k + 1 - which)
def rowL (which : Nat) (n : Nat) : List Nat := (List.range n).map (rowE which)
theorem row_sin : ∀ k, k < 9 → rowE 0 k = (powT 1).getD k 0 := by decide +kernel
theorem row_cos : ∀ k, k < 9 → rowE 1 k = (powT 0).getD k 0 := by decide +kernel
theorem rowL_succ (which n : Nat) : rowL which (n + 1) = rowL which n ++ [rowE which n] := by unfold rowL; rw [List.range_succ, List.map_append]; rfl
theorem rowL_len (which n : Nat) : (rowL which n).length = n := by unfold rowL; simp
theorem rrow_ok (which : Nat) (hwh : which ≤ 1) (w0 : World) : Ret Try.prog 87 [.int .i64 which] w0 fun v w' => ∃ M, HS w0 w' M ∧ Bl w0 22 1 v 9 (fl (rowL which 9)) M := by
 refine Ret.start fun w hs => ?_
 refine calls_of_W Try.func87 rfl rfl rfl (W_seq (W_region (L_assign rfl rfl (RL_then (W_seq (W_region (L_assign rfl rfl (RL_then (W_seq (W_seq (W_region (L_move rfl rfl ?_))))))))))))
 refine L_eql rfl rfl rfl (dfalse (by omega)) ?_
 refine RL_then (W_if_false rfl (W_skip' (Nx_then (W_seq (W_seq (W_region (L_assign rfl rfl (RL_then (W_block ?_)))))))))
 refine W_loop4 (fun (k : Nat) (v : Value) (M : Bks) (w : World) => [(0, .int .i64 which), (3, v), (5, .int .i64 k)]) (fun (k : Nat) (v : Value) (M : Bks) (w : World) => w) (fun (k : Nat) (v : Value) (M : Bks) (w : World) => (k ≤ 9) ∧ (HS w0 w M) ∧ (Bl w0 22 1 v k (fl (rowL which k)) M)) (fun (k : Nat) (v : Value) (M : Bks) (w : World) => 9 - k) (0) (.slice none 0 0) ([]) (w) (is := [0, 3, 5]) rfl rfl ?_ ?_
 ·
  exact ⟨Nat.zero_le _, hs, Bl.nil⟩
 ·
  clear hs
  intro k v M w hI
  show W _ _ _ _ [(0, .int .i64 which), (3, v), (5, .int .i64 k)] w
  obtain ⟨hk, hs, hb⟩ := hI
  by_cases hlt : k < 9
  ·
   refine W_seq (W_seq (W_region (L_move rfl rfl (L_leq rfl rfl rfl (dtrue (by omega)) ?_))))
   refine RL_then (W_if_true rfl (W_skip' (Nx_then (W_seq (W_block (W_region (L_move rfl rfl (L_move rfl rfl (L_move rfl rfl (L_mul rfl rfl rfl (wrp_i64 (by omega)) ?_))))))))))
   refine L_add rfl rfl rfl (wrp_i64 (by omega)) ?_
   refine L_move rfl rfl (L_sub rfl rfl rfl (wrp_i64 (by omega)) ?_)
   rw [show 2 * (k : Int) + 1 - (which : Int) = ((2 * k + 1 - which : Nat) : Int) by omega]
   refine L_call rfl Try.fun97 rfl (rfac_ok (2 * k + 1 - which) (by omega) w) ?_
   rintro _ w1 ⟨rfl, hs'⟩
   have h0 := hs.nil hs'
   clear hs hs'
   have hs := h0
   clear h0
   skip
   refine L_call rfl Try.fun96 rfl (rquo_ok k (2 * k + 1 - which) hlt (by omega) w1) ?_
   rintro _ w2 ⟨rfl, hs'⟩
   have h0 := hs.nil hs'
   clear hs hs'
   have hs := h0
   clear h0
   refine L_buildSlice1 rfl hs Try.underlying106 Try.ti22 rfl (by decide) rfl rfl ?_
   intro b35 w hb35 hnb35 hs
   simp only [List.map_cons, List.map_nil] at hs
   have hs1 : HS w0 w (([] ++ M) ++ [(b35, Row 22 [.float .f64 (quoE k (2 * k + 1 - which))])]) := hs
   clear hs
   refine L_appendT (L := []) (M := M) (news := [.float .f64 (quoE k (2 * k + 1 - which))]) rfl Try.underlying106 Try.ti22 rfl hs1 hb35 hb rfl rfl rfl (by simp [Value.oneCell']) (by omega) (by omega) ?_
   rintro v36 w M36 hs hb36
   rw [List.nil_append] at hs
   refine L_assign rfl rfl (RL_nil' (Nx_block (Nx_then (W_region (L_move rfl rfl (L_add rfl rfl rfl (wrp_i64 (by omega)) ?_))))))
   refine L_assign rfl rfl (RL_nil' ?_)
   refine Nx_loopP (k + 1, v36, M36, _) (is := [0, 3, 5]) (I' := (fun (k : Nat) (v : Value) (M : Bks) (w : World) => (k ≤ 9) ∧ (HS w0 w M) ∧ (Bl w0 22 1 v k (fl (rowL which k)) M)) (k + 1) (v36) (M36) (_)) rfl rfl rfl ?_ ?_
   ·
    refine ⟨hlt, hs, ?_⟩
    rw [rowL_succ]
    unfold fl at hb36 ⊢
    rw [List.map_append]
    exact hb36
   ·
    omega
  ·
   obtain rfl : k = 9 := by omega
   refine W_seq (W_seq (W_region (L_move rfl rfl (L_leq rfl rfl rfl (dfalse (by omega)) ?_))))
   refine RL_then (W_if_false rfl (W_exit' (Ex_then_exit (Ex_loop_exit (Ex_block_hit (Nx_then (W_seq (W_region (L_move rfl rfl (L_assign rfl rfl (RL_then (W_ret' ?_))))))))))))
   refine Ex_done1 rfl rfl ?_
   exact ⟨_, rfl, M, hs, hb⟩
end Go.Proofs.Ytknpoemkmcdgcaa

namespace Go.Proofs.Ytknpoemkmcdgcaa
open Go Go.Lk
/-! ### The document's Turn -/
theorem horF_ext {S S' : List Nat} {z : Nat} (h : ∀ j, j < 9 → S.getD j 0 = S'.getD j 0) : ∀ m, horF S z m = horF S' z m
 | 0 => h 8 (by decide)
 | m + 1 => by unfold horF; rw [horF_ext h m, h (7 - m) (by omega)]
theorem rowL_get (which : Nat) {j : Nat} (h : j < 9) : (rowL which 9).getD j 0 = rowE which j := by
 unfold rowL
 rw [List.getD_eq_getElem?_getD, List.getElem?_map, List.getElem?_range h]; rfl
theorem hor_row0 (z : Nat) : horF (rowL 0 9) z 8 = horF (powT 1) z 8 := horF_ext (fun j hj => by rw [rowL_get 0 hj]; exact row_sin j hj) 8
theorem hor_row1 (z : Nat) : horF (rowL 1 9) z 8 = horF (powT 0) z 8 := horF_ext (fun j hj => by rw [rowL_get 1 hj]; exact row_cos j hj) 8
theorem rfold_ok (a : Option Addr) (c : Nat) (S : List Nat) (z : Nat) (w0 : World) (hx : SlC w0 a (fl S)) (hS : S.length = 9) :
  Ret Try.prog 86 [.slice a 9 c, .float .f64 z] w0 fun v w' => ∃ r, v = .float .f64 r ∧ HS w0 w' [] ∧ cn r = cn (horF S z 8) := by
 refine Ret.start fun w hs => ?_
 have hld : ∀ {w : World}, HS w0 w [] → ∀ j, j < 9 → w.cell? ((aD a).add j) = some (.float .f64 (S.getD j 0)) := fun {w} hs j hj => (hx.old hs Own.nil).get (fl_get (by omega))
 refine calls_of_W Try.func86 rfl rfl rfl (W_seq (W_region (L_assign rfl rfl (RL_then (W_seq (W_region (L_move rfl rfl (L_move rfl rfl (L_len rfl Try.underlying106 rfl (L_sub rfl rfl rfl (wrp_i64 (by omega)) ?_))))))))))
 refine L_idx1 rfl Try.underlying106 Try.ti22 rfl rfl (j := 8) rfl (by omega) (hx.ao (by rw [fl_length]; omega)) ?_
 refine L_load rfl Try.one22 rfl (by exact hld hs 8 (by decide)) ?_
 refine L_assign rfl rfl (RL_then (W_seq (W_seq (W_region (L_move rfl rfl (L_len rfl Try.underlying106 rfl (L_sub rfl rfl rfl (wrp_i64 (by omega)) ?_)))))))
 refine L_assign rfl rfl (RL_then (W_block ?_))
 refine W_loop3 (fun (m : Nat) (r : Nat) (w : World) => [(0, .slice a 9 c), (1, .float .f64 z), (5, .float .f64 r), (6, .int .i64 (7 - (m : Int)))]) (fun (m : Nat) (r : Nat) (w : World) => w) (fun (m : Nat) (r : Nat) (w : World) => (m ≤ 8) ∧ (cn r = cn (horF S z m)) ∧ (HS w0 w [])) (fun (m : Nat) (r : Nat) (w : World) => 9 - m) (0) (_) (w) (is := [0, 1, 5, 6]) rfl rfl ?_ ?_
 ·
  exact ⟨Nat.zero_le _, rfl, hs⟩
 ·
  clear hs
  intro m r w hI
  show W _ _ _ _ [(0, .slice a 9 c), (1, .float .f64 z), (5, .float .f64 r), (6, .int .i64 (7 - (m : Int)))] w
  obtain ⟨hm, hr, hs⟩ := hI
  by_cases hlt : m < 8
  ·
   have hn : (7 - (m : Int)) = ((7 - m : Nat) : Int) := by omega
   refine W_seq (W_seq (W_region (L_move rfl rfl (L_geq rfl rfl rfl (dtrue (by omega)) ?_))))
   refine RL_then (W_if_true rfl (W_skip' (Nx_then (W_seq (W_block (W_seq (W_region (L_move rfl rfl (L_move rfl rfl (L_farith rfl (op := .mul) rfl rfl rfl ?_))))))))))
   intro r23 k23 hr23
   replace hs := hs.drewN k23
   refine L_assign rfl rfl (RL_then (W_region (L_move rfl rfl (L_move rfl rfl (L_move rfl rfl ?_)))))
   refine L_idx1 rfl Try.underlying106 Try.ti22 rfl rfl hn (by omega) (hx.ao (by rw [fl_length]; omega)) ?_
   refine L_load rfl Try.one22 rfl (by exact hld hs (7 - m) (by omega)) ?_
   refine L_farith rfl (op := .add) rfl rfl rfl ?_
   intro r29 k29 hr29
   replace hs := hs.drewN k29
   refine L_assign rfl rfl (RL_nil' (Nx_block (Nx_then (W_region (L_move rfl rfl (L_sub rfl rfl rfl (wrp_i64 (by omega)) ?_))))))
   rw [show (7 - (m : Int)) - 1 = 7 - ((m + 1 : Nat) : Int) by omega]
   refine L_assign rfl rfl (RL_nil' ?_)
   refine Nx_loopP (m + 1, r29, _) (is := [0, 1, 5, 6]) (I' := (fun (m : Nat) (r : Nat) (w : World) => (m ≤ 8) ∧ (cn r = cn (horF S z m)) ∧ (HS w0 w [])) (m + 1) (r29) (_)) rfl rfl rfl ?_ ?_
   ·
    exact ⟨by omega, (Fs.cn hr29).trans ((fop_congr ((Fs.cn hr23).trans ((fop_congr hr rfl).trans (cn_fop ..).symm)) rfl).trans (cn_fop ..).symm), hs⟩
   ·
    omega
  ·
   obtain rfl : m = 8 := by omega
   refine W_seq (W_seq (W_region (L_move rfl rfl (L_geq rfl rfl rfl (dfalse (by omega)) ?_))))
   refine RL_then (W_if_false rfl (W_exit' (Ex_then_exit (Ex_loop_exit (Ex_block_hit (Nx_then (W_seq (W_region (L_move rfl rfl (L_assign rfl rfl (RL_then (W_ret' ?_))))))))))))
   refine Ex_done1 rfl rfl ?_
   exact ⟨_, rfl, _, rfl, hs, hr⟩
def clnF (x : Nat) : Nat := if (FloatKind.f64.format.order x 0 == some .eq) = true then 0 else x
theorem rclean_ok (x : Nat) (w0 : World) : Ret Try.prog 88 [.float .f64 x] w0 fun v w' => v = .float .f64 (clnF x) ∧ HS w0 w' [] := by
 refine Ret.start fun w hs => ?_
 refine calls_of_W Try.func88 rfl rfl rfl (W_seq (W_region (L_assign rfl rfl (RL_then (W_seq (W_seq (W_region (L_move rfl rfl ?_))))))))
 refine L_fcmp rfl rfl rfl (fun _ => by rw [binOp_float_cmp_eql]; rfl) ?_
 refine RL_then ?_
 cases h : (FloatKind.f64.format.order x 0 == some .eq)
 ·
  refine W_if_false rfl (W_skip' (Nx_then (W_seq (W_region (L_move rfl rfl (L_assign rfl rfl (RL_then (W_ret' (Ex_done1 rfl rfl ?_)))))))))
  exact ⟨_, rfl, by unfold clnF; rw [h, if_neg (by decide)], hs⟩
 ·
  refine W_if_true rfl (W_seq (W_region (L_assign rfl rfl (RL_then (W_ret' (Ex_then_ret (Ex_done1 rfl rfl ?_)))))))
  exact ⟨_, rfl, by unfold clnF; rw [h, if_pos rfl], hs⟩
theorem cln_add {x : Nat} (h : isnan x = false → x < 18446744073709551616) : cn (clnF x) = cn (fop .add x 0) := by
 unfold clnF
 cases hn : isnan x with
 | true =>
  rw [order_nanL hn, if_neg (by decide)]
  have h1 : cn x = cn qnan := by rw [cn_nan hn, cn_nan (by decide +kernel)]
  rw [fop_congr (op := .add) h1 (rfl : cn 0 = cn 0), h1]
  decide +kernel
 | false => rw [fop_add0 (h hn) hn]
end Go.Proofs.Ytknpoemkmcdgcaa

namespace Go.Proofs.Ytknpoemkmcdgcaa
open Go Go.Lk
theorem horF8_lt (S : List Nat) (z : Nat) : horF S z 8 < 18446744073709551616 := fop_lt _ _ _
theorem eigF_lt (a : Nat) : (eigF a).1 < 18446744073709551616 ∧ (eigF a).2 < 18446744073709551616 := by
 cases h : (FloatKind.f64.format.order a 4593671619917905920 == some .eq) with
 | true => rw [eigF_at h]; decide
 | false => rw [(eigF_far h).1, (eigF_far h).2]; exact ⟨horF8_lt _ _, fop_lt _ _ _⟩
theorem neg_lt {x : Nat} (h : x < 18446744073709551616) : Op.negFloat .f64 x < 18446744073709551616 := by
 obtain ⟨s, r, rfl, hr⟩ := word_of h
 rw [neg_word s r hr]
 exact word_lt _ hr
theorem lt_of_cn {x y : Nat} (h : cn x = cn y) (hy : y < 18446744073709551616) : isnan x = false → x < 18446744073709551616 := fun hn => by
 have hn2 : isnan y = false := by rw [← isnan_cn, ← h, isnan_cn]; exact hn
 rw [cn_num hn, cn_num hn2] at h
 rw [h]; exact hy
/-- the wrapped turn, but for a nought's sign -/
theorem WR.same {x r : Nat} (h : WR x r) (hn : isnan r = false) : r < 18446744073709551616 ∧ isnan (wrapF x) = false ∧ (wrapF x) % 9223372036854775808 = r % 9223372036854775808 ∧ tqN (wrapF x) = (FloatKind.f64.format.order r 0 == some .lt) := by
 rcases h with ⟨h1, _⟩ | ⟨_, hl, hw⟩
 ·
  rw [hn] at h1; cases h1
 ·
  refine ⟨hl, ?_⟩
  cases ho : (FloatKind.f64.format.order r 0 == some .eq) with
  | false => rw [ho, if_neg (by decide)] at hw; rw [hw]; exact ⟨hn, rfl, rfl⟩
  | true =>
   rw [ho, if_pos rfl] at hw
   rw [hw]
   obtain ⟨s, q, rfl, hq⟩ := word_of hl
   have hq0 : q = 0 := by
    rw [isnan_word s q hq] at hn
    have hq2 : q ≤ 9218868437227405312 := by simpa using hn
    by_cases hqi : q = 9218868437227405312
    ·
     subst hqi
     revert ho
     cases s <;> decide +kernel
    ·
     have h3 := (fv_word s q (by omega)).order fv_nought
     rw [h3] at ho
     have h4 : compare ((if s = true then -1 else 1) * (rv q : Int)) 0 = .eq := by
      revert ho
      cases compare ((if s = true then -1 else 1) * (rv q : Int)) 0 <;> simp
     have h5 := Int.compare_eq_eq.1 h4
     apply rv_zero.1
     cases s <;> simp at h5 <;> omega
   subst hq0
   cases s <;> decide +kernel
set_option maxHeartbeats 2000000 in
theorem rturn_ok (x : Nat) (hx2 : x < 18446744073709551616) (w0 : World) : Ret Try.prog 73 [.float .f64 x] w0 fun v w' => ∃ re im, v = .agg #[.float .f64 re, .float .f64 im] ∧ HS w0 w' [] ∧ cn re = cn (turnF x).1 ∧ cn im = cn (turnF x).2 := by
 refine Ret.start fun w hs => ?_
 refine calls_of_W Try.func73 rfl rfl rfl (W_seq (W_region (L_alloc rfl hs Try.ti124 ?_)))
 intro b2 w hb2 hnb2 hs
 dsimp only [List.set_cons_succ, List.set_cons_zero, List.cons_append, List.nil_append] at hs
 refine RL_then (W_seq (W_region (L_move rfl rfl ?_)))
 replace hs : HS w0 w [(b2, Row 124 [.float .f64 0, .float .f64 0])] := hs
 have ho : Own w0 [(b2, Row 124 [.float .f64 0, .float .f64 0])] := Own.cons hb2 Own.nil
 refine L_call rfl Try.fun85 rfl (rwrap_ok x hx2 w) ?_
 rintro _ w1 ⟨r, rfl, hwr, hs'⟩
 have h0 := hs.nil hs'
 clear hs hs'
 have hs := h0
 clear h0
 refine L_assign rfl rfl (RL_then (W_seq (W_seq (W_region (L_move rfl rfl (L_call rfl Try.fun54 rfl (isnanA r _) ?_))))))
 rintro _ w ⟨rfl, rfl⟩
 cases hn : isnan r
 ·
  obtain ⟨hrl, hwn, hmod, hng⟩ := hwr.same hn
  have hrr : FloatKind.f64.format.order r r = some .eq := by
   obtain ⟨s, q, rfl, hq⟩ := word_of hrl
   rw [isnan_word s q hq] at hn
   have hq2 : q ≤ 9218868437227405312 := by simpa using hn
   by_cases hqi : q = 9218868437227405312
   ·
    subst hqi; cases s <;> decide +kernel
   ·
    exact fin_order s q (by omega)
  rw [hrr]
  obtain ⟨wq, hW⟩ : ∃ wq, wq = wrapF x := ⟨_, rfl⟩
  rw [← hW] at hwn hmod hng
  have hWW : (FloatKind.f64.format.order wq wq != some .eq) = false := by
   have h1 : wq < 18446744073709551616 := by
    rw [hW]; rcases hwr with ⟨h, _⟩ | ⟨_, _, h⟩
    ·
     rw [hn] at h; cases h
    ·
     rw [h]; split
     ·
      decide
     ·
      exact hrl
   obtain ⟨s, q, rfl, hq⟩ := word_of h1
   rw [isnan_word s q hq] at hwn
   have hq2 : q ≤ 9218868437227405312 := by simpa using hwn
   by_cases hqi : q = 9218868437227405312
   ·
    subst hqi; cases s <;> decide +kernel
   ·
    rw [fin_order s q (by omega)]; rfl
  refine RL_then (W_if_false rfl (W_skip' (Nx_then (W_seq (W_region (L_move rfl rfl (L_call rfl Try.fun26 rfl (abs_ok r hrl _) ?_)))))))
  rintro _ w ⟨rfl, rfl⟩
  obtain ⟨A, hA⟩ : ∃ A, A = r % 9223372036854775808 := ⟨_, rfl⟩
  rw [← hA]
  obtain ⟨l, hl⟩ : ∃ l, tqL wq = l := ⟨_, rfl⟩
  have hl2 : (FloatKind.f64.format.order A 4598175219545276416 == some .gt) = l := by rw [hA, ← hmod]; exact hl
  refine L_assign rfl rfl (RL_then (W_seq (W_region (L_move rfl rfl ?_))))
  refine L_fcmp rfl rfl rfl (fun _ => by rw [binOp_float_cmp_gtr]; rfl) ?_
  refine RL_set 23 (v' := .bool l) rfl ((congrArg Value.bool hl2)) (L_assign rfl rfl (RL_then (W_seq (W_seq (W_region (L_move rfl rfl (RL_then ?_)))))))
  refine W_cut2 (fun (a1 : Nat) (w : World) => [(2, .pointer (some ⟨b2, 0, none⟩)), (3, .float .f64 r), (4, .float .f64 a1), (5, .bool l)]) (fun (a1 : Nat) (w : World) => w) (fun (a1 : Nat) (w : World) => (cn a1 = cn (tqA wq l)) ∧ (HS w0 w [(b2, Row 124 [.float .f64 0, .float .f64 0])])) ?_ ?_
  ·
   rcases (Bool.eq_false_or_eq_true l).symm with hz | hz
   ·
    refine W_set 24 (v' := .bool false) rfl ((congrArg Value.bool hz)) (W_if_false rfl (W_skip' (Nx_cutP (A, _) (is := [2, 3, 4, 5]) (I' := (fun (a1 : Nat) (w : World) => (cn a1 = cn (tqA wq l)) ∧ (HS w0 w [(b2, Row 124 [.float .f64 0, .float .f64 0])])) (A) (_)) rfl rfl rfl ?_)))
    exact ⟨by unfold tqA; rw [hz, hmod, ← hA]; rfl, hs⟩
   ·
    refine W_set 24 (v' := .bool true) rfl ((congrArg Value.bool hz)) (W_if_true rfl (W_region (L_move rfl rfl (L_farith rfl (op := .sub) rfl rfl rfl ?_))))
    intro r26 k26 hr26
    replace hs := hs.drewN k26
    refine L_assign rfl rfl (RL_nil' (Nx_cutP (r26, _) (is := [2, 3, 4, 5]) (I' := (fun (a1 : Nat) (w : World) => (cn a1 = cn (tqA wq l)) ∧ (HS w0 w [(b2, Row 124 [.float .f64 0, .float .f64 0])])) (r26) (_)) rfl rfl rfl ?_))
    refine ⟨?_, hs⟩
    unfold tqA; rw [hz, hmod, ← hA, if_pos rfl]
    exact (Fs.cn hr26).trans (cn_fop ..).symm
  ·
   clear hs
   intro a1 w hI
   show W _ _ _ _ [(2, .pointer (some ⟨b2, 0, none⟩)), (3, .float .f64 r), (4, .float .f64 a1), (5, .bool l)] w
   obtain ⟨ha1, hs⟩ := hI
   obtain ⟨sw, hsw⟩ : ∃ sw, tqS a1 = sw := ⟨_, rfl⟩
   refine W_seq (W_region (L_move rfl rfl ?_))
   refine L_fcmp rfl rfl rfl (fun _ => by rw [binOp_float_cmp_gtr]; rfl) ?_
   refine RL_set 28 (v' := .bool sw) rfl ((congrArg Value.bool hsw)) (L_assign rfl rfl (RL_then (W_seq (W_seq (W_region (L_move rfl rfl (RL_then ?_)))))))
   refine W_cut2 (fun (a2 : Nat) (w : World) => [(2, .pointer (some ⟨b2, 0, none⟩)), (3, .float .f64 r), (4, .float .f64 a2), (5, .bool l), (6, .bool sw)]) (fun (a2 : Nat) (w : World) => w) (fun (a2 : Nat) (w : World) => (cn a2 = cn (tqB a1 sw)) ∧ (HS w0 w [(b2, Row 124 [.float .f64 0, .float .f64 0])])) ?_ ?_
   ·
    rcases (Bool.eq_false_or_eq_true sw).symm with hz | hz
    ·
     refine W_set 29 (v' := .bool false) rfl ((congrArg Value.bool hz)) (W_if_false rfl (W_skip' (Nx_cutP (a1, _) (is := [2, 3, 4, 5, 6]) (I' := (fun (a2 : Nat) (w : World) => (cn a2 = cn (tqB a1 sw)) ∧ (HS w0 w [(b2, Row 124 [.float .f64 0, .float .f64 0])])) (a1) (_)) rfl rfl rfl ?_)))
     exact ⟨by unfold tqB; rw [hz]; rfl, hs⟩
    ·
     refine W_set 29 (v' := .bool true) rfl ((congrArg Value.bool hz)) (W_if_true rfl (W_region (L_move rfl rfl (L_farith rfl (op := .sub) rfl rfl rfl ?_))))
     intro r31 k31 hr31
     replace hs := hs.drewN k31
     refine L_assign rfl rfl (RL_nil' (Nx_cutP (r31, _) (is := [2, 3, 4, 5, 6]) (I' := (fun (a2 : Nat) (w : World) => (cn a2 = cn (tqB a1 sw)) ∧ (HS w0 w [(b2, Row 124 [.float .f64 0, .float .f64 0])])) (r31) (_)) rfl rfl rfl ?_))
     refine ⟨?_, hs⟩
     unfold tqB; rw [hz, if_pos rfl]
     exact (Fs.cn hr31).trans (cn_fop ..).symm
   ·
    clear hs
    intro a2 w hI
    show W _ _ _ _ [(2, .pointer (some ⟨b2, 0, none⟩)), (3, .float .f64 r), (4, .float .f64 a2), (5, .bool l), (6, .bool sw)] w
    obtain ⟨ha2, hs⟩ := hI
    obtain ⟨E1, hE1⟩ : ∃ E, E = (eigF a2).1 := ⟨_, rfl⟩
    obtain ⟨E2, hE2⟩ : ∃ E, E = (eigF a2).2 := ⟨_, rfl⟩
    obtain ⟨eq, heq⟩ : ∃ eq, (FloatKind.f64.format.order a2 4593671619917905920 == some .eq) = eq := ⟨_, rfl⟩
    refine W_seq (W_region (L_assign rfl rfl (RL_then (W_seq (W_region (L_move rfl rfl (L_assign rfl rfl (RL_then (W_seq (W_seq (W_region (L_move rfl rfl ?_))))))))))))
    refine L_fcmp rfl rfl rfl (fun _ => by rw [binOp_float_cmp_neq]; rfl) ?_
    refine RL_then ?_
    refine W_cut3 (fun (s1 : Nat) (c1 : Nat) (w : World) => [(2, .pointer (some ⟨b2, 0, none⟩)), (3, .float .f64 r), (5, .bool l), (6, .bool sw), (7, .float .f64 s1), (8, .float .f64 c1)]) (fun (s1 : Nat) (c1 : Nat) (w : World) => w) (fun (s1 : Nat) (c1 : Nat) (w : World) => (cn s1 = cn E2) ∧ (cn c1 = cn E1) ∧ (HS w0 w [(b2, Row 124 [.float .f64 0, .float .f64 0])])) ?_ ?_
    ·
     rcases (Bool.eq_false_or_eq_true eq).symm with hz | hz
     ·
      have hq := heq.trans hz
      refine W_set 34 (v' := .bool true) rfl ((congrArg Value.bool (show (FloatKind.f64.format.order a2 4593671619917905920 != some .eq) = true by unfold bne; rw [hq]; rfl))) ?_
      refine W_if_true rfl ?_
      have c36 : ∀ {v : Nat}, Fs .mul a2 4618760256179416344 v → cn v = cn (fop .mul a2 4618760256179416344) := fun h => (Fs.cn h).trans (cn_fop ..).symm
      refine W_seq (W_region (L_move rfl rfl (L_farith rfl (op := .mul) rfl rfl rfl ?_)))
      intro r36 k36 hr36
      replace hs := hs.drewN k36
      refine L_assign rfl rfl (RL_then (W_seq (W_region (L_move rfl rfl (L_move rfl rfl (L_farith rfl (op := .mul) rfl rfl rfl ?_))))))
      intro r39 k39 hr39
      replace hs := hs.drewN k39
      refine L_assign rfl rfl (RL_then (W_seq (W_region (L_call rfl Try.fun87 rfl (rrow_ok 0 (by decide) _) ?_))))
      rintro v40 w1 ⟨M, hs', hb⟩
      obtain ⟨ar, cr, rfl, _⟩ := hb.slice
      have h0 := hs.call hs' hb.own
      have hoM := hb.own.le hs.size
      have hsl := hb.slc (L := []) hs'
      clear hs hs'
      have hs := h0
      clear h0
      refine L_move rfl rfl (L_call rfl Try.fun86 rfl (rfold_ok ar cr (rowL 0 9) r39 w1 hsl (rowL_len 0 9)) ?_)
      rintro _ w2 ⟨p1, rfl, hs', hp1⟩
      have h0 := HS.dropR (hs.nil hs') hoM
      clear hs hs' hb hsl hoM
      have hs := h0
      clear h0
      refine L_assign rfl rfl (RL_then (W_seq (W_region (L_move rfl rfl (L_move rfl rfl (L_farith rfl (op := .mul) rfl rfl rfl ?_))))))
      intro r45 k45 hr45
      replace hs := hs.drewN k45
      refine L_assign rfl rfl (RL_then (W_region (L_call rfl Try.fun87 rfl (rrow_ok 1 (by decide) _) ?_)))
      rintro v46 w3 ⟨M, hs', hb⟩
      obtain ⟨ar2, cr2, rfl, _⟩ := hb.slice
      have h0 := hs.call hs' hb.own
      have hoM := hb.own.le hs.size
      have hsl := hb.slc (L := []) hs'
      clear hs hs'
      have hs := h0
      clear h0
      refine L_move rfl rfl (L_call rfl Try.fun86 rfl (rfold_ok ar2 cr2 (rowL 1 9) r39 w3 hsl (rowL_len 1 9)) ?_)
      rintro _ w4 ⟨p2, rfl, hs', hp2⟩
      have h0 := HS.dropR (hs.nil hs') hoM
      clear hs hs' hb hsl hoM
      have hs := h0
      clear h0
      refine L_assign rfl rfl (RL_nil' ?_)
      have e36 := c36 hr36
      have e39 : cn r39 = cn (fop .mul (fop .mul a2 4618760256179416344) (fop .mul a2 4618760256179416344)) := (Fs.cn hr39).trans ((fop_congr e36 e36).trans (cn_fop ..).symm)
      refine Nx_cutP (r45, p2, _) (is := [2, 3, 5, 6, 7, 8]) (I' := (fun (s1 : Nat) (c1 : Nat) (w : World) => (cn s1 = cn E2) ∧ (cn c1 = cn E1) ∧ (HS w0 w [(b2, Row 124 [.float .f64 0, .float .f64 0])])) (r45) (p2) (_)) rfl rfl rfl ?_
      refine ⟨?_, ?_, hs⟩
      ·
       rw [hE2, (eigF_far hq).2]
       refine (Fs.cn hr45).trans ((fop_congr ?_ e36).trans (cn_fop ..).symm)
       rw [hp1, hor_row0]
       exact horF_congr _ e39 8
      ·
       rw [hE1, (eigF_far hq).1, hp2, hor_row1]
       exact horF_congr _ e39 8
     ·
      have hq := heq.trans hz
      refine W_set 34 (v' := .bool false) rfl ((congrArg Value.bool (show (FloatKind.f64.format.order a2 4593671619917905920 != some .eq) = false by unfold bne; rw [hq]; rfl))) ?_
      refine W_if_false rfl (W_skip' (Nx_cutP (4604544271217802189, 4604544271217802189, _) (is := [2, 3, 5, 6, 7, 8]) (I' := (fun (s1 : Nat) (c1 : Nat) (w : World) => (cn s1 = cn E2) ∧ (cn c1 = cn E1) ∧ (HS w0 w [(b2, Row 124 [.float .f64 0, .float .f64 0])])) (4604544271217802189) (4604544271217802189) (_)) rfl rfl rfl ?_))
      exact ⟨by rw [hE2, eigF_at hq], by rw [hE1, eigF_at hq], hs⟩
    ·
     clear hs
     intro s1 c1 w hI
     show W _ _ _ _ [(2, .pointer (some ⟨b2, 0, none⟩)), (3, .float .f64 r), (5, .bool l), (6, .bool sw), (7, .float .f64 s1), (8, .float .f64 c1)] w
     obtain ⟨hs1, hc1, hs⟩ := hI
     subst hE1 hE2
     refine W_seq (W_seq (W_region (L_move rfl rfl (RL_then ?_))))
     refine W_cut3 (fun (s2 : Nat) (c2 : Nat) (w : World) => [(2, .pointer (some ⟨b2, 0, none⟩)), (3, .float .f64 r), (5, .bool l), (7, .float .f64 s2), (8, .float .f64 c2)]) (fun (s2 : Nat) (c2 : Nat) (w : World) => w) (fun (s2 : Nat) (c2 : Nat) (w : World) => (cn s2 = cn (if sw then (eigF a2).1 else (eigF a2).2)) ∧ (cn c2 = cn (if sw then (eigF a2).2 else (eigF a2).1)) ∧ (HS w0 w [(b2, Row 124 [.float .f64 0, .float .f64 0])])) ?_ ?_
     ·
      rcases (Bool.eq_false_or_eq_true sw).symm with hz | hz
      ·
       refine W_set 49 (v' := .bool false) rfl ((congrArg Value.bool hz)) (W_if_false rfl (W_skip' (Nx_cutP (s1, c1, _) (is := [2, 3, 5, 7, 8]) (I' := (fun (s2 : Nat) (c2 : Nat) (w : World) => (cn s2 = cn (if sw then (eigF a2).1 else (eigF a2).2)) ∧ (cn c2 = cn (if sw then (eigF a2).2 else (eigF a2).1)) ∧ (HS w0 w [(b2, Row 124 [.float .f64 0, .float .f64 0])])) (s1) (c1) (_)) rfl rfl rfl ?_)))
       rw [hz]
       exact ⟨hs1, hc1, hs⟩
      ·
       refine W_set 49 (v' := .bool true) rfl ((congrArg Value.bool hz)) (W_if_true rfl (W_seq (W_region (L_move rfl rfl (L_assign rfl rfl (RL_then (W_seq (W_region (L_move rfl rfl (L_assign rfl rfl (RL_then (W_region ?_))))))))))))
       refine L_move rfl rfl (L_assign rfl rfl (RL_nil' (Nx_cutP (c1, s1, _) (is := [2, 3, 5, 7, 8]) (I' := (fun (s2 : Nat) (c2 : Nat) (w : World) => (cn s2 = cn (if sw then (eigF a2).1 else (eigF a2).2)) ∧ (cn c2 = cn (if sw then (eigF a2).2 else (eigF a2).1)) ∧ (HS w0 w [(b2, Row 124 [.float .f64 0, .float .f64 0])])) (c1) (s1) (_)) rfl rfl rfl ?_)))
       rw [hz]
       exact ⟨hc1, hs1, hs⟩
     ·
      clear hs
      intro s2 c2 w hI
      show W _ _ _ _ [(2, .pointer (some ⟨b2, 0, none⟩)), (3, .float .f64 r), (5, .bool l), (7, .float .f64 s2), (8, .float .f64 c2)] w
      obtain ⟨hs2, hc2, hs⟩ := hI
      refine W_seq (W_seq (W_region (L_move rfl rfl (RL_then ?_))))
      refine W_cut2 (fun (c3 : Nat) (w : World) => [(2, .pointer (some ⟨b2, 0, none⟩)), (3, .float .f64 r), (7, .float .f64 s2), (8, .float .f64 c3)]) (fun (c3 : Nat) (w : World) => w) (fun (c3 : Nat) (w : World) => (cn c3 = cn (if l then Op.negFloat .f64 (if sw then (eigF a2).2 else (eigF a2).1) else (if sw then (eigF a2).2 else (eigF a2).1))) ∧ (HS w0 w [(b2, Row 124 [.float .f64 0, .float .f64 0])])) ?_ ?_
      ·
       rcases (Bool.eq_false_or_eq_true l).symm with hz | hz
       ·
        refine W_set 53 (v' := .bool false) rfl ((congrArg Value.bool hz)) (W_if_false rfl (W_skip' (Nx_cutP (c2, _) (is := [2, 3, 7, 8]) (I' := (fun (c3 : Nat) (w : World) => (cn c3 = cn (if l then Op.negFloat .f64 (if sw then (eigF a2).2 else (eigF a2).1) else (if sw then (eigF a2).2 else (eigF a2).1))) ∧ (HS w0 w [(b2, Row 124 [.float .f64 0, .float .f64 0])])) (c2) (_)) rfl rfl rfl ?_)))
        rw [hz]
        exact ⟨hc2, hs⟩
       ·
        refine W_set 53 (v' := .bool true) rfl ((congrArg Value.bool hz)) (W_if_true rfl (W_region (L_move rfl rfl (L_fneg rfl rfl (L_assign rfl rfl (RL_nil' (Nx_cutP (_, _) (is := [2, 3, 7, 8]) (I' := (fun (c3 : Nat) (w : World) => (cn c3 = cn (if l then Op.negFloat .f64 (if sw then (eigF a2).2 else (eigF a2).1) else (if sw then (eigF a2).2 else (eigF a2).1))) ∧ (HS w0 w [(b2, Row 124 [.float .f64 0, .float .f64 0])])) (_) (_)) rfl rfl rfl ?_)))))))
        rw [hz]
        exact ⟨neg_congr hc2, hs⟩
      ·
       clear hs
       intro c3 w hI
       show W _ _ _ _ [(2, .pointer (some ⟨b2, 0, none⟩)), (3, .float .f64 r), (7, .float .f64 s2), (8, .float .f64 c3)] w
       obtain ⟨hc3, hs⟩ := hI
       obtain ⟨ngb, hngb⟩ : ∃ ngb, tqN wq = ngb := ⟨_, rfl⟩
       rw [hngb] at hng
       refine W_seq (W_seq (W_region (L_move rfl rfl ?_)))
       refine L_fcmp rfl rfl rfl (fun _ => by rw [binOp_float_cmp_lss]; rfl) ?_
       refine RL_then ?_
       refine W_cut2 (fun (s3 : Nat) (w : World) => [(2, .pointer (some ⟨b2, 0, none⟩)), (7, .float .f64 s3), (8, .float .f64 c3)]) (fun (s3 : Nat) (w : World) => w) (fun (s3 : Nat) (w : World) => (cn s3 = cn (if ngb then Op.negFloat .f64 (if sw then (eigF a2).1 else (eigF a2).2) else (if sw then (eigF a2).1 else (eigF a2).2))) ∧ (HS w0 w [(b2, Row 124 [.float .f64 0, .float .f64 0])])) ?_ ?_
       ·
        rcases (Bool.eq_false_or_eq_true ngb).symm with hz | hz
        ·
         refine W_set 57 (v' := .bool false) rfl ((congrArg Value.bool (hng.symm.trans hz))) (W_if_false rfl (W_skip' (Nx_cutP (s2, _) (is := [2, 7, 8]) (I' := (fun (s3 : Nat) (w : World) => (cn s3 = cn (if ngb then Op.negFloat .f64 (if sw then (eigF a2).1 else (eigF a2).2) else (if sw then (eigF a2).1 else (eigF a2).2))) ∧ (HS w0 w [(b2, Row 124 [.float .f64 0, .float .f64 0])])) (s2) (_)) rfl rfl rfl ?_)))
         rw [hz]
         exact ⟨hs2, hs⟩
        ·
         refine W_set 57 (v' := .bool true) rfl ((congrArg Value.bool (hng.symm.trans hz))) (W_if_true rfl (W_region (L_move rfl rfl (L_fneg rfl rfl (L_assign rfl rfl (RL_nil' (Nx_cutP (_, _) (is := [2, 7, 8]) (I' := (fun (s3 : Nat) (w : World) => (cn s3 = cn (if ngb then Op.negFloat .f64 (if sw then (eigF a2).1 else (eigF a2).2) else (if sw then (eigF a2).1 else (eigF a2).2))) ∧ (HS w0 w [(b2, Row 124 [.float .f64 0, .float .f64 0])])) (_) (_)) rfl rfl rfl ?_)))))))
         rw [hz]
         exact ⟨neg_congr hs2, hs⟩
       ·
        clear hs
        intro s3 w hI
        show W _ _ _ _ [(2, .pointer (some ⟨b2, 0, none⟩)), (7, .float .f64 s3), (8, .float .f64 c3)] w
        obtain ⟨hs3, hs⟩ := hI
        obtain ⟨g1, g2⟩ := eigF_lt a2
        have l1 : (if sw then (eigF a2).2 else (eigF a2).1) < 18446744073709551616 := by split <;> assumption
        have l2 : (if sw then (eigF a2).1 else (eigF a2).2) < 18446744073709551616 := by split <;> assumption
        have l3 : (if l then Op.negFloat .f64 (if sw then (eigF a2).2 else (eigF a2).1) else (if sw then (eigF a2).2 else (eigF a2).1)) < 18446744073709551616 := by
         split
         ·
          exact neg_lt l1
         ·
          exact l1
        have l4 : (if ngb then Op.negFloat .f64 (if sw then (eigF a2).1 else (eigF a2).2) else (if sw then (eigF a2).1 else (eigF a2).2)) < 18446744073709551616 := by
         split
         ·
          exact neg_lt l2
         ·
          exact l2
        refine W_seq (W_region (L_move rfl rfl (L_call rfl Try.fun88 rfl (rclean_ok c3 _) ?_)))
        rintro _ w1 ⟨rfl, hs'⟩
        have h0 := hs.nil hs'
        clear hs hs'
        have hs := h0
        clear h0
        refine L_move rfl rfl (L_call rfl Try.fun88 rfl (rclean_ok s3 _) ?_)
        rintro _ w2 ⟨rfl, hs'⟩
        have h0 := hs.nil hs'
        clear hs hs'
        have hs := h0
        clear h0
        refine L_build rfl rfl (Pl.built Try.pl124 rfl) (L_storeA hs (i := 0) rfl Try.ti124 rfl rfl (by rfl) (by simp) (by simp [Value.oneCell']) ?_)
        intro w hs
        dsimp only [List.set_cons_succ, List.set_cons_zero, List.cons_append, List.nil_append] at hs
        refine RL_then (W_ret' (Ex_doneC rfl rfl Try.agg124 Try.ti124 (by exact cellsAt_whole (hs.get (i := 0) rfl)) ?_))
        refine ⟨_, rfl, clnF c3, clnF s3, rfl, hs.forget (Own.cons hb2 Own.nil), turn_leaf (a1 := a1) (a2 := a2) hWW hW hl ha1 hsw ha2 hngb ?_ ?_⟩
        ·
         rw [cln_add (lt_of_cn hc3 l3), cn_fop]
         exact fop_congr hc3 rfl
        ·
         rw [cln_add (lt_of_cn hs3 l4), cn_fop]
         exact fop_congr hs3 rfl
 ·
  rw [order_nanL hn]
  refine RL_then (W_if_true rfl (W_seq (W_region (L_call rfl Try.fun80 rfl (nan_ok _) ?_))))
  rintro _ w2 ⟨n1, rfl, hn1, hs'⟩
  have h0 := hs.nil hs'
  clear hs hs'
  have hs := h0
  clear h0
  skip
  refine L_call rfl Try.fun80 rfl (nan_ok _) ?_
  rintro _ w3 ⟨n2, rfl, hn2, hs'⟩
  have h0 := hs.nil hs'
  clear hs hs'
  have hs := h0
  clear h0
  refine L_build rfl rfl (Pl.built Try.pl124 rfl) (L_storeA hs (i := 0) rfl Try.ti124 rfl rfl (by rfl) (by simp) (by simp [Value.oneCell']) ?_)
  intro w hs
  dsimp only [List.set_cons_succ, List.set_cons_zero, List.cons_append, List.nil_append] at hs
  refine RL_then (W_ret' (Ex_then_ret (Ex_doneC rfl rfl Try.agg124 Try.ti124 (by exact cellsAt_whole (hs.get (i := 0) rfl)) ?_)))
  have hw : wrapF x = qnan := by
   rcases hwr with ⟨_, h⟩ | ⟨h, _⟩
   ·
    exact h
   ·
    rw [hn] at h; cases h
  have ht : turnF x = (qnan, qnan) := by unfold turnF tqF; rw [hw, if_pos (by decide +kernel)]
  refine ⟨_, rfl, n1, n2, rfl, hs.forget (Own.cons hb2 Own.nil), ?_, ?_⟩
  ·
   rw [ht, cn_nan hn1]; decide +kernel
  ·
   rw [ht, cn_nan hn2]; decide +kernel
end Go.Proofs.Ytknpoemkmcdgcaa

namespace Go.Proofs.Ytknpoemkmcdgcaa
open Go Go.Lk
/-! ### The document's Moved -/
theorem rnumber_ok (x y : Nat) (w0 : World) : Ret Try.prog 72 [.float .f64 x, .float .f64 y] w0 fun v w' => v = .agg #[.float .f64 y, .float .f64 x] ∧ HS w0 w' [] := by
 refine Ret.start fun w hs => ?_
 refine calls_of_W Try.func72 rfl rfl rfl (W_seq (W_region (L_alloc rfl hs Try.ti124 ?_)))
 intro b4 w hb4 hnb4 hs
 dsimp only [List.set_cons_succ, List.set_cons_zero, List.cons_append, List.nil_append] at hs
 refine RL_then (W_seq (W_region (L_move rfl rfl (L_move rfl rfl (L_build rfl rfl (Pl.built Try.pl124 rfl) (L_storeA hs (i := 0) rfl Try.ti124 rfl rfl (by rfl) (by simp) (by simp [Value.oneCell']) ?_))))))
 intro w hs
 dsimp only [List.set_cons_succ, List.set_cons_zero, List.cons_append, List.nil_append] at hs
 refine RL_then (W_ret' (Ex_doneC rfl rfl Try.agg124 Try.ti124 (by exact cellsAt_whole (hs.get (i := 0) rfl)) ?_))
 exact ⟨_, rfl, rfl, hs.forget (Own.cons hb4 Own.nil)⟩
theorem rmul_ok (a b c d : Nat) (w0 : World) : Ret Try.prog 71 [.agg #[.float .f64 a, .float .f64 b], .agg #[.float .f64 c, .float .f64 d]] w0 fun v w' => ∃ re im, v = .agg #[.float .f64 re, .float .f64 im] ∧ HS w0 w' [] ∧ cn re = fop .sub (fop .mul a c) (fop .mul b d) ∧ cn im = fop .add (fop .mul a d) (fop .mul b c) := by
 refine Ret.start fun w hs => ?_
 refine calls_of_W Try.func71 rfl rfl rfl (W_seq (W_region (L_box rfl hs rfl ?_)))
 intro b2 w hb2 hnb2 hs
 dsimp only [List.set_cons_succ, List.set_cons_zero, List.cons_append, List.nil_append] at hs
 refine L_box rfl hs rfl ?_
 intro b3 w hb3 hnb3 hs
 dsimp only [List.set_cons_succ, List.set_cons_zero, List.cons_append, List.nil_append] at hs
 refine L_alloc rfl hs Try.ti124 ?_
 intro b4 w hb4 hnb4 hs
 dsimp only [List.set_cons_succ, List.set_cons_zero, List.cons_append, List.nil_append] at hs
 refine RL_then (W_seq (W_region ?_))
 replace hs : HS w0 w [(b2, Row 124 [.float .f64 a, .float .f64 b]), (b3, Row 124 [.float .f64 c, .float .f64 d]), (b4, Row 124 [.float .f64 0, .float .f64 0])] := hs
 refine L_fieldAddr rfl (off := 0) Try.underlying124 rfl rfl Try.ti22 rfl (L_load rfl Try.one22 rfl (by exact hs.cell (i := 0) rfl rfl) ?_)
 refine L_fieldAddr rfl (off := 0) Try.underlying124 rfl rfl Try.ti22 rfl (L_load rfl Try.one22 rfl (by exact hs.cell (i := 1) rfl rfl) ?_)
 refine L_farith rfl (op := .mul) rfl rfl rfl ?_
 intro r13 k13 hr13
 replace hs := hs.drewN k13
 refine L_assign rfl rfl (RL_then (W_seq (W_region (L_fieldAddr rfl (off := 1) Try.underlying124 rfl rfl Try.ti22 rfl (L_load rfl Try.one22 rfl (by exact hs.cell (i := 0) rfl rfl) ?_)))))
 refine L_fieldAddr rfl (off := 1) Try.underlying124 rfl rfl Try.ti22 rfl (L_load rfl Try.one22 rfl (by exact hs.cell (i := 1) rfl rfl) ?_)
 refine L_farith rfl (op := .mul) rfl rfl rfl ?_
 intro r18 k18 hr18
 replace hs := hs.drewN k18
 refine L_assign rfl rfl (RL_then (W_seq (W_region (L_fieldAddr rfl (off := 0) Try.underlying124 rfl rfl Try.ti22 rfl (L_load rfl Try.one22 rfl (by exact hs.cell (i := 0) rfl rfl) ?_)))))
 refine L_fieldAddr rfl (off := 1) Try.underlying124 rfl rfl Try.ti22 rfl (L_load rfl Try.one22 rfl (by exact hs.cell (i := 1) rfl rfl) ?_)
 refine L_farith rfl (op := .mul) rfl rfl rfl ?_
 intro r23 k23 hr23
 replace hs := hs.drewN k23
 refine L_assign rfl rfl (RL_then (W_seq (W_region (L_fieldAddr rfl (off := 1) Try.underlying124 rfl rfl Try.ti22 rfl (L_load rfl Try.one22 rfl (by exact hs.cell (i := 0) rfl rfl) ?_)))))
 refine L_fieldAddr rfl (off := 0) Try.underlying124 rfl rfl Try.ti22 rfl (L_load rfl Try.one22 rfl (by exact hs.cell (i := 1) rfl rfl) ?_)
 refine L_farith rfl (op := .mul) rfl rfl rfl ?_
 intro r28 k28 hr28
 replace hs := hs.drewN k28
 refine L_assign rfl rfl (RL_then (W_seq (W_region (L_move rfl rfl (L_move rfl rfl (L_farith rfl (op := .sub) rfl rfl rfl ?_))))))
 intro r31 k31 hr31
 replace hs := hs.drewN k31
 refine L_move rfl rfl (L_move rfl rfl (L_farith rfl (op := .add) rfl rfl rfl ?_))
 intro r34 k34 hr34
 replace hs := hs.drewN k34
 refine L_build rfl rfl (Pl.built Try.pl124 rfl) (L_storeA hs (i := 2) rfl Try.ti124 rfl rfl (by rfl) (by simp) (by simp [Value.oneCell']) ?_)
 intro w hs
 dsimp only [List.set_cons_succ, List.set_cons_zero, List.cons_append, List.nil_append] at hs
 refine RL_then (W_ret' (Ex_doneC rfl rfl Try.agg124 Try.ti124 (by exact cellsAt_whole (hs.get (i := 2) rfl)) ?_))
 exact ⟨_, rfl, _, _, rfl, hs.forget (Own.cons hb2 (Own.cons hb3 (Own.cons hb4 Own.nil))), (Fs.cn hr31).trans (fop_congr ((Fs.cn hr13).trans (cn_fop ..).symm) ((Fs.cn hr18).trans (cn_fop ..).symm)), (Fs.cn hr34).trans (fop_congr ((Fs.cn hr23).trans (cn_fop ..).symm) ((Fs.cn hr28).trans (cn_fop ..).symm))⟩
def SPR (f : FuncId) (args : Array Value) (v : Value) : Prop := match f, args.toList with
 | 72, [.float .f64 x, .float .f64 y] => v = .agg #[.float .f64 y, .float .f64 x]
 | 71, [.agg p, .agg q] => ∀ a b c d, p = #[.float .f64 a, .float .f64 b] → q = #[.float .f64 c, .float .f64 d] → ∃ re im, v = .agg #[.float .f64 re, .float .f64 im] ∧ cn re = fop .sub (fop .mul a c) (fop .mul b d) ∧ cn im = fop .add (fop .mul a d) (fop .mul b c)
 | 73, [.float .f64 t] => ∃ re im, v = .agg #[.float .f64 re, .float .f64 im] ∧ cn re = cn (turnF t).1 ∧ cn im = cn (turnF t).2
 | _, _ => False
theorem rnumberH {w0 w : World} {L : Bks} (hs : HS w0 w L) (x y : Nat) : Ret Try.prog 72 [.float .f64 x, .float .f64 y] w fun v w' => SPR 72 [.float .f64 x, .float .f64 y].toArray v ∧ HS w0 w' L :=
 Calls.mono (rnumber_ok x y w) fun e w' => by
  rintro ⟨v, rfl, rfl, hs'⟩
  exact ⟨_, rfl, rfl, hs.nil hs'⟩
theorem rturnH {w0 w : World} {L : Bks} (hs : HS w0 w L) (t : Nat) (ht : t < 18446744073709551616) : Ret Try.prog 73 [.float .f64 t] w fun v w' => SPR 73 [.float .f64 t].toArray v ∧ HS w0 w' L :=
 Calls.mono (rturn_ok t ht w) fun e w' => by
  rintro ⟨v, rfl, re, im, rfl, hs', h1, h2⟩
  exact ⟨_, rfl, ⟨re, im, rfl, h1, h2⟩, hs.nil hs'⟩
theorem rmulH {w0 w : World} {L : Bks} (hs : HS w0 w L) (a b c d : Nat) : Ret Try.prog 71 [.agg #[.float .f64 a, .float .f64 b], .agg #[.float .f64 c, .float .f64 d]] w fun v w' => SPR 71 [.agg #[.float .f64 a, .float .f64 b], .agg #[.float .f64 c, .float .f64 d]].toArray v ∧ HS w0 w' L :=
 Calls.mono (rmul_ok a b c d w) fun e w' => by
  rintro ⟨v, rfl, re, im, rfl, hs', h1, h2⟩
  refine ⟨_, rfl, fun a' b' c' d' hp hq => ?_, hs.nil hs'⟩
  simp at hp hq
  obtain ⟨rfl, rfl⟩ := hp
  obtain ⟨rfl, rfl⟩ := hq
  exact ⟨re, im, rfl, h1, h2⟩
theorem rmoved_ok (sx sy st px py : Nat) (ht : st < 18446744073709551616) (w0 : World) : Ret Try.prog 56 [.agg #[.float .f64 sx, .float .f64 sy, .float .f64 st], .agg #[.float .f64 px, .float .f64 py]] w0 fun v w' => MovR sx sy st px py v ∧ HS w0 w' [] := by
 refine Ret.start fun w hs => ?_
 refine calls_of_W Try.func56 rfl rfl rfl (W_seq (W_region (L_box rfl hs rfl ?_)))
 intro b2 w hb2 hnb2 hs
 dsimp only [List.set_cons_succ, List.set_cons_zero, List.cons_append, List.nil_append] at hs
 refine L_box rfl hs rfl ?_
 intro b3 w hb3 hnb3 hs
 dsimp only [List.set_cons_succ, List.set_cons_zero, List.cons_append, List.nil_append] at hs
 refine L_alloc rfl hs Try.ti35 ?_
 intro b4 w hb4 hnb4 hs
 dsimp only [List.set_cons_succ, List.set_cons_zero, List.cons_append, List.nil_append] at hs
 refine RL_then (W_seq ?_)
 replace hs : HS w0 w [(b2, Row 37 [.float .f64 sx, .float .f64 sy, .float .f64 st]), (b3, Row 35 [.float .f64 px, .float .f64 py]), (b4, Row 35 [.float .f64 0, .float .f64 0])] := hs
 refine W_sg Try.mixed ?_
 replace hs := hs.drewN 1
 refine SG_stageB [0, 2, 5] [1, 3, 4, 6, 7, 8, 9] [10] (noBk SPR) (g' := 0) (by kernel_rfl) (by kernel_rfl) (fun _ _ _ _ _ h => h) hs ?_
 refine PL_val rfl (fun w => R_fieldAddr (off := 0) Try.underlying35 rfl rfl Try.ti22 rfl) ?_
 refine PL_val rfl (fun w => R_fieldAddr (off := 1) Try.underlying35 rfl rfl Try.ti22 rfl) ?_
 refine PL_val rfl (fun w => R_fieldAddr (off := 2) Try.underlying37 rfl rfl Try.ti22 rfl) ?_
 refine PL_endB ?_
 refine HB_val rfl (fun w R hR hs => R_load Try.one22 rfl (by exact hs.cell (i := 1) rfl rfl)) ?_
 refine HB_val rfl (fun w R hR hs => R_load Try.one22 rfl (by exact hs.cell (i := 1) rfl rfl)) ?_
 refine HB_callH rfl Try.fun72 rfl (fun w R hR hs => rnumberH hs px py) ?_
 rintro _ rfl
 refine HB_val rfl (fun w R hR hs => R_load Try.one22 rfl (by exact hs.cell (i := 0) rfl rfl)) ?_
 refine HB_callH rfl Try.fun73 rfl (fun w R hR hs => rturnH hs st ht) ?_
 rintro _ ⟨tr, ti, rfl, hT1, hT2⟩
 refine HB_callH rfl Try.fun71 rfl (fun w R hR hs => rmulH hs _ _ _ _) ?_
 rintro _ hmul
 obtain ⟨re, im, rfl, hre, him⟩ := hmul _ _ _ _ rfl rfl
 refine HB_alloc rfl Try.ti124 ?_
 intro b5 hb5
 refine HB_tail ?_
 intro w hs
 refine L_storeA hs (i := 3) rfl Try.ti124 rfl rfl (by rfl) (by simp) (by simp [Value.oneCell']) ?_
 intro w hs
 dsimp only [List.set_cons_succ, List.set_cons_zero, List.cons_append, List.nil_append] at hs
 refine RL_sg (SG_end (by kernel_rfl) ?_)
 refine Nx_then (W_seq (W_region ?_))
 replace hs : HS w0 w [(b2, Row 37 [.float .f64 sx, .float .f64 sy, .float .f64 st]), (b3, Row 35 [.float .f64 px, .float .f64 py]), (b4, Row 35 [.float .f64 0, .float .f64 0]), (b5, Row 124 [.float .f64 re, .float .f64 im])] := hs
 refine L_fieldAddr rfl (off := 1) Try.underlying124 rfl rfl Try.ti22 rfl (L_load rfl Try.one22 rfl (by exact hs.cell (i := 3) rfl rfl) ?_)
 refine L_fieldAddr rfl (off := 0) Try.underlying37 rfl rfl Try.ti35 rfl (L_fieldAddr rfl (off := 0) Try.underlying35 rfl rfl Try.ti22 rfl (L_load rfl Try.one22 rfl (by exact hs.cell (i := 0) rfl rfl) ?_))
 refine L_farith rfl (op := .add) rfl rfl rfl ?_
 intro r20 k20 hr20
 replace hs := hs.drewN k20
 refine L_fieldAddr rfl (off := 0) Try.underlying124 rfl rfl Try.ti22 rfl (L_load rfl Try.one22 rfl (by exact hs.cell (i := 3) rfl rfl) ?_)
 refine L_fieldAddr rfl (off := 0) Try.underlying37 rfl rfl Try.ti35 rfl (L_fieldAddr rfl (off := 1) Try.underlying35 rfl rfl Try.ti22 rfl (L_load rfl Try.one22 rfl (by exact hs.cell (i := 0) rfl rfl) ?_))
 refine L_farith rfl (op := .add) rfl rfl rfl ?_
 intro r26 k26 hr26
 replace hs := hs.drewN k26
 refine L_build rfl rfl (Pl.built Try.pl35 rfl) (L_storeA hs (i := 2) rfl Try.ti35 rfl rfl (by rfl) (by simp) (by simp [Value.oneCell']) ?_)
 intro w hs
 dsimp only [List.set_cons_succ, List.set_cons_zero, List.cons_append, List.nil_append] at hs
 refine RL_then (W_ret' (Ex_doneC rfl rfl Try.agg35 Try.ti35 (by exact cellsAt_whole (hs.get (i := 2) rfl)) ?_))
 refine ⟨_, rfl, ⟨r20, r26, rfl, ?_, ?_⟩, hs.forget (Own.cons hb2 (Own.cons hb3 (Own.cons hb4 (Own.cons hb5 Own.nil))))⟩
 ·
  exact (Fs.cn hr20).trans (fop_congr (him.trans ((cn_fop ..).symm.trans (by rw [fop_congr (op := .mul) rfl hT2, fop_congr (op := .mul) rfl hT1]))) rfl)
 ·
  exact (Fs.cn hr26).trans (fop_congr (hre.trans ((cn_fop ..).symm.trans (by rw [fop_congr (op := .mul) rfl hT2, fop_congr (op := .mul) rfl hT1]))) rfl)
end Go.Proofs.Ytknpoemkmcdgcaa

namespace Go.Proofs.Ytknpoemkmcdgcaa
open Go Go.Lk
/-! ### The document's place and cost -/
theorem rplace_ok (ax ay vx vy px py n c : Nat) (a : Option Addr) (w0 : World) :
  Ret Try.prog 59 [.agg #[.float .f64 ax, .float .f64 ay, .float .f64 vx, .float .f64 vy, .slice a n c], .agg #[.float .f64 px, .float .f64 py]] w0 fun v w' => ∃ x y, v = .agg #[.float .f64 x, .float .f64 y] ∧ HS w0 w' [] ∧ cn x = fop .quo px (FloatKind.f64.nearest (n : Int)) ∧ cn y = fop .quo py (FloatKind.f64.nearest (n : Int)) := by
 refine Ret.start fun w hs => ?_
 refine calls_of_W Try.func59 rfl rfl rfl (W_seq (W_region (L_box rfl hs rfl ?_)))
 intro b2 w hb2 hnb2 hs
 dsimp only [List.set_cons_succ, List.set_cons_zero, List.cons_append, List.nil_append] at hs
 refine L_box rfl hs rfl ?_
 intro b3 w hb3 hnb3 hs
 dsimp only [List.set_cons_succ, List.set_cons_zero, List.cons_append, List.nil_append] at hs
 refine L_alloc rfl hs Try.ti35 ?_
 intro b4 w hb4 hnb4 hs
 dsimp only [List.set_cons_succ, List.set_cons_zero, List.cons_append, List.nil_append] at hs
 refine RL_then (W_seq (W_region ?_))
 replace hs : HS w0 w [(b2, Row 112 [.float .f64 ax, .float .f64 ay, .float .f64 vx, .float .f64 vy, .slice a n c]), (b3, Row 35 [.float .f64 px, .float .f64 py]), (b4, Row 35 [.float .f64 0, .float .f64 0])] := hs
 refine L_fieldAddr rfl (off := 4) Try.underlying112 rfl rfl Try.ti60 rfl (L_load rfl Try.one60 rfl (by exact hs.cell (i := 0) rfl rfl) ?_)
 refine L_len rfl Try.underlying60 rfl (L_itof rfl Try.underlying3 Try.underlying22 rfl (L_assign rfl rfl (RL_then (W_seq (W_region (L_fieldAddr rfl (off := 0) Try.underlying35 rfl rfl Try.ti22 rfl (L_load rfl Try.one22 rfl (by exact hs.cell (i := 1) rfl rfl) ?_)))))))
 refine L_move rfl rfl (L_farith rfl (op := .quo) rfl rfl rfl ?_)
 intro r13 k13 hr13
 replace hs := hs.drewN k13
 refine L_fieldAddr rfl (off := 1) Try.underlying35 rfl rfl Try.ti22 rfl (L_load rfl Try.one22 rfl (by exact hs.cell (i := 1) rfl rfl) ?_)
 refine L_move rfl rfl (L_farith rfl (op := .quo) rfl rfl rfl ?_)
 intro r17 k17 hr17
 replace hs := hs.drewN k17
 refine L_build rfl rfl (Pl.built Try.pl35 rfl) (L_storeA hs (i := 2) rfl Try.ti35 rfl rfl (by rfl) (by simp) (by simp [Value.oneCell']) ?_)
 intro w hs
 dsimp only [List.set_cons_succ, List.set_cons_zero, List.cons_append, List.nil_append] at hs
 refine RL_then (W_ret' (Ex_doneC rfl rfl Try.agg35 Try.ti35 (by exact cellsAt_whole (hs.get (i := 2) rfl)) ?_))
 exact ⟨_, rfl, _, _, rfl, hs.forget (Own.cons hb2 (Own.cons hb3 (Own.cons hb4 Own.nil))), Fs.cn hr13, Fs.cn hr17⟩
theorem rcost_ok (B far px py ax ay vx vy n c : Nat) (a : Option Addr) (w0 : World) (hf : FarOk far) (hfar : w0.cell? ⟨B, 0, none⟩ = some (.float .f64 far)) :
  Ret Try.prog 57 [.pointer (some ⟨B, 0, none⟩), .agg #[.float .f64 px, .float .f64 py], .agg #[.float .f64 ax, .float .f64 ay, .float .f64 vx, .float .f64 vy, .slice a n c]] w0 fun v w' => v = .int .i64 (costF far px py ax ay n) ∧ HS w0 w' [] := by
 refine Ret.start fun w hs => ?_
 have hB := World.block_lt_of_cell? w0 _ hfar
 refine calls_of_W Try.func57 rfl rfl rfl (W_seq (W_region (L_box rfl hs rfl ?_)))
 intro b4 w hb4 hnb4 hs
 dsimp only [List.set_cons_succ, List.set_cons_zero, List.cons_append, List.nil_append] at hs
 refine L_box rfl hs rfl ?_
 intro b5 w hb5 hnb5 hs
 dsimp only [List.set_cons_succ, List.set_cons_zero, List.cons_append, List.nil_append] at hs
 refine L_assign rfl rfl (RL_then (W_seq (W_region ?_)))
 replace hs : HS w0 w [(b4, Row 35 [.float .f64 px, .float .f64 py]), (b5, Row 112 [.float .f64 ax, .float .f64 ay, .float .f64 vx, .float .f64 vy, .slice a n c])] := hs
 refine L_loadA rfl Try.agg112 Try.ti112 rfl (by exact cellsAt_whole (hs.get (i := 1) rfl)) ?_
 refine L_fieldAddr rfl (off := 0) Try.underlying112 rfl rfl Try.ti35 rfl (L_loadA rfl Try.agg35 Try.ti35 rfl (by exact cellsAt_lit (n := 2) (hs.get (i := 1) rfl) rfl) ?_)
 refine L_call rfl Try.fun59 rfl (rplace_ok ax ay vx vy ax ay n c a w) ?_
 rintro _ w1 ⟨x, y, rfl, hs', hx, hy⟩
 have h0 := hs.nil hs'
 clear hs hs'
 have hs := h0
 clear h0
 refine L_alloc rfl hs Try.ti35 ?_
 intro b7 w hb7 hnb7 hs
 dsimp only [List.set_cons_succ, List.set_cons_zero, List.cons_append, List.nil_append] at hs
 refine L_storeA hs (i := 2) rfl Try.ti35 rfl rfl (by rfl) (by simp) (by simp [Value.oneCell']) ?_
 intro w hs
 dsimp only [List.set_cons_succ, List.set_cons_zero, List.cons_append, List.nil_append] at hs
 refine RL_then (W_seq ?_)
 have h0 : HS w0 w [(b4, Row 35 [.float .f64 px, .float .f64 py]), (b5, Row 112 [.float .f64 ax, .float .f64 ay, .float .f64 vx, .float .f64 vy, .slice a n c]), (b7, Row 35 [.float .f64 x, .float .f64 y])] := hs
 clear hs
 have hs := h0
 clear h0
 have ho2 : Own w0 [(b4, Row 35 [.float .f64 px, .float .f64 py]), (b5, Row 112 [.float .f64 ax, .float .f64 ay, .float .f64 vx, .float .f64 vy, .slice a n c]), (b7, Row 35 [.float .f64 x, .float .f64 y])] := Own.cons hb4 (Own.cons hb5 (Own.cons hb7 Own.nil))
 refine W_region (L_fieldAddr rfl (off := 0) Try.underlying35 rfl rfl Try.ti22 rfl (L_load rfl Try.one22 rfl (by exact hs.cell (i := 0) rfl rfl) ?_))
 refine L_fieldAddr rfl (off := 0) Try.underlying35 rfl rfl Try.ti22 rfl (L_load rfl Try.one22 rfl (by exact hs.cell (i := 2) rfl rfl) ?_)
 refine L_farith rfl (op := .sub) rfl rfl rfl ?_
 intro r20 k20 hr20
 replace hs := hs.drewN k20
 refine L_assign rfl rfl (RL_then (W_seq (W_region (L_fieldAddr rfl (off := 1) Try.underlying35 rfl rfl Try.ti22 rfl (L_load rfl Try.one22 rfl (by exact hs.cell (i := 0) rfl rfl) ?_)))))
 refine L_fieldAddr rfl (off := 1) Try.underlying35 rfl rfl Try.ti22 rfl (L_load rfl Try.one22 rfl (by exact hs.cell (i := 2) rfl rfl) ?_)
 refine L_farith rfl (op := .sub) rfl rfl rfl ?_
 intro r25 k25 hr25
 replace hs := hs.drewN k25
 refine L_assign rfl rfl (RL_then (W_seq (W_region (L_move rfl rfl (L_move rfl rfl (L_farith rfl (op := .mul) rfl rfl rfl ?_))))))
 intro r28 k28 hr28
 replace hs := hs.drewN k28
 refine L_move rfl rfl (L_move rfl rfl (L_farith rfl (op := .mul) rfl rfl rfl ?_))
 intro r31 k31 hr31
 replace hs := hs.drewN k31
 refine L_farith rfl (op := .add) rfl rfl rfl ?_
 intro r32 k32 hr32
 replace hs := hs.drewN k32
 refine L_assign rfl rfl (RL_then (W_seq (W_sg Try.mixed ?_)))
 replace hs := hs.drewN 1
 refine SG_stageB [0, 1, 2, 4, 5, 6] [3, 7, 8, 9] [] (noBk (fun _ _ _ => False)) (g' := 0) (by kernel_rfl) (by kernel_rfl) (fun _ _ _ _ _ h => h) hs ?_
 refine PL_val rfl (fun w => R_move rfl) ?_
 refine PL_val rfl (fun w => R_nilCheck rfl) ?_
 refine PL_val rfl (fun w => R_fieldAddr (off := 0) Try.underlying79 rfl rfl Try.ti22 rfl) ?_
 refine PL_val rfl (fun w => R_move rfl) ?_
 refine PL_val rfl (fun w => R_nilCheck rfl) ?_
 refine PL_val rfl (fun w => R_fieldAddr (off := 0) Try.underlying79 rfl rfl Try.ti22 rfl) ?_
 refine PL_endB ?_
 refine HB_val rfl (fun w R hR hs => R_load Try.one22 rfl (by exact HS.oldcell hs hfar ((ho2.app hR).notin hB))) ?_
 refine HB_val rfl (fun w R hR hs => R_load Try.one22 rfl (by exact HS.oldcell hs hfar ((ho2.app hR).notin hB))) ?_
 refine HB_farith rfl (op := .mul) rfl rfl rfl ?_
 intro r41 hr41
 refine HB_val rfl (fun w R hR hs => R_assign rfl) ?_
 refine HB_tail ?_
 intro w hs
 refine RL_sg (SG_end (by kernel_rfl) ?_)
 refine Nx_then (W_seq (W_seq ?_))
 have e20 : cn r20 = cn (cX px ax n) := (Fs.cn hr20).trans ((fop_congr rfl (hx.trans (cn_fop ..).symm)).trans (cn_fop ..).symm)
 have e25 : cn r25 = cn (cX py ay n) := (Fs.cn hr25).trans ((fop_congr rfl (hy.trans (cn_fop ..).symm)).trans (cn_fop ..).symm)
 have e32 : cn r32 = cn (cD px py ax ay n) := (Fs.cn hr32).trans ((fop_congr ((Fs.cn hr28).trans ((fop_congr e20 e20).trans (cn_fop ..).symm)) ((Fs.cn hr31).trans ((fop_congr e25 e25).trans (cn_fop ..).symm))).trans (cn_fop ..).symm)
 have e41 : cn r41 = cn (fop .mul far far) := (Fs.cn hr41).trans (cn_fop ..).symm
 have hlr : leB r32 r41 = leB (cD px py ax ay n) (fop .mul far far) := by unfold leB; rw [order_congr e32 e41]
 cases hle : leB (cD px py ax ay n) (fop .mul far far)
 ·
  rw [hle] at hlr
  have e : costF far px py ax ay n = -1 := by unfold costF; rw [hle, if_neg (by decide)]
  rw [e]
  refine W_region (L_move rfl rfl (L_move rfl rfl ?_))
  refine L_fcmp rfl rfl rfl (fun _ => by rw [binOp_float_cmp_leq]; rfl) ?_
  refine RL_then (W_set 44 (v' := .bool false) rfl ((congrArg Value.bool hlr)) (W_if_false rfl (W_skip' (Nx_then (W_seq (W_region (L_assign rfl rfl (RL_then (W_ret' (Ex_done1 rfl rfl ?_))))))))))
  exact ⟨_, rfl, rfl, hs.forget ho2⟩
 ·
  rw [hle] at hlr
  obtain ⟨h1, h2, h3, m, h4, h5⟩ := cost_some hf hle
  have e : costF far px py ax ay n = (m : Int) := by unfold costF; rw [hle, if_pos rfl, h5]; rfl
  rw [e]
  refine W_region (L_move rfl rfl (L_move rfl rfl ?_))
  refine L_fcmp rfl rfl rfl (fun _ => by rw [binOp_float_cmp_leq]; rfl) ?_
  refine RL_then (W_set 44 (v' := .bool true) rfl ((congrArg Value.bool hlr)) (W_if_true rfl (W_seq (W_region (L_move rfl rfl (L_move rfl rfl (L_farith rfl (op := .quo) rfl rfl rfl ?_)))))))
  intro r47 k47 hr47
  replace hs := hs.drewN k47
  refine L_farith rfl (op := .mul) rfl rfl rfl ?_
  intro r48 k48 hr48
  replace hs := hs.drewN k48
  have eQ : cn r48 = cn (cQ (cD px py ax ay n) (fop .mul far far)) := (Fs.cn hr48).trans ((fop_congr ((Fs.cn hr47).trans ((fop_congr e32 e41).trans (cn_fop ..).symm)) rfl).trans (cn_fop ..).symm)
  obtain rfl : r48 = cQ (cD px py ax ay n) (fop .mul far far) := cn_same eQ h3
  refine L_call rfl Try.fun61 rfl (floor_ok _ _ h3 rfl _) ?_
  rintro _ _ ⟨rfl, rfl⟩
  refine RL_val rfl (R_ftoi Try.underlying22 Try.underlying2 rfl h5) (L_assign rfl rfl (RL_then (W_ret' (Ex_then_ret (Ex_done1 rfl rfl ?_)))))
  exact ⟨_, rfl, rfl, hs.forget ho2⟩
end Go.Proofs.Ytknpoemkmcdgcaa
