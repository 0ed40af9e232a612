/-
 A part of the proof: laws for walks, and plain laws, over any program of the model. Each theorem holds under its own premises alone.
-/
import Derived.Test.YtknpoemkmcdgcaaTT28
import Derived.Test.YtknpoemkmcdgcaaKitY
import Derived.Test.YtknpoemkmcdgcaaKit
import Derived.Laws.BitsAll
namespace Go.Proofs.Ytknpoemkmcdgcaa
open Go Go.Lk
/-- complex numbers as cells -/
abbrev cv (z : Nat × Nat) : Value := .complex .f64 z.1 z.2
theorem mul_ok (a b c d : Nat) (w0 : World) : Ret Try.prog 48 [.complex .f64 a b, .complex .f64 c d] w0 fun v w' => ∃ re im, v = .complex .f64 re im ∧ HS w0 w' [] ∧ cn re = fop .sub (fop .mul a c) (fop .mul b d) ∧ cn im = fop .add (fop .mul a d) (fop .mul b c) := by
 refine Ret.start fun w hs => ?_
 refine calls_of_W Try.func48 rfl rfl rfl (W_seq (W_region (L_assign rfl rfl (RL_then (W_seq (W_region (L_move rfl rfl (L_real rfl rfl (L_move rfl rfl (L_real rfl rfl (L_farith rfl (op := .mul) rfl rfl rfl ?_)))))))))))
 intro r11 k11 hr11
 replace hs := hs.drewN k11
 refine L_move rfl rfl (L_imag rfl rfl (L_move rfl rfl (L_imag rfl rfl (L_farith rfl (op := .mul) rfl rfl rfl ?_))))
 intro r16 k16 hr16
 replace hs := hs.drewN k16
 refine L_farith rfl (op := .sub) rfl rfl rfl ?_
 intro r17 k17 hr17
 replace hs := hs.drewN k17
 refine L_assign rfl rfl (RL_then (W_seq (W_region (L_move rfl rfl (L_real rfl rfl (L_move rfl rfl (L_imag rfl rfl (L_farith rfl (op := .mul) rfl rfl rfl ?_))))))))
 intro r22 k22 hr22
 replace hs := hs.drewN k22
 refine L_move rfl rfl (L_imag rfl rfl (L_move rfl rfl (L_real rfl rfl (L_farith rfl (op := .mul) rfl rfl rfl ?_))))
 intro r27 k27 hr27
 replace hs := hs.drewN k27
 refine L_farith rfl (op := .add) rfl rfl rfl ?_
 intro r28 k28 hr28
 replace hs := hs.drewN k28
 refine L_assign rfl rfl (RL_then (W_seq (W_region (L_move rfl rfl (L_move rfl rfl (L_complex rfl rfl rfl (L_assign rfl rfl (RL_then (W_ret' (Ex_done1 rfl rfl ?_))))))))))
 exact ⟨_, rfl, _, _, rfl, hs, (Fs.cn hr17).trans (fop_congr ((Fs.cn hr11).trans (cn_fop ..).symm) ((Fs.cn hr16).trans (cn_fop ..).symm)), (Fs.cn hr28).trans (fop_congr ((Fs.cn hr22).trans (cn_fop ..).symm) ((Fs.cn hr27).trans (cn_fop ..).symm))⟩
theorem and_low (b : Nat) (h : b < 18446744073709551616) : b &&& 9223372036854775807 = b % 9223372036854775808 := Nat.and_two_pow_sub_one_eq_mod b 63
theorem abs_ok (b : Nat) (h : b < 18446744073709551616) (w : World) : Ret Try.prog 26 [.float .f64 b] w fun v w' => v = .float .f64 (b % 9223372036854775808) ∧ w' = w := by
 refine calls_of_W Try.func26 rfl rfl rfl (W_seq (W_region (L_assign rfl rfl (RL_then (W_seq (W_region (L_move rfl rfl (RL_val rfl (R_f64bits Try.ext27 rfl) ?_))))))))
 refine L_bin rfl rfl rfl (fun _ _ => eqGuard_andNot ..) (v := .int .u64 ((b % 9223372036854775808 : Nat) : Int)) ?_ ?_
 ·
  rw [binOp_andNot]
  have h1 := u64_andNot_nat b 9223372036854775808 h (by decide)
  have h2 : (Op.intBits .andNot .u64 (b : Int) 9223372036854775808).run Try.prog w = .ok (.int .u64 (bits .andNot .u64 (b : Int) ((9223372036854775808 : Nat) : Int))) w := rfl
  rw [h1, show 18446744073709551615 - 9223372036854775808 = 9223372036854775807 by decide, and_low b h] at h2
  exact h2
 ·
  skip
  refine RL_val rfl (R_f64from Try.ext46 rfl) (L_assign rfl rfl (RL_then (W_ret' (Ex_done1 rfl rfl ?_))))
  exact ⟨_, rfl, rfl, rfl⟩
/-- a float that is a number -/
structure Fin1 (x : Nat) : Prop where
 lt : x < 18446744073709551616
 self : FloatKind.f64.format.order x x = some .eq
 fin : FloatKind.f64.format.order (x % 9223372036854775808) 9218868437227405311 ≠ some .gt
end Go.Proofs.Ytknpoemkmcdgcaa

namespace Go.Proofs.Ytknpoemkmcdgcaa
open Go Go.Lk
theorem fl_set1 (xs : List Nat) (j v : Nat) : (fl xs).set j (.float .f64 v) = fl (xs.set j v) := by simp [fl, List.map_set]
theorem and1 : ∀ k : Nat, k < 9 → bits .and .i64 (k : Int) 1 = ((k % 2 : Nat) : Int) := by decide +kernel
def sgF (k : Nat) : Nat := FloatKind.f64.nearest (1 - 2 * ((k % 2 : Nat) : Int))
theorem sign_ok (k : Nat) (hk : k < 9) (w : World) : Ret Try.prog 95 [.int .i64 k] w fun v w' => v = .float .f64 (sgF k) ∧ w' = w := by
 have h := and1 k hk
 refine calls_of_W Try.func95 rfl rfl rfl (W_seq (W_region (L_assign rfl rfl (RL_then (W_seq (W_region (L_move rfl rfl (RL_val rfl (R_ibits (by simp) rfl rfl h) ?_))))))))
 refine L_mul rfl rfl rfl (wrp_i64 (by omega)) ?_
 refine L_sub rfl rfl rfl (wrp_i64 (by omega)) ?_
 refine L_itof rfl Try.underlying3 Try.underlying22 rfl (L_assign rfl rfl (RL_then (W_ret' (Ex_done1 rfl rfl ?_))))
 exact ⟨_, rfl, rfl, rfl⟩
/-- products of the first numbers, and what the series hold -/
def facF : Nat → Nat
 | 0 => 4607182418800017408
 | i + 1 => fop .mul (facF i) (FloatKind.f64.nearest ((i + 1 : Nat) : Int))
def powS (odd : Nat) : Nat → List Nat
 | 0 => List.replicate 24 0
 | i + 1 => if (i + 1) % 2 = odd then (powS odd i).set ((i + 1) / 2) (fop .quo (sgF ((i + 1) / 2)) (facF (i + 1))) else powS odd i
theorem fac_ok : ∀ i, i < 18 → floatBits .mul .f64 (facF i) (FloatKind.f64.nearest ((i + 1 : Nat) : Int)) = some (facF (i + 1)) := by decide +kernel
theorem pow_ok : ∀ i, i < 18 → floatBits .quo .f64 (sgF (i / 2)) (facF i) = some (fop .quo (sgF (i / 2)) (facF i)) := by decide +kernel
theorem powS_len (odd : Nat) : ∀ i, (powS odd i).length = 24
 | 0 => by simp [powS]
 | i + 1 => by
  unfold powS
  split
  ·
   rw [List.length_set, powS_len odd i]
  ·
   exact powS_len odd i
def powT (odd : Nat) : List Nat := if odd = 0 then (powS 0 16).set 0 4607182418800017408 else powS 1 17
theorem fl_one' (xs : List Nat) : ∀ v ∈ fl xs, v.oneCell' = true := by intro v h; obtain ⟨x, _, rfl⟩ := List.mem_map.1 h; rfl
theorem ti83' (S : List Nat) (h : S.length = 24) : TI Try.prog 137 (.agg (fl (List.replicate 24 0)).toArray) (fl S).length 192 := by rw [fl_length, h]; exact Try.ti137
theorem powers_ok (odd : Nat) (ho : odd ≤ 1) (w0 : World) : Ret Try.prog 83 [.int .i64 odd] w0 fun v w' => v = .agg (fl (powT odd)).toArray ∧ HS w0 w' [] := by
 refine Ret.start fun w hs => ?_
 refine calls_of_W Try.func83 rfl rfl rfl (W_seq (W_region (L_alloc rfl hs Try.ti137 ?_)))
 intro b2 w hb2 hnb2 hs
 dsimp only [List.set_cons_succ, List.set_cons_zero, List.cons_append, List.nil_append] at hs
 refine RL_then (W_seq (W_region (L_assign rfl rfl (RL_then (W_seq (W_seq (W_region (L_assign rfl rfl (RL_then (W_block ?_))))))))))
 replace hs : HS w0 w [(b2, Row 137 (fl (powS odd 0)))] := hs
 refine W_loop2 (fun (i : Nat) (w : World) => [(0, .int .i64 odd), (2, .pointer (some ⟨b2, 0, none⟩)), (3, .float .f64 (facF i)), (4, .int .i64 (i + 1 : Nat))]) (fun (i : Nat) (w : World) => w) (fun (i : Nat) (w : World) => (i ≤ 16 + odd) ∧ (HS w0 w [(b2, Row 137 (fl (powS odd i)))])) (fun (i : Nat) (w : World) => 17 + odd - i) (0) (w) (is := [0, 2, 3, 4]) rfl rfl ?_ ?_
 ·
  exact ⟨Nat.zero_le _, hs⟩
 ·
  clear hs
  intro i w hI
  show W _ _ _ _ [(0, .int .i64 odd), (2, .pointer (some ⟨b2, 0, none⟩)), (3, .float .f64 (facF i)), (4, .int .i64 (i + 1 : Nat))] w
  obtain ⟨hi, hs⟩ := hI
  have hpl := powS_len odd i
  by_cases hlt : i + 1 ≤ 16 + odd
  ·
   have e1 : Int.tmod ((i + 1 : Nat) : Int) 2 = (((i + 1) % 2 : Nat) : Int) := rfl
   have e2 : Int.tdiv ((i + 1 : Nat) : Int) 2 = (((i + 1) / 2 : Nat) : Int) := rfl
   refine W_seq (W_seq (W_region (L_move rfl rfl (L_move rfl rfl (L_add rfl rfl rfl (wrp_i64 (by omega)) ?_)))))
   refine L_leq rfl rfl rfl (dtrue (by omega)) ?_
   refine RL_then (W_if_true rfl (W_skip' (Nx_then (W_seq (W_block (W_seq (W_region (L_move rfl rfl (L_move rfl rfl (L_itof rfl Try.underlying3 Try.underlying22 rfl (L_farith rfl (op := .mul) rfl rfl rfl ?_)))))))))))
   intro r14 k14 hr14
   replace hs := hs.drewN k14
   obtain rfl := fs_val hr14 (fac_ok i (by omega))
   refine L_assign rfl rfl (RL_then (W_seq (W_region (L_move rfl rfl (L_rem rfl rfl rfl (by omega) ?_)))))
   rw [e1]
   by_cases hm : (i + 1) % 2 = odd
   ·
    refine L_move rfl rfl (L_eql rfl rfl rfl (dtrue (by omega)) ?_)
    refine RL_then (W_if_true rfl (W_region (L_move rfl rfl (L_quo rfl rfl rfl (by omega) (wrp_i64 (by omega)) ?_))))
    rw [e2]
    refine L_move rfl rfl (L_quo rfl rfl rfl (by omega) (wrp_i64 (by omega)) ?_)
    rw [e2]
    refine L_call rfl Try.fun95 rfl (sign_ok ((i + 1) / 2) (by omega) _) ?_
    rintro _ w ⟨rfl, rfl⟩
    refine L_move rfl rfl (L_farith rfl (op := .quo) rfl rfl rfl ?_)
    intro r25 k25 hr25
    replace hs := hs.drewN k25
    obtain rfl := fs_val hr25 (pow_ok (i + 1) (by omega))
    refine L_idxA1 rfl Try.underlying137 Try.ti22 rfl rfl (natc_k _) (by omega) ?_
    refine L_store hs (i := 0) rfl Try.ti22 rfl rfl (by exact add_lit0 _ _) (by simp; omega) rfl ?_
    intro w hs
    dsimp only [List.set_cons_succ, List.set_cons_zero, List.cons_append, List.nil_append] at hs
    refine RL_nil' (Nx_block (Nx_then (W_region (L_move rfl rfl (L_add rfl rfl rfl (wrp_i64 (by omega)) ?_)))))
    refine L_assign rfl rfl (RL_nil' ?_)
    rw [fl_set1] at hs
    refine Nx_loopP (i + 1, _) (is := [0, 2, 3, 4]) (I' := (fun (i : Nat) (w : World) => (i ≤ 16 + odd) ∧ (HS w0 w [(b2, Row 137 (fl (powS odd i)))])) (i + 1) (_)) rfl rfl rfl ?_ ?_
    ·
     exact ⟨by omega, by unfold powS; rw [if_pos hm]; exact hs⟩
    ·
     omega
   ·
    refine L_move rfl rfl (L_eql rfl rfl rfl (dfalse (by omega)) ?_)
    refine RL_then (W_if_false rfl (W_skip' (Nx_block (Nx_then (W_region (L_move rfl rfl (L_add rfl rfl rfl (wrp_i64 (by omega)) ?_)))))))
    refine L_assign rfl rfl (RL_nil' ?_)
    refine Nx_loopP (i + 1, _) (is := [0, 2, 3, 4]) (I' := (fun (i : Nat) (w : World) => (i ≤ 16 + odd) ∧ (HS w0 w [(b2, Row 137 (fl (powS odd i)))])) (i + 1) (_)) rfl rfl rfl ?_ ?_
    ·
     exact ⟨by omega, by unfold powS; rw [if_neg hm]; exact hs⟩
    ·
     omega
  ·
   have hie : i = 16 + odd := by omega
   refine W_seq (W_seq (W_region (L_move rfl rfl (L_move rfl rfl (L_add rfl rfl rfl (wrp_i64 (by omega)) ?_)))))
   refine L_leq rfl rfl rfl (dfalse (by omega)) ?_
   refine RL_then (W_if_false rfl ?_)
   by_cases h0 : odd = 0
   ·
    subst h0
    subst hie
    refine W_exit' (Ex_then_exit (Ex_loop_exit (Ex_block_hit (Nx_then (W_seq (W_seq (W_region (L_move rfl rfl (L_eql rfl rfl rfl (dtrue (by omega)) ?_)))))))))
    refine RL_then (W_if_true rfl (W_region (L_idxA1 rfl Try.underlying137 Try.ti22 rfl rfl natc_0 (by omega) ?_)))
    refine L_store hs (i := 0) rfl Try.ti22 rfl rfl (by rfl) (by rw [fl_length]; omega) rfl ?_
    intro w hs
    dsimp only [List.set_cons_succ, List.set_cons_zero, List.cons_append, List.nil_append] at hs
    refine RL_then (W_seq (W_region ?_))
    rw [fl_set1] at hs
    obtain ⟨S, hST⟩ : ∃ S, S = powT 0 := ⟨_, rfl⟩
    have hS : S.length = 24 := by rw [hST]; decide +kernel
    replace hs : HS w0 w [(b2, Row 137 (fl S))] := by rw [hST]; exact hs
    refine L_loadA (cs := fl S) rfl Try.agg137 (ti83' S hS) rfl (cellsAt_whole (hs.get (i := 0) rfl)) ?_
    refine L_storeA (vs := fl S) hs (i := 0) rfl (ti83' S hS) rfl rfl rfl (by rw [Nat.zero_add]; exact Nat.le_refl _) (fl_one' S) ?_
    intro w hs
    replace hs : HS w0 w [(b2, Row 137 (fl S))] := by
     have e : (fl S).drop S.length = [] := List.drop_eq_nil_of_le (by rw [fl_length]; omega)
     simpa [e] using hs
    refine RL_then (W_ret' (Ex_doneC rfl rfl Try.agg137 (ti83' S hS) (by exact cellsAt_whole (hs.get (i := 0) rfl)) ?_))
    exact ⟨_, rfl, by rw [hST], hs.forget (Own.cons hb2 Own.nil)⟩
   ·
    obtain rfl : odd = 1 := by omega
    subst hie
    refine W_exit' (Ex_then_exit (Ex_loop_exit (Ex_block_hit (Nx_then (W_seq (W_seq (W_region (L_move rfl rfl (L_eql rfl rfl rfl (dfalse (by omega)) ?_)))))))))
    refine RL_then (W_if_false rfl (W_skip' (Nx_then (W_seq (W_region ?_)))))
    obtain ⟨S, hST⟩ : ∃ S, S = powT 1 := ⟨_, rfl⟩
    have hS : S.length = 24 := by rw [hST]; decide +kernel
    replace hs : HS w0 w [(b2, Row 137 (fl S))] := by rw [hST]; exact hs
    refine L_loadA (cs := fl S) rfl Try.agg137 (ti83' S hS) rfl (cellsAt_whole (hs.get (i := 0) rfl)) ?_
    refine L_storeA (vs := fl S) hs (i := 0) rfl (ti83' S hS) rfl rfl rfl (by rw [Nat.zero_add]; exact Nat.le_refl _) (fl_one' S) ?_
    intro w hs
    replace hs : HS w0 w [(b2, Row 137 (fl S))] := by
     have e : (fl S).drop S.length = [] := List.drop_eq_nil_of_le (by rw [fl_length]; omega)
     simpa [e] using hs
    refine RL_then (W_ret' (Ex_doneC rfl rfl Try.agg137 (ti83' S hS) (by exact cellsAt_whole (hs.get (i := 0) rfl)) ?_))
    exact ⟨_, rfl, by rw [hST], hs.forget (Own.cons hb2 Own.nil)⟩
end Go.Proofs.Ytknpoemkmcdgcaa

namespace Go.Proofs.Ytknpoemkmcdgcaa
open Go Go.Lk
def horF (S : List Nat) (z : Nat) : Nat → Nat
 | 0 => S.getD 8 0
 | m + 1 => fop .add (fop .mul (horF S z m) z) (S.getD (7 - m) 0)
theorem at_ok (B : Nat) (S : List Nat) (z : Nat) (w0 : World) (hB : w0.heap[B]? = some (Row 137 (fl S))) (hS : S.length = 24) :
  Ret Try.prog 84 [.pointer (some ⟨B, 0, none⟩), .float .f64 z, .int .i64 9] w0 fun v w' => ∃ r, v = .float .f64 r ∧ HS w0 w' [] ∧ cn r = cn (horF S z 8) := by
 refine Ret.start fun w hs => ?_
 have hld : ∀ {w : World}, HS w0 w [] → ∀ j, j < 24 → w.cell? ((Addr.mk B 0 none).add j) = some (.float .f64 (S.getD j 0)) := fun {w} hs j hj => by
  rw [add_lit0]
  refine Lk.cell_of_row (cs := fl S) (T := 137) ?_ (fl_get (by omega))
  rw [hs.old (Array.getElem?_eq_some_iff.1 hB).1 (by simp)]; exact hB
 refine calls_of_W Try.func84 rfl rfl rfl (W_seq (W_region (L_assign rfl rfl (RL_then (W_seq (W_region (L_move rfl rfl (L_move rfl rfl (L_sub rfl rfl rfl (wrp_i64 (by omega)) ?_)))))))))
 refine L_nilCheck rfl rfl (L_idxA1 rfl Try.underlying137 Try.ti22 rfl rfl (j := 8) rfl (by omega) ?_)
 refine L_load rfl Try.one22 rfl (by exact hld hs 8 (by decide)) ?_
 refine L_assign rfl rfl (RL_then (W_seq (W_seq (W_region (L_move rfl rfl (L_sub rfl rfl rfl (wrp_i64 (by omega)) ?_))))))
 refine L_assign rfl rfl (RL_then (W_block ?_))
 refine W_loop3 (fun (m : Nat) (r : Nat) (w : World) => [(0, .pointer (some ⟨B, 0, none⟩)), (1, .float .f64 z), (7, .float .f64 r), (8, .int .i64 (7 - (m : Int)))]) (fun (m : Nat) (r : Nat) (w : World) => w) (fun (m : Nat) (r : Nat) (w : World) => (m ≤ 8) ∧ (cn r = cn (horF S z m)) ∧ (HS w0 w [])) (fun (m : Nat) (r : Nat) (w : World) => 9 - m) (0) (_) (w) (is := [0, 1, 7, 8]) rfl rfl ?_ ?_
 ·
  exact ⟨Nat.zero_le _, rfl, hs⟩
 ·
  clear hs
  intro m r w hI
  show W _ _ _ _ [(0, .pointer (some ⟨B, 0, none⟩)), (1, .float .f64 z), (7, .float .f64 r), (8, .int .i64 (7 - (m : Int)))] w
  obtain ⟨hm, hr, hs⟩ := hI
  by_cases hlt : m < 8
  ·
   have hn : (7 - (m : Int)) = ((7 - m : Nat) : Int) := by omega
   refine W_seq (W_seq (W_region (L_move rfl rfl (L_geq rfl rfl rfl (dtrue (by omega)) ?_))))
   refine RL_then (W_if_true rfl (W_skip' (Nx_then (W_seq (W_block (W_region (L_move rfl rfl (L_move rfl rfl (L_farith rfl (op := .mul) rfl rfl rfl ?_)))))))))
   intro r23 k23 hr23
   replace hs := hs.drewN k23
   refine L_move rfl rfl (L_move rfl rfl (L_nilCheck rfl rfl (L_idxA1 rfl Try.underlying137 Try.ti22 rfl rfl hn (by omega) ?_)))
   refine L_load rfl Try.one22 rfl (by exact hld hs (7 - m) (by omega)) ?_
   refine L_farith rfl (op := .add) rfl rfl rfl ?_
   intro r29 k29 hr29
   replace hs := hs.drewN k29
   refine L_assign rfl rfl (RL_nil' (Nx_block (Nx_then (W_region (L_move rfl rfl (L_sub rfl rfl rfl (wrp_i64 (by omega)) ?_))))))
   rw [show (7 - (m : Int)) - 1 = 7 - ((m + 1 : Nat) : Int) by omega]
   refine L_assign rfl rfl (RL_nil' ?_)
   refine Nx_loopP (m + 1, r29, _) (is := [0, 1, 7, 8]) (I' := (fun (m : Nat) (r : Nat) (w : World) => (m ≤ 8) ∧ (cn r = cn (horF S z m)) ∧ (HS w0 w [])) (m + 1) (r29) (_)) rfl rfl rfl ?_ ?_
   ·
    exact ⟨by omega, (Fs.cn hr29).trans ((fop_congr ((Fs.cn hr23).trans ((fop_congr hr rfl).trans (cn_fop ..).symm)) rfl).trans (cn_fop ..).symm), hs⟩
   ·
    omega
  ·
   obtain rfl : m = 8 := by omega
   refine W_seq (W_seq (W_region (L_move rfl rfl (L_geq rfl rfl rfl (dfalse (by omega)) ?_))))
   refine RL_then (W_if_false rfl (W_exit' (Ex_then_exit (Ex_loop_exit (Ex_block_hit (Nx_then (W_seq (W_region (L_move rfl rfl (L_assign rfl rfl (RL_then (W_ret' ?_))))))))))))
   refine Ex_done1 rfl rfl ?_
   exact ⟨_, rfl, _, rfl, hs, hr⟩
theorem cn_same {x v : Nat} (h : cn x = cn v) (hv : isnan v = false) : x = v := by
 rw [cn_num hv] at h
 cases hx : isnan x with
 | true =>
  rw [cn_nan hx] at h
  rw [← h] at hv
  exact absurd hv (by decide)
 | false => rwa [cn_num hx] at h
theorem sqrt_half (w : World) : Ret Try.prog 82 [.float .f64 4602678819172646912] w fun v w' => v = .float .f64 4604544271217802189 ∧ w' = w := by
 have h : FloatKind.f64.format.sqrt 4602678819172646912 = some 4604544271217802189 := by decide +kernel
 refine calls_of_W Try.func82 rfl rfl rfl (W_seq (W_region (L_assign rfl rfl (RL_then (W_seq (W_region (L_move rfl rfl (RL_val rfl (R_extern Try.ext94 rfl (fun w => run_sqrt h w)) ?_))))))))
 refine L_assign rfl rfl (RL_then (W_ret' (Ex_done1 rfl rfl ?_)))
 exact ⟨_, rfl, rfl, rfl⟩
theorem horF_congr (S : List Nat) {z z' : Nat} (h : cn z = cn z') : ∀ m, cn (horF S z m) = cn (horF S z' m)
 | 0 => rfl
 | m + 1 => by
  show cn (fop .add (fop .mul (horF S z m) z) _) = cn (fop .add (fop .mul (horF S z' m) z') _)
  rw [fop_congr (op := .mul) (horF_congr S h m) h]
/-- the point at a turn up to an eighth -/
def eigF (a : Nat) : Nat × Nat := if FloatKind.f64.format.order a 4593671619917905920 == some .eq then (4604544271217802189, 4604544271217802189) else
 (horF (powT 0) (fop .mul (fop .mul a 4618760256179416344) (fop .mul a 4618760256179416344)) 8, fop .mul (horF (powT 1) (fop .mul (fop .mul a 4618760256179416344) (fop .mul a 4618760256179416344)) 8) (fop .mul a 4618760256179416344))
theorem eigF_congr {a a' : Nat} (h : cn a = cn a') : eigF a = eigF a' := by
 unfold eigF
 rw [order_congr h (rfl : cn 4593671619917905920 = _), fop_congr (op := .mul) h (rfl : cn 4618760256179416344 = _)]
theorem eigF_far {a : Nat} (h : (FloatKind.f64.format.order a 4593671619917905920 == some .eq) = false) : (eigF a).1 = horF (powT 0) (fop .mul (fop .mul a 4618760256179416344) (fop .mul a 4618760256179416344)) 8 ∧ (eigF a).2 = fop .mul (horF (powT 1) (fop .mul (fop .mul a 4618760256179416344) (fop .mul a 4618760256179416344)) 8) (fop .mul a 4618760256179416344) := by
 have e : eigF a = (horF (powT 0) (fop .mul (fop .mul a 4618760256179416344) (fop .mul a 4618760256179416344)) 8, fop .mul (horF (powT 1) (fop .mul (fop .mul a 4618760256179416344) (fop .mul a 4618760256179416344)) 8) (fop .mul a 4618760256179416344)) := by
  unfold eigF
  rw [h, if_neg (by decide)]
 constructor
 ·
  rw [e]
 ·
  rw [e]
theorem eigF_at {a : Nat} (h : (FloatKind.f64.format.order a 4593671619917905920 == some .eq) = true) : eigF a = (4604544271217802189, 4604544271217802189) := by
 unfold eigF
 rw [h, if_pos rfl]
theorem eighth_ok (a : Nat) (w0 : World) : Ret Try.prog 68 [.float .f64 a] w0 fun v w' => ∃ re im, v = .complex .f64 re im ∧ HS w0 w' [] ∧ cn re = cn (eigF a).1 ∧ cn im = cn (eigF a).2 := by
 refine Ret.start fun w hs => ?_
 refine calls_of_W Try.func68 rfl rfl rfl ?_
 cases hc : FloatKind.f64.format.order a 4593671619917905920 == some .eq
 ·
  refine W_seq (W_region (L_assign rfl rfl (RL_then (W_seq (W_seq (W_region (L_move rfl rfl ?_)))))))
  refine L_fcmp rfl rfl rfl (fun _ => by rw [binOp_float_cmp_eql]; rfl) ?_
  refine RL_then (W_set 8 (v' := .bool false) rfl (by rw [hc]) ?_)
  refine W_if_false rfl (W_skip' (Nx_then (W_seq (W_region (L_move rfl rfl (L_farith rfl (op := .mul) rfl rfl rfl ?_))))))
  intro r13 k13 hr13
  replace hs := hs.drewN k13
  refine L_assign rfl rfl (RL_then (W_seq (W_region (L_move rfl rfl (L_move rfl rfl (L_farith rfl (op := .mul) rfl rfl rfl ?_))))))
  intro r16 k16 hr16
  replace hs := hs.drewN k16
  refine L_assign rfl rfl (RL_then (W_seq (W_region (L_call rfl Try.fun83 rfl (powers_ok 1 (by decide) _) ?_))))
  rintro _ w1 ⟨rfl, hs'⟩
  replace hs := hs.nil hs'
  clear hs'
  skip
  refine L_call rfl Try.fun83 rfl (powers_ok 0 (by decide) _) ?_
  rintro _ w2 ⟨rfl, hs'⟩
  replace hs := hs.nil hs'
  clear hs'
  have l1 : (powT 1).length = 24 := by decide +kernel
  have l0 : (powT 0).length = 24 := by decide +kernel
  obtain ⟨S1, h1⟩ : ∃ S, S = powT 1 := ⟨_, rfl⟩
  obtain ⟨S0, h0⟩ : ∃ S, S = powT 0 := ⟨_, rfl⟩
  rw [← h1] at l1 ⊢
  rw [← h0] at l0 ⊢
  refine L_alloc rfl hs Try.ti137 ?_
  intro b5 w hb5 hnb5 hs
  dsimp only [List.set_cons_succ, List.set_cons_zero, List.cons_append, List.nil_append] at hs
  refine L_alloc rfl hs Try.ti137 ?_
  intro b6 w hb6 hnb6 hs
  dsimp only [List.set_cons_succ, List.set_cons_zero, List.cons_append, List.nil_append] at hs
  obtain ⟨Z, hZ⟩ : ∃ Z, Z = List.replicate 24 0 := ⟨_, rfl⟩
  have lZ : Z.length = 24 := by rw [hZ]; decide +kernel
  replace hs : HS w0 w [(b5, Row 137 (fl Z)), (b6, Row 137 (fl Z))] := by rw [hZ]; exact hs
  clear hZ
  refine L_storeA (vs := fl S1) (cs := fl Z) hs (i := 0) rfl (ti83' S1 l1) rfl rfl rfl (by simp [l1, lZ]) (fl_one' S1) ?_
  intro w hs
  replace hs : HS w0 w [(b5, Row 137 (fl S1)), (b6, Row 137 (fl Z))] := by
   have e : (fl Z).drop (0 + (fl S1).length) = [] := List.drop_eq_nil_of_le (by simp [l1, lZ])
   rw [e] at hs
   simpa using hs
  refine L_storeA (vs := fl S0) (cs := fl Z) hs (i := 1) rfl (ti83' S0 l0) rfl rfl rfl (by simp [l0, lZ]) (fl_one' S0) ?_
  intro w hs
  replace hs : HS w0 w [(b5, Row 137 (fl S1)), (b6, Row 137 (fl S0))] := by
   have e : (fl Z).drop (0 + (fl S0).length) = [] := List.drop_eq_nil_of_le (by simp [l0, lZ])
   rw [e] at hs
   simpa using hs
  refine RL_then (W_seq (W_region (L_move rfl rfl (L_call rfl Try.fun84 rfl (at_ok b6 S0 r16 w (hs.get (i := 1) rfl) l0) ?_))))
  rintro _ w3 ⟨c, rfl, hs', hc8⟩
  replace hs := hs.nil hs'
  clear hs'
  refine L_move rfl rfl (L_call rfl Try.fun84 rfl (at_ok b5 S1 r16 w3 (hs.get (i := 0) rfl) l1) ?_)
  rintro _ w4 ⟨s, rfl, hs', hs8⟩
  replace hs := hs.nil hs'
  clear hs'
  refine L_move rfl rfl (L_farith rfl (op := .mul) rfl rfl rfl ?_)
  intro r24 k24 hr24
  replace hs := hs.drewN k24
  refine L_complex rfl rfl rfl (L_assign rfl rfl (RL_then (W_ret' (Ex_done1 rfl rfl ?_))))
  have ez : cn r16 = cn (fop .mul (fop .mul a 4618760256179416344) (fop .mul a 4618760256179416344)) := by
   have e := Fs.cn hr13
   exact ((Fs.cn hr16).trans (fop_congr (e.trans (cn_fop ..).symm) (e.trans (cn_fop ..).symm))).trans (cn_fop ..).symm
  refine ⟨_, rfl, _, _, rfl, hs.forget (Own.cons hb5 (Own.cons hb6 Own.nil)), ?_, ?_⟩
  ·
   rw [(eigF_far hc).1]
   rw [h0] at hc8
   exact hc8.trans (horF_congr _ ez 8)
  ·
   rw [(eigF_far hc).2]
   rw [h1] at hs8
   rw [cn_fop]
   exact (Fs.cn hr24).trans (fop_congr (hs8.trans (horF_congr _ ez 8)) ((Fs.cn hr13).trans (cn_fop ..).symm))
 ·
  refine W_seq (W_region (L_assign rfl rfl (RL_then (W_seq (W_seq (W_region (L_move rfl rfl ?_)))))))
  refine L_fcmp rfl rfl rfl (fun _ => by rw [binOp_float_cmp_eql]; rfl) ?_
  refine RL_then (W_set 8 (v' := .bool true) rfl (by rw [hc]) ?_)
  refine W_if_true rfl (W_seq (W_region (L_call rfl Try.fun82 rfl (sqrt_half w) ?_)))
  rintro _ w ⟨rfl, rfl⟩
  refine L_call rfl Try.fun82 rfl (sqrt_half w) ?_
  rintro _ w ⟨rfl, rfl⟩
  refine L_complex rfl rfl rfl (L_assign rfl rfl (RL_then (W_ret' (Ex_then_ret (Ex_done1 rfl rfl ?_)))))
  refine ⟨_, rfl, _, _, rfl, hs, ?_, ?_⟩
  ·
   rw [eigF_at hc]
  ·
   rw [eigF_at hc]
end Go.Proofs.Ytknpoemkmcdgcaa

namespace Go.Proofs.Ytknpoemkmcdgcaa
open Go Go.Lk
theorem write_lt (d : Ieee.Datum) (h : d.isNaN = false) : Ieee.double.write d < 18446744073709551616 := by
 have hw : ∀ s r, r ≤ 9218868437227405312 → Ieee.double.word s r < 18446744073709551616 := fun s r hr => by
  unfold Ieee.Format.word
  rw [double_sw]
  split <;> omega
 cases d with
 | nan s f => simp [Ieee.Datum.isNaN] at h
 | infinity s => exact hw s _ (Nat.le_refl _)
 | number s m p =>
  show Ieee.double.nearest s m p < _
  unfold Ieee.Format.nearest
  dsimp only
  split
  ·
   exact hw s 0 (by omega)
  ·
   exact hw s _ (by rw [double_inf]; exact Nat.min_le_right _ _)
theorem floatBits_lt {op : BinOp} {x y r : Nat} (h : floatBits op .f64 x y = some r) : r < 18446744073709551616 := by
 have key : ∀ o : Option Ieee.Datum, (∀ d, o = some d → d.isNaN = false) → o.map Ieee.double.write = some r → r < 18446744073709551616 := fun o ho hr => by
  cases o with
  | none => cases hr
  | some d => cases hr; exact write_lt d (ho d rfl)
 unfold floatBits at h
 split at h
 ·
  exact key _ (fun d hd => sum_not_nan hd) h
 ·
  exact key _ (fun d hd => sum_not_nan hd) h
 ·
  exact key _ (fun d hd => product_not_nan hd) h
 ·
  exact key _ (fun d hd => quotient_not_nan hd) h
 ·
  cases h
theorem fs_lt {op : BinOp} {x y r : Nat} (h : Fs op x y r) (hn : isnan r = false) : r < 18446744073709551616 := by
 rcases h with h | ⟨_, h⟩
 ·
  exact floatBits_lt h
 ·
  rw [hn] at h; cases h
def truF (x : Nat) : Nat := FloatKind.f64.encode ((FloatKind.f64.decode x).integral .zero)
theorem trunc_ok (x : Nat) (hx : isnan x = false) (w : World) : Ret Try.prog 92 [.float .f64 x] w fun v w' => v = .float .f64 (truF x) ∧ w' = w := by
 refine calls_of_W Try.func92 rfl rfl rfl (W_seq (W_region (L_assign rfl rfl (RL_then (W_seq (W_if_true rfl (W_seq (W_region (L_move rfl rfl (RL_val rfl (R_extern Try.ext98 rfl (fun w => run_trunc hx w)) ?_))))))))))
 refine L_assign rfl rfl (RL_then (W_ret' (Ex_then_ret (Ex_done1 rfl rfl ?_))))
 exact ⟨_, rfl, rfl, rfl⟩
def copF (f s : Nat) : Nat := (f &&& (18446744073709551615 - 9223372036854775808)) ||| (s &&& 9223372036854775808)
theorem copy_ok (f s : Nat) (hf : f < 18446744073709551616) (hs : s < 18446744073709551616) (w : World) : Ret Try.prog 93 [.float .f64 f, .float .f64 s] w fun v w' => v = .float .f64 (copF f s) ∧ w' = w := by
 have h1 := u64_andNot_nat f 9223372036854775808 hf (by decide)
 have h2 := u64_and_nat s 9223372036854775808 hs (by decide)
 have h3 := u64_or_nat (f &&& (18446744073709551615 - 9223372036854775808)) (s &&& 9223372036854775808) (Nat.lt_of_le_of_lt Nat.and_le_left hf) (Nat.lt_of_le_of_lt Nat.and_le_left hs)
 refine calls_of_W Try.func93 rfl rfl rfl (W_seq (W_region (L_assign rfl rfl (RL_then (W_seq (W_region (L_move rfl rfl (RL_val rfl (R_f64bits Try.ext27 rfl) (RL_val rfl (R_ibits (by simp) rfl rfl h1) ?_)))))))))
 refine L_move rfl rfl (RL_val rfl (R_f64bits Try.ext27 rfl) (RL_val rfl (R_ibits (by simp) rfl rfl h2) ?_))
 refine RL_val rfl (R_ibits (by simp) rfl rfl h3) ?_
 refine RL_val rfl (R_f64from Try.ext46 rfl) (L_assign rfl rfl (RL_then (W_ret' (Ex_done1 rfl rfl ?_))))
 exact ⟨_, rfl, rfl, rfl⟩
theorem modf_ok (x : Nat) (hx : isnan x = false) (hx2 : x < 18446744073709551616) (hfin : ∃ r, floatBits .sub .f64 x (truF x) = some r) (w0 : World) : Ret Try.prog 81 [.float .f64 x] w0 fun v w' => ∃ r, floatBits .sub .f64 x (truF x) = some r ∧ v = .tuple #[.float .f64 (truF x), .float .f64 (copF r x)] ∧ HS w0 w' [] := by
 obtain ⟨r, hr⟩ := hfin
 refine Ret.start fun w hs => ?_
 refine calls_of_W Try.func81 rfl rfl rfl (W_seq (W_region (L_assign rfl rfl (L_assign rfl rfl (RL_then (W_seq (W_region (L_move rfl rfl (L_call rfl Try.fun92 rfl (trunc_ok x hx w) ?_)))))))))
 rintro _ w ⟨rfl, rfl⟩
 refine L_assign rfl rfl (RL_then (W_seq (W_region (L_move rfl rfl (L_move rfl rfl (L_farith rfl (op := .sub) rfl rfl rfl ?_))))))
 intro r8 k8 hr8
 replace hs := hs.drewN k8
 refine L_move rfl rfl ?_
 obtain rfl := fs_val hr8 hr
 refine L_call rfl Try.fun93 rfl (copy_ok r8 x (floatBits_lt hr) hx2 _) ?_
 rintro _ w ⟨rfl, rfl⟩
 refine L_assign rfl rfl (RL_then (W_ret' (Ex_done2 rfl rfl rfl ?_)))
 exact ⟨_, rfl, _, hr, rfl, hs⟩
theorem order_num {x y : Nat} {o : Ordering} (h : FloatKind.f64.format.order x y = some o) : isnan x = false := by
 cases hx : isnan x with
 | false => rfl
 | true => rw [order_nanL hx] at h; cases h
theorem sub_self_num {x r : Nat} (h : Fs .sub x x r) (hr : isnan r = false) : ∃ s m p, Ieee.double.read x = .number s m p := by
 rcases h with h | ⟨_, h⟩
 ·
  have h' : (Ieee.Datum.sum (Ieee.double.read x) (Ieee.double.read x).opposite).map Ieee.double.write = some r := h
  cases hx : Ieee.double.read x with
  | nan s f => rw [hx] at h'; simp [Ieee.Datum.sum] at h'
  | infinity s => rw [hx] at h'; cases s <;> simp [Ieee.Datum.sum, Ieee.Datum.opposite] at h'
  | number s m p => exact ⟨s, m, p, rfl⟩
 ·
  rw [hr] at h; cases h
theorem num_facts {x : Nat} (h : ∃ s m p, Ieee.double.read x = .number s m p) : isnan x = false ∧ ∃ r, floatBits .sub .f64 x (truF x) = some r := by
 obtain ⟨s, m, p, h⟩ := h
 have hn : isnan x = false := by show (Ieee.double.read x).isNaN = false; rw [h]; rfl
 refine ⟨hn, ?_⟩
 have h2 : isnan (truF x) = false := write_not_nan _ (by
  show ((Ieee.double.read x).integral .zero).isNaN = false
  rw [h]; rfl)
 have h3 : (Ieee.double.read (truF x)).isNaN = false := h2
 show ∃ r, (Ieee.Datum.sum (Ieee.double.read x) (Ieee.double.read (truF x)).opposite).map Ieee.double.write = some r
 rw [h]
 cases hd : Ieee.double.read (truF x) with
 | nan t f => rw [hd] at h3; cases h3
 | infinity t => exact ⟨_, rfl⟩
 | number t n j => exact ⟨_, rfl⟩
theorem nan_ok (w0 : World) : Ret Try.prog 80 [] w0 fun v w' => ∃ r, v = .float .f64 r ∧ isnan r = true ∧ HS w0 w' [] := by
 refine Ret.start fun w hs => ?_
 refine calls_of_W Try.func80 rfl rfl rfl (W_seq (W_region (L_assign rfl rfl (RL_then (W_seq (W_region (RL_val rfl (R_f64from Try.ext46 (b := 9221120237041090561) rfl) (L_assign rfl rfl (RL_then (W_ret' (Ex_done1 rfl rfl ?_)))))))))))
 exact ⟨_, rfl, _, rfl, by decide +kernel, hs⟩
/-- what a turn is wrapped into -/
def wrapG (y : Nat) : Nat := if (FloatKind.f64.format.order y 4602678819172646912 == some .gt || FloatKind.f64.format.order y 4602678819172646912 == some .eq) then fop .sub y 4607182418800017408 else if FloatKind.f64.format.order y 13826050856027422720 == some .lt then fop .add y 4607182418800017408 else y
def wrapF (x : Nat) : Nat := if FloatKind.f64.format.order (fop .sub x x) 0 != some .eq then qnan else fop .add (wrapG (copF (fop .sub x (truF x)) x)) 0
theorem wrap_ok (x : Nat) (hx2 : x < 18446744073709551616) (w0 : World) : Ret Try.prog 67 [.float .f64 x] w0 fun v w' => ∃ r, v = .float .f64 r ∧ ((isnan r = false → r < 18446744073709551616) ∧ cn r = wrapF x) ∧ HS w0 w' [] := by
 refine Ret.start fun w hs => ?_
 refine calls_of_W Try.func67 rfl rfl rfl (W_seq (W_region (L_assign rfl rfl (RL_then (W_seq (W_seq (W_region (L_move rfl rfl (L_move rfl rfl (L_farith rfl (op := .sub) rfl rfl rfl ?_))))))))))
 intro r7 k7 hr7
 replace hs := hs.drewN k7
 cases hc : FloatKind.f64.format.order r7 0 != some .eq
 ·
  have hc' : FloatKind.f64.format.order r7 0 = some .eq := by simpa using hc
  obtain ⟨hn, hfin⟩ := num_facts (sub_self_num hr7 (order_num hc'))
  refine L_fcmp rfl rfl rfl (fun _ => by rw [binOp_float_cmp_neq]; rfl) ?_
  refine RL_then (W_set 8 (v' := .bool false) rfl (by rw [hc]) ?_)
  refine W_if_false rfl (W_skip' (Nx_then (W_seq (W_region (L_move rfl rfl (L_call rfl Try.fun81 rfl (modf_ok x hn hx2 hfin _) ?_))))))
  rintro _ w2 ⟨q, hq, rfl, hs'⟩
  replace hs := hs.nil hs'
  clear hs'
  have hw : wrapF x = fop .add (wrapG (copF q x)) 0 := by
   unfold wrapF
   rw [order_congr ((cn_fop ..).trans (Fs.cn hr7).symm) (rfl : cn 0 = _), hc, if_neg (by decide), fop_some hq]
  obtain ⟨y, hy⟩ : ∃ y, y = copF q x := ⟨_, rfl⟩
  rw [← hy] at hw ⊢
  refine L_move rfl rfl (L_extract rfl rfl rfl (L_extract rfl rfl rfl (L_assign rfl rfl (L_assign rfl rfl (RL_then (W_seq (W_block (W_seq (W_region (L_move rfl rfl ?_))))))))))
  refine L_fcmp rfl rfl rfl (fun _ => by rw [binOp_float_cmp_geq]; rfl) ?_
  refine L_assign rfl rfl (RL_then ?_)
  cases hg : (FloatKind.f64.format.order y 4602678819172646912 == some .gt || FloatKind.f64.format.order y 4602678819172646912 == some .eq)
  ·
   refine W_if_false rfl (W_seq (W_region (L_move rfl rfl ?_)))
   refine L_fcmp rfl rfl rfl (fun _ => by rw [binOp_float_cmp_lss]; rfl) ?_
   refine L_assign rfl rfl (RL_then ?_)
   cases hl : FloatKind.f64.format.order y 13826050856027422720 == some .lt
   ·
    refine W_if_false rfl (W_skip' (Nx_block (Nx_then (W_seq (W_region (L_move rfl rfl (L_farith rfl (op := .add) rfl rfl rfl ?_)))))))
    intro r26 k26 hr26
    replace hs := hs.drewN k26
    refine L_assign rfl rfl (RL_then (W_ret' (Ex_done1 rfl rfl ?_)))
    refine ⟨_, rfl, _, rfl, ⟨fs_lt hr26, ?_⟩, hs⟩
    rw [hw]; unfold wrapG; rw [hg, hl, if_neg (by decide), if_neg (by decide)]
    exact (Fs.cn hr26)
   ·
    refine W_if_true rfl (W_region (L_move rfl rfl (L_farith rfl (op := .add) rfl rfl rfl ?_)))
    intro r24 k24 hr24
    replace hs := hs.drewN k24
    refine L_assign rfl rfl (RL_nil' (Nx_block (Nx_then (W_seq (W_region (L_move rfl rfl (L_farith rfl (op := .add) rfl rfl rfl ?_)))))))
    intro r26 k26 hr26
    replace hs := hs.drewN k26
    refine L_assign rfl rfl (RL_then (W_ret' (Ex_done1 rfl rfl ?_)))
    refine ⟨_, rfl, _, rfl, ⟨fs_lt hr26, ?_⟩, hs⟩
    rw [hw]; unfold wrapG; rw [hg, hl, if_neg (by decide), if_pos rfl]
    exact (Fs.cn hr26).trans (fop_congr ((Fs.cn hr24).trans (cn_fop ..).symm) rfl)
  ·
   refine W_if_true rfl (W_region (L_move rfl rfl (L_farith rfl (op := .sub) rfl rfl rfl ?_)))
   intro r19 k19 hr19
   replace hs := hs.drewN k19
   refine L_assign rfl rfl (RL_nil' (Nx_block (Nx_then (W_seq (W_region (L_move rfl rfl (L_farith rfl (op := .add) rfl rfl rfl ?_)))))))
   intro r26 k26 hr26
   replace hs := hs.drewN k26
   refine L_assign rfl rfl (RL_then (W_ret' (Ex_done1 rfl rfl ?_)))
   refine ⟨_, rfl, _, rfl, ⟨fs_lt hr26, ?_⟩, hs⟩
   rw [hw]; unfold wrapG; rw [hg, if_pos rfl]
   exact (Fs.cn hr26).trans (fop_congr ((Fs.cn hr19).trans (cn_fop ..).symm) rfl)
 ·
  refine L_fcmp rfl rfl rfl (fun _ => by rw [binOp_float_cmp_neq]; rfl) ?_
  refine RL_then (W_set 8 (v' := .bool true) rfl (by rw [hc]) ?_)
  refine W_if_true rfl (W_seq (W_region (L_call rfl Try.fun80 rfl (nan_ok _) ?_)))
  rintro _ w2 ⟨r, rfl, hr, hs'⟩
  replace hs := hs.nil hs'
  refine L_assign rfl rfl (RL_then (W_ret' (Ex_then_ret (Ex_done1 rfl rfl ?_))))
  refine ⟨_, rfl, _, rfl, ⟨fun h => absurd (hr.symm.trans h) (by decide), ?_⟩, hs⟩
  unfold wrapF
  rw [order_congr ((cn_fop ..).trans (Fs.cn hr7).symm) (rfl : cn 0 = _), hc, if_pos rfl]
  exact cn_nan hr
end Go.Proofs.Ytknpoemkmcdgcaa

namespace Go.Proofs.Ytknpoemkmcdgcaa
open Go Go.Lk
theorem isnan_neg (x : Nat) : isnan (Op.negFloat .f64 x) = isnan x := by
 have h : Op.negFloat .f64 x % 9223372036854775808 = x % 9223372036854775808 := by
  show (x ^^^ 2 ^ 63) % 2 ^ 63 = x % 2 ^ 63
  rw [Nat.xor_mod_two_pow, Nat.mod_self, Nat.xor_zero]
 have e : ∀ y, isnan y = !(decide (y % 9223372036854775808 ≤ 9218868437227405312)) := fun y => by
  show (Ieee.Format.read Ieee.double y).isNaN = _
  unfold Ieee.Format.read
  rw [double_sw, double_bin, double_inf]
  dsimp only
  split
  ·
   rw [decide_eq_true (by omega)]; rfl
  ·
   split
   ·
    rw [decide_eq_true (by omega)]; rfl
   ·
    split
    ·
     rw [decide_eq_true (by omega)]; rfl
    ·
     rw [decide_eq_false (by omega)]; rfl
 rw [e, e, h]
theorem neg_congr {x y : Nat} (h : cn x = cn y) : cn (Op.negFloat .f64 x) = cn (Op.negFloat .f64 y) := by
 have hn : isnan x = isnan y := by rw [← isnan_cn x, h, isnan_cn]
 cases hx : isnan x with
 | true => rw [cn_nan (by rw [isnan_neg]; exact hx), cn_nan (by rw [isnan_neg, ← hn]; exact hx)]
 | false =>
  rw [cn_num hx, cn_num (by rw [← hn]; exact hx)] at h
  rw [h]
/-- the point of the circle at a turn -/
def tqC (l s n : Bool) (p : Nat × Nat) : Nat × Nat := (fop .add (if l then Op.negFloat .f64 (if s then p.2 else p.1) else (if s then p.2 else p.1)) 0, fop .add (if n then Op.negFloat .f64 (if s then p.1 else p.2) else (if s then p.1 else p.2)) 0)
def tqA (r : Nat) (l : Bool) : Nat := if l then fop .sub 4602678819172646912 (r % 9223372036854775808) else r % 9223372036854775808
def tqB (a : Nat) (s : Bool) : Nat := if s then fop .sub 4598175219545276416 a else a
def tqL (r : Nat) : Bool := FloatKind.f64.format.order (r % 9223372036854775808) 4598175219545276416 == some .gt
def tqS (a : Nat) : Bool := FloatKind.f64.format.order a 4593671619917905920 == some .gt
def tqN (r : Nat) : Bool := FloatKind.f64.format.order r 0 == some .lt
def tqF (r : Nat) : Nat × Nat := if FloatKind.f64.format.order r r != some .eq then (r, r) else tqC (tqL r) (tqS (tqA r (tqL r))) (tqN r) (eigF (tqB (tqA r (tqL r)) (tqS (tqA r (tqL r)))))
def turnF (x : Nat) : Nat × Nat := tqF (wrapF x)
theorem turn_leaf {x r a1 a2 c d : Nat} {l s n : Bool} (hc : (FloatKind.f64.format.order r r != some .eq) = false) (hw : r = wrapF x) (hl : tqL r = l) (h1 : cn a1 = cn (tqA r l)) (hst : tqS a1 = s) (h2 : cn a2 = cn (tqB a1 s)) (hng : tqN r = n)
  (h3 : cn c = (tqC l s n (eigF a2)).1) (h4 : cn d = (tqC l s n (eigF a2)).2) : cn c = cn (turnF x).1 ∧ cn d = cn (turnF x).2 := by
 have e1 : tqS (tqA r l) = s := by rw [← hst]; unfold tqS; rw [order_congr h1 rfl]
 have e2 : eigF a2 = eigF (tqB (tqA r l) s) := eigF_congr (h2.trans (by
  unfold tqB
  split
  ·
   rw [cn_fop, cn_fop]; exact fop_congr rfl h1
  ·
   exact h1))
 have e3 : turnF x = tqC l s n (eigF a2) := by
  unfold turnF tqF
  rw [← hw, hc, if_neg (by decide), hl, e1, hng, e2]
 rw [e3]
 exact ⟨by rw [← h3, cn_cn], by rw [← h4, cn_cn]⟩
set_option maxHeartbeats 1000000 in
theorem turn_ok (x : Nat) (hx2 : x < 18446744073709551616) (w0 : World) : Ret Try.prog 50 [.float .f64 x] w0 fun v w' => ∃ re im, v = .complex .f64 re im ∧ HS w0 w' [] ∧ cn re = cn (turnF x).1 ∧ cn im = cn (turnF x).2 := by
 refine Ret.start fun w hs => ?_
 refine calls_of_W Try.func50 rfl rfl rfl (W_seq (W_region (L_assign rfl rfl (RL_then (W_seq (W_region (L_move rfl rfl (L_call rfl Try.fun67 rfl (wrap_ok x hx2 w) ?_))))))))
 rintro _ w1 ⟨r, rfl, ⟨hlt, hwr⟩, hs'⟩
 replace hs := hs.nil hs'
 clear hs'
 refine L_assign rfl rfl (RL_then (W_seq (W_seq (W_region (L_move rfl rfl (L_move rfl rfl ?_))))))
 cases hc : FloatKind.f64.format.order r r != some .eq
 ·
  have hn : isnan r = false := order_num (o := .eq) (y := r) (by simpa using hc)
  rw [cn_num hn] at hwr
  refine L_fcmp rfl rfl rfl (fun _ => by rw [binOp_float_cmp_neq]; rfl) ?_
  refine RL_then (W_set 12 (v' := .bool false) rfl (by rw [hc]) ?_)
  refine W_if_false rfl (W_skip' (Nx_then (W_seq (W_region (L_move rfl rfl (L_call rfl Try.fun26 rfl (abs_ok r (hlt hn) w1) ?_))))))
  rintro _ w1 ⟨rfl, rfl⟩
  refine L_assign rfl rfl (RL_then (W_seq (W_region (L_move rfl rfl ?_))))
  cases hl : FloatKind.f64.format.order (r % 9223372036854775808) 4598175219545276416 == some .gt
  ·
   skip
   refine L_fcmp rfl rfl rfl (fun _ => by rw [binOp_float_cmp_gtr, hl]; rfl) ?_
   refine L_assign rfl rfl (RL_then (W_seq (W_seq (W_region (L_move rfl rfl (RL_then (W_if_false rfl (W_skip' (Nx_then (W_seq (W_region (L_move rfl rfl ?_))))))))))))
   cases hst : FloatKind.f64.format.order (r % 9223372036854775808) 4593671619917905920 == some .gt
   ·
    skip
    refine L_fcmp rfl rfl rfl (fun _ => by rw [binOp_float_cmp_gtr, hst]; rfl) ?_
    refine L_assign rfl rfl (RL_then (W_seq (W_seq (W_region (L_move rfl rfl (RL_then (W_if_false rfl (W_skip' (Nx_then (W_seq (W_region (L_move rfl rfl ?_))))))))))))
    refine L_call rfl Try.fun68 rfl (eighth_ok (r % 9223372036854775808) _) ?_
    rintro _ w2 ⟨re, im, rfl, hs', hre, him⟩
    replace hs := hs.nil hs'
    clear hs'
    refine L_assign rfl rfl (RL_then (W_seq (W_seq (W_region (L_move rfl rfl (RL_then (W_if_false rfl (W_skip' (Nx_then (W_seq (W_seq (W_region ?_))))))))))))
    refine L_move rfl rfl (RL_then (W_if_false rfl (W_skip' (Nx_then (W_seq (W_seq (W_region (L_move rfl rfl ?_))))))))
    cases hng : FloatKind.f64.format.order r 0 == some .lt
    ·
     skip
     refine L_fcmp rfl rfl rfl (fun _ => by rw [binOp_float_cmp_lss, hng]; rfl) ?_
     refine RL_then (W_if_false rfl (W_skip' (Nx_then (W_seq (W_region (L_move rfl rfl (L_real rfl rfl (L_farith rfl (op := .add) rfl rfl rfl ?_))))))))
     intro r53 k53 hr53
     replace hs := hs.drewN k53
     refine L_move rfl rfl (L_imag rfl rfl (L_farith rfl (op := .add) rfl rfl rfl ?_))
     intro r56 k56 hr56
     replace hs := hs.drewN k56
     refine L_complex rfl rfl rfl (L_assign rfl rfl (RL_then (W_ret' (Ex_done1 rfl rfl ?_))))
     refine ⟨_, rfl, _, _, rfl, hs, turn_leaf (a1 := (r % 9223372036854775808)) (a2 := (r % 9223372036854775808)) hc hwr hl rfl hst rfl hng ?_ ?_⟩
     ·
      exact (Fs.cn hr53).trans (fop_congr hre rfl)
     ·
      exact (Fs.cn hr56).trans (fop_congr him rfl)
    ·
     skip
     refine L_fcmp rfl rfl rfl (fun _ => by rw [binOp_float_cmp_lss, hng]; rfl) ?_
     refine RL_then (W_if_true rfl (W_region (L_move rfl rfl (L_real rfl rfl (L_move rfl rfl (L_imag rfl rfl (L_fneg rfl rfl (L_complex rfl rfl rfl (L_assign rfl rfl (RL_then (W_seq (W_region ?_))))))))))))
     refine L_move rfl rfl (L_real rfl rfl (L_farith rfl (op := .add) rfl rfl rfl ?_))
     intro r53 k53 hr53
     replace hs := hs.drewN k53
     refine L_move rfl rfl (L_imag rfl rfl (L_farith rfl (op := .add) rfl rfl rfl ?_))
     intro r56 k56 hr56
     replace hs := hs.drewN k56
     refine L_complex rfl rfl rfl (L_assign rfl rfl (RL_then (W_ret' (Ex_done1 rfl rfl ?_))))
     refine ⟨_, rfl, _, _, rfl, hs, turn_leaf (a1 := (r % 9223372036854775808)) (a2 := (r % 9223372036854775808)) hc hwr hl rfl hst rfl hng ?_ ?_⟩
     ·
      exact (Fs.cn hr53).trans (fop_congr hre rfl)
     ·
      exact (Fs.cn hr56).trans (fop_congr (neg_congr him) rfl)
   ·
    skip
    refine L_fcmp rfl rfl rfl (fun _ => by rw [binOp_float_cmp_gtr, hst]; rfl) ?_
    refine L_assign rfl rfl (RL_then (W_seq (W_seq (W_region (L_move rfl rfl (RL_then (W_if_true rfl (W_region (L_move rfl rfl (L_farith rfl (op := .sub) rfl rfl rfl ?_))))))))))
    intro r27 k27 hr27
    replace hs := hs.drewN k27
    refine L_assign rfl rfl (RL_then (W_seq (W_region (L_move rfl rfl (L_call rfl Try.fun68 rfl (eighth_ok r27 _) ?_)))))
    rintro _ w2 ⟨re, im, rfl, hs', hre, him⟩
    replace hs := hs.nil hs'
    clear hs'
    refine L_assign rfl rfl (RL_then (W_seq (W_seq (W_region (L_move rfl rfl (RL_then (W_if_true rfl (W_region (L_move rfl rfl (L_imag rfl rfl (L_move rfl rfl (L_real rfl rfl ?_))))))))))))
    refine L_complex rfl rfl rfl (L_assign rfl rfl (RL_then (W_seq (W_seq (W_region (L_move rfl rfl (RL_then (W_if_false rfl (W_skip' (Nx_then (W_seq (W_seq ?_))))))))))))
    refine W_region (L_move rfl rfl ?_)
    cases hng : FloatKind.f64.format.order r 0 == some .lt
    ·
     skip
     refine L_fcmp rfl rfl rfl (fun _ => by rw [binOp_float_cmp_lss, hng]; rfl) ?_
     refine RL_then (W_if_false rfl (W_skip' (Nx_then (W_seq (W_region (L_move rfl rfl (L_real rfl rfl (L_farith rfl (op := .add) rfl rfl rfl ?_))))))))
     intro r53 k53 hr53
     replace hs := hs.drewN k53
     refine L_move rfl rfl (L_imag rfl rfl (L_farith rfl (op := .add) rfl rfl rfl ?_))
     intro r56 k56 hr56
     replace hs := hs.drewN k56
     refine L_complex rfl rfl rfl (L_assign rfl rfl (RL_then (W_ret' (Ex_done1 rfl rfl ?_))))
     refine ⟨_, rfl, _, _, rfl, hs, turn_leaf (a1 := (r % 9223372036854775808)) (a2 := r27) hc hwr hl rfl hst ((Fs.cn hr27).trans (cn_fop ..).symm) hng ?_ ?_⟩
     ·
      exact (Fs.cn hr53).trans (fop_congr him rfl)
     ·
      exact (Fs.cn hr56).trans (fop_congr hre rfl)
    ·
     skip
     refine L_fcmp rfl rfl rfl (fun _ => by rw [binOp_float_cmp_lss, hng]; rfl) ?_
     refine RL_then (W_if_true rfl (W_region (L_move rfl rfl (L_real rfl rfl (L_move rfl rfl (L_imag rfl rfl (L_fneg rfl rfl (L_complex rfl rfl rfl (L_assign rfl rfl (RL_then (W_seq (W_region ?_))))))))))))
     refine L_move rfl rfl (L_real rfl rfl (L_farith rfl (op := .add) rfl rfl rfl ?_))
     intro r53 k53 hr53
     replace hs := hs.drewN k53
     refine L_move rfl rfl (L_imag rfl rfl (L_farith rfl (op := .add) rfl rfl rfl ?_))
     intro r56 k56 hr56
     replace hs := hs.drewN k56
     refine L_complex rfl rfl rfl (L_assign rfl rfl (RL_then (W_ret' (Ex_done1 rfl rfl ?_))))
     refine ⟨_, rfl, _, _, rfl, hs, turn_leaf (a1 := (r % 9223372036854775808)) (a2 := r27) hc hwr hl rfl hst ((Fs.cn hr27).trans (cn_fop ..).symm) hng ?_ ?_⟩
     ·
      exact (Fs.cn hr53).trans (fop_congr him rfl)
     ·
      exact (Fs.cn hr56).trans (fop_congr (neg_congr hre) rfl)
  ·
   skip
   refine L_fcmp rfl rfl rfl (fun _ => by rw [binOp_float_cmp_gtr, hl]; rfl) ?_
   refine L_assign rfl rfl (RL_then (W_seq (W_seq (W_region (L_move rfl rfl (RL_then (W_if_true rfl (W_region (L_move rfl rfl (L_farith rfl (op := .sub) rfl rfl rfl ?_))))))))))
   intro r22 k22 hr22
   replace hs := hs.drewN k22
   refine L_assign rfl rfl (RL_then (W_seq (W_region (L_move rfl rfl ?_))))
   cases hst : FloatKind.f64.format.order r22 4593671619917905920 == some .gt
   ·
    skip
    refine L_fcmp rfl rfl rfl (fun _ => by rw [binOp_float_cmp_gtr, hst]; rfl) ?_
    refine L_assign rfl rfl (RL_then (W_seq (W_seq (W_region (L_move rfl rfl (RL_then (W_if_false rfl (W_skip' (Nx_then (W_seq (W_region (L_move rfl rfl ?_))))))))))))
    refine L_call rfl Try.fun68 rfl (eighth_ok r22 _) ?_
    rintro _ w2 ⟨re, im, rfl, hs', hre, him⟩
    replace hs := hs.nil hs'
    clear hs'
    refine L_assign rfl rfl (RL_then (W_seq (W_seq (W_region (L_move rfl rfl (RL_then (W_if_false rfl (W_skip' (Nx_then (W_seq (W_seq (W_region ?_))))))))))))
    refine L_move rfl rfl (RL_then (W_if_true rfl (W_region (L_move rfl rfl (L_real rfl rfl (L_fneg rfl rfl (L_move rfl rfl (L_imag rfl rfl (L_complex rfl rfl rfl (L_assign rfl rfl (RL_then (W_seq ?_))))))))))))
    refine W_seq (W_region (L_move rfl rfl ?_))
    cases hng : FloatKind.f64.format.order r 0 == some .lt
    ·
     skip
     refine L_fcmp rfl rfl rfl (fun _ => by rw [binOp_float_cmp_lss, hng]; rfl) ?_
     refine RL_then (W_if_false rfl (W_skip' (Nx_then (W_seq (W_region (L_move rfl rfl (L_real rfl rfl (L_farith rfl (op := .add) rfl rfl rfl ?_))))))))
     intro r53 k53 hr53
     replace hs := hs.drewN k53
     refine L_move rfl rfl (L_imag rfl rfl (L_farith rfl (op := .add) rfl rfl rfl ?_))
     intro r56 k56 hr56
     replace hs := hs.drewN k56
     refine L_complex rfl rfl rfl (L_assign rfl rfl (RL_then (W_ret' (Ex_done1 rfl rfl ?_))))
     refine ⟨_, rfl, _, _, rfl, hs, turn_leaf (a1 := r22) (a2 := r22) hc hwr hl ((Fs.cn hr22).trans (cn_fop ..).symm) hst rfl hng ?_ ?_⟩
     ·
      exact (Fs.cn hr53).trans (fop_congr (neg_congr hre) rfl)
     ·
      exact (Fs.cn hr56).trans (fop_congr him rfl)
    ·
     skip
     refine L_fcmp rfl rfl rfl (fun _ => by rw [binOp_float_cmp_lss, hng]; rfl) ?_
     refine RL_then (W_if_true rfl (W_region (L_move rfl rfl (L_real rfl rfl (L_move rfl rfl (L_imag rfl rfl (L_fneg rfl rfl (L_complex rfl rfl rfl (L_assign rfl rfl (RL_then (W_seq (W_region ?_))))))))))))
     refine L_move rfl rfl (L_real rfl rfl (L_farith rfl (op := .add) rfl rfl rfl ?_))
     intro r53 k53 hr53
     replace hs := hs.drewN k53
     refine L_move rfl rfl (L_imag rfl rfl (L_farith rfl (op := .add) rfl rfl rfl ?_))
     intro r56 k56 hr56
     replace hs := hs.drewN k56
     refine L_complex rfl rfl rfl (L_assign rfl rfl (RL_then (W_ret' (Ex_done1 rfl rfl ?_))))
     refine ⟨_, rfl, _, _, rfl, hs, turn_leaf (a1 := r22) (a2 := r22) hc hwr hl ((Fs.cn hr22).trans (cn_fop ..).symm) hst rfl hng ?_ ?_⟩
     ·
      exact (Fs.cn hr53).trans (fop_congr (neg_congr hre) rfl)
     ·
      exact (Fs.cn hr56).trans (fop_congr (neg_congr him) rfl)
   ·
    skip
    refine L_fcmp rfl rfl rfl (fun _ => by rw [binOp_float_cmp_gtr, hst]; rfl) ?_
    refine L_assign rfl rfl (RL_then (W_seq (W_seq (W_region (L_move rfl rfl (RL_then (W_if_true rfl (W_region (L_move rfl rfl (L_farith rfl (op := .sub) rfl rfl rfl ?_))))))))))
    intro r27 k27 hr27
    replace hs := hs.drewN k27
    refine L_assign rfl rfl (RL_then (W_seq (W_region (L_move rfl rfl (L_call rfl Try.fun68 rfl (eighth_ok r27 _) ?_)))))
    rintro _ w2 ⟨re, im, rfl, hs', hre, him⟩
    replace hs := hs.nil hs'
    clear hs'
    refine L_assign rfl rfl (RL_then (W_seq (W_seq (W_region (L_move rfl rfl (RL_then (W_if_true rfl (W_region (L_move rfl rfl (L_imag rfl rfl (L_move rfl rfl (L_real rfl rfl ?_))))))))))))
    refine L_complex rfl rfl rfl (L_assign rfl rfl (RL_then (W_seq (W_seq (W_region (L_move rfl rfl (RL_then (W_if_true rfl (W_region (L_move rfl rfl (L_real rfl rfl (L_fneg rfl rfl ?_))))))))))))
    refine L_move rfl rfl (L_imag rfl rfl (L_complex rfl rfl rfl (L_assign rfl rfl (RL_then (W_seq (W_seq (W_region (L_move rfl rfl ?_))))))))
    cases hng : FloatKind.f64.format.order r 0 == some .lt
    ·
     skip
     refine L_fcmp rfl rfl rfl (fun _ => by rw [binOp_float_cmp_lss, hng]; rfl) ?_
     refine RL_then (W_if_false rfl (W_skip' (Nx_then (W_seq (W_region (L_move rfl rfl (L_real rfl rfl (L_farith rfl (op := .add) rfl rfl rfl ?_))))))))
     intro r53 k53 hr53
     replace hs := hs.drewN k53
     refine L_move rfl rfl (L_imag rfl rfl (L_farith rfl (op := .add) rfl rfl rfl ?_))
     intro r56 k56 hr56
     replace hs := hs.drewN k56
     refine L_complex rfl rfl rfl (L_assign rfl rfl (RL_then (W_ret' (Ex_done1 rfl rfl ?_))))
     refine ⟨_, rfl, _, _, rfl, hs, turn_leaf (a1 := r22) (a2 := r27) hc hwr hl ((Fs.cn hr22).trans (cn_fop ..).symm) hst ((Fs.cn hr27).trans (cn_fop ..).symm) hng ?_ ?_⟩
     ·
      exact (Fs.cn hr53).trans (fop_congr (neg_congr him) rfl)
     ·
      exact (Fs.cn hr56).trans (fop_congr hre rfl)
    ·
     skip
     refine L_fcmp rfl rfl rfl (fun _ => by rw [binOp_float_cmp_lss, hng]; rfl) ?_
     refine RL_then (W_if_true rfl (W_region (L_move rfl rfl (L_real rfl rfl (L_move rfl rfl (L_imag rfl rfl (L_fneg rfl rfl (L_complex rfl rfl rfl (L_assign rfl rfl (RL_then (W_seq (W_region ?_))))))))))))
     refine L_move rfl rfl (L_real rfl rfl (L_farith rfl (op := .add) rfl rfl rfl ?_))
     intro r53 k53 hr53
     replace hs := hs.drewN k53
     refine L_move rfl rfl (L_imag rfl rfl (L_farith rfl (op := .add) rfl rfl rfl ?_))
     intro r56 k56 hr56
     replace hs := hs.drewN k56
     refine L_complex rfl rfl rfl (L_assign rfl rfl (RL_then (W_ret' (Ex_done1 rfl rfl ?_))))
     refine ⟨_, rfl, _, _, rfl, hs, turn_leaf (a1 := r22) (a2 := r27) hc hwr hl ((Fs.cn hr22).trans (cn_fop ..).symm) hst ((Fs.cn hr27).trans (cn_fop ..).symm) hng ?_ ?_⟩
     ·
      exact (Fs.cn hr53).trans (fop_congr (neg_congr him) rfl)
     ·
      exact (Fs.cn hr56).trans (fop_congr (neg_congr hre) rfl)
 ·
  refine L_fcmp rfl rfl rfl (fun _ => by rw [binOp_float_cmp_neq]; rfl) ?_
  refine RL_then (W_set 12 (v' := .bool true) rfl (by rw [hc]) ?_)
  refine W_if_true rfl (W_seq (W_region (L_move rfl rfl (L_move rfl rfl (L_complex rfl rfl rfl (L_assign rfl rfl (RL_then (W_ret' (Ex_then_ret (Ex_done1 rfl rfl ?_))))))))))
  have hc2 : (FloatKind.f64.format.order (wrapF x) (wrapF x) != some .eq) = true := by rw [← hwr, order_cn]; exact hc
  have e : turnF x = (wrapF x, wrapF x) := by unfold turnF tqF; rw [hc2, if_pos rfl]
  refine ⟨_, rfl, _, _, rfl, hs, ?_, ?_⟩
  ·
   rw [e, ← hwr, cn_cn]
  ·
   rw [e, ← hwr, cn_cn]
end Go.Proofs.Ytknpoemkmcdgcaa

namespace Go.Proofs.Ytknpoemkmcdgcaa
open Go Go.Lk
/-! ### Whether floats are finite -/
def nanB (x : Nat) : Bool := FloatKind.f64.format.order x x != some .eq
def infB (x : Nat) : Bool := FloatKind.f64.format.order (x % 9223372036854775808) 9218868437227405311 == some .gt
def finB (x : Nat) : Bool := !nanB x && !infB x
theorem isnanB_ok (x : Nat) (w : World) : Ret Try.prog 54 [.float .f64 x] w fun v w' => v = .bool (nanB x) ∧ w' = w := by
 refine calls_of_W Try.func54 rfl rfl rfl (W_seq (W_region (L_assign rfl rfl (RL_then (W_seq (W_region (L_move rfl rfl (L_move rfl rfl ?_))))))))
 refine L_fcmp rfl rfl rfl (fun _ => by rw [binOp_float_cmp_neq]; rfl) ?_
 refine L_assign rfl rfl (RL_then (W_ret' (Ex_done1 rfl rfl ?_)))
 exact ⟨_, rfl, rfl, rfl⟩
theorem isinfB_ok (x : Nat) (hx : x < 18446744073709551616) (w : World) : Ret Try.prog 55 [.float .f64 x, .int .i64 0] w fun v w' => v = .bool (infB x) ∧ w' = w := by
 refine calls_of_W Try.func55 rfl rfl rfl (W_seq (W_region (L_assign rfl rfl (RL_then (W_seq (W_seq (W_region (L_move rfl rfl (L_eql rfl rfl rfl (dtrue (by omega)) ?_)))))))))
 refine RL_then (W_if_true rfl (W_region (L_move rfl rfl (L_call rfl Try.fun26 rfl (abs_ok x hx w) ?_))))
 rintro _ w ⟨rfl, rfl⟩
 refine L_assign rfl rfl (RL_then (W_seq (W_region (L_move rfl rfl ?_))))
 refine L_fcmp rfl rfl rfl (fun _ => by rw [binOp_float_cmp_gtr]; rfl) ?_
 refine L_assign rfl rfl (RL_then (W_ret' (Ex_done1 rfl rfl ?_)))
 exact ⟨_, rfl, rfl, rfl⟩
theorem notfin_ok (x : Nat) (hx : x < 18446744073709551616) (w : World) : Ret Try.prog 53 [.float .f64 x] w fun v w' => v = .bool (!finB x) ∧ w' = w := by
 refine calls_of_W Try.func53 rfl rfl rfl (W_seq (W_region (L_assign rfl rfl (RL_then (W_seq (W_region (L_move rfl rfl (L_call rfl Try.fun54 rfl (isnanB_ok x w) ?_))))))))
 rintro _ w ⟨rfl, rfl⟩
 cases hn : nanB x
 ·
  refine L_move rfl rfl (RL_want rfl rfl (L_move rfl rfl (RL_want rfl rfl (L_call rfl Try.fun55 rfl (isinfB_ok x hx w) ?_))))
  rintro _ w ⟨rfl, rfl⟩
  refine L_pick_f rfl rfl rfl (L_assign rfl rfl (RL_then (W_ret' (Ex_done1 rfl rfl ?_))))
  exact ⟨_, rfl, by simp [finB, hn], rfl⟩
 ·
  refine L_move rfl rfl (RL_skip rfl rfl rfl rfl (RL_skip rfl rfl rfl rfl (L_pick_t rfl rfl rfl (L_assign rfl rfl (RL_then (W_ret' (Ex_done1 rfl rfl ?_)))))))
  exact ⟨_, rfl, by simp [finB, hn], rfl⟩
/-- the first that is not, or none -/
def Found (p : Nat → Prop) (k : Nat) (j : Int) : Prop := (∃ i, i < k ∧ j = (i : Int) ∧ p i ∧ ∀ q, q < i → ¬ p q) ∨ (j = -1 ∧ ∀ q, q < k → ¬ p q)
theorem index_ok (a : Option Addr) (k c : Nat) (xs : List Nat) (w0 : World) (hx : SlC w0 a (fl xs)) (hk : xs.length = k) (hk2 : k ≤ 1000000) (hlt : ∀ i, i < k → xs.getD i 0 < 18446744073709551616) :
  Ret Try.prog 70 [.slice a k c, .func (.func 53) #[] #[]] w0 fun v w' => ∃ j, v = .int .i64 j ∧ HS w0 w' [] ∧ Found (fun i => finB (xs.getD i 0) = false) k j := by
 refine Ret.start fun w hs => ?_
 refine calls_of_W Try.func70 rfl rfl rfl (W_seq (W_region (L_assign rfl rfl (RL_then (W_seq (W_seq (W_region (L_move rfl rfl (L_len rfl Try.underlying106 rfl (L_move rfl rfl (RL_then (W_block ?_))))))))))))
 refine W_loop2 (fun (i : Nat) (w : World) => [(0, .slice a k c), (1, .func (.func 53) #[] #[]), (7, .int .i64 k), (8, .int .i64 i)]) (fun (i : Nat) (w : World) => w) (fun (i : Nat) (w : World) => (i ≤ k) ∧ (∀ q, q < i → finB (xs.getD q 0) = true) ∧ (HS w0 w [])) (fun (i : Nat) (w : World) => k - i) (0) (w) (is := [0, 1, 7, 8]) rfl rfl ?_ ?_
 ·
  exact ⟨Nat.zero_le _, fun _ h => absurd h (Nat.not_lt_zero _), hs⟩
 ·
  clear hs
  intro i w hI
  show W _ _ _ _ [(0, .slice a k c), (1, .func (.func 53) #[] #[]), (7, .int .i64 k), (8, .int .i64 i)] w
  obtain ⟨hi, hq, hs⟩ := hI
  by_cases hlt2 : i < k
  ·
   refine W_seq (W_region (L_lss rfl rfl rfl (dtrue (by omega)) ?_))
   refine RL_then (W_seq (W_if_true rfl (W_skip' (Nx_then (W_seq (W_block (W_seq (W_region (L_move rfl rfl (L_assign rfl rfl (RL_then (W_seq ?_))))))))))))
   refine W_region (L_move rfl rfl (L_move rfl rfl (L_move rfl rfl ?_)))
   refine L_idx1 rfl Try.underlying106 Try.ti22 rfl rfl (natc_k _) (by omega) (hx.ao (by rw [fl_length]; omega)) ?_
   refine L_load rfl Try.one22 rfl (by exact (hx.old hs Own.nil).get (fl_get (by omega))) ?_
   refine L_callV rfl Try.fun53 rfl rfl (notfin_ok (xs.getD i 0) (hlt i hlt2) w) ?_
   rintro _ w' ⟨rfl, rfl⟩
   cases hf : finB (xs.getD i 0)
   ·
    refine RL_then (W_if_true rfl (W_seq (W_region (L_move rfl rfl (L_assign rfl rfl (RL_then (W_ret' (Ex_block_ret (Ex_then_ret (Ex_loop_ret (Ex_block_ret (Ex_then_ret ?_))))))))))))
    refine Ex_done1 rfl rfl ?_
    exact ⟨_, rfl, _, rfl, hs, .inl ⟨i, hlt2, rfl, hf, fun q hqi h => by have h := h.symm.trans (hq q hqi); cases h⟩⟩
   ·
    refine RL_then (W_if_false rfl (W_skip' (Nx_block (Nx_then (W_region (L_add rfl rfl rfl (wrp_i64 (by omega)) ?_))))))
    refine L_move rfl rfl (RL_nil' ?_)
    refine Nx_loopP (i + 1, _) (is := [0, 1, 7, 8]) (I' := (fun (i : Nat) (w : World) => (i ≤ k) ∧ (∀ q, q < i → finB (xs.getD q 0) = true) ∧ (HS w0 w [])) (i + 1) (_)) rfl rfl rfl ?_ ?_
    ·
     refine ⟨by omega, fun q hq2 => ?_, hs⟩
     by_cases hqi : q = i
     ·
      rw [hqi]; exact hf
     ·
      exact hq q (by omega)
    ·
     omega
  ·
   obtain rfl : k = i := by omega
   refine W_seq (W_region (L_lss rfl rfl rfl (dfalse (by omega)) ?_))
   refine RL_then (W_seq (W_if_false rfl (W_exit' (Ex_then_exit (Ex_loop_exit (Ex_block_hit (Nx_then (W_seq (W_region (L_assign rfl rfl (RL_then (W_ret' ?_))))))))))))
   refine Ex_done1 rfl rfl ?_
   exact ⟨_, rfl, _, rfl, hs, .inr ⟨rfl, fun q hq2 h => by have h := h.symm.trans (hq q hq2); cases h⟩⟩
theorem contains_ok (a : Option Addr) (k c : Nat) (xs : List Nat) (w0 : World) (hx : SlC w0 a (fl xs)) (hk : xs.length = k) (hk2 : k ≤ 1000000) (hlt : ∀ i, i < k → xs.getD i 0 < 18446744073709551616) :
  Ret Try.prog 52 [.slice a k c, .func (.func 53) #[] #[]] w0 fun v w' => ∃ b, v = .bool b ∧ HS w0 w' [] ∧ (b = true ↔ ∃ i, i < k ∧ finB (xs.getD i 0) = false) := by
 refine Ret.start fun w hs => ?_
 refine calls_of_W Try.func52 rfl rfl rfl (W_seq (W_region (L_assign rfl rfl (RL_then (W_seq (W_region (L_move rfl rfl (L_move rfl rfl (L_call rfl Try.fun70 rfl (index_ok a k c xs w (hx.old hs Own.nil) hk hk2 hlt) ?_)))))))))
 rintro _ w1 ⟨j, rfl, hs', hF⟩
 replace hs := hs.nil hs'
 rcases hF with ⟨i, hi, rfl, hp, _⟩ | ⟨rfl, hn⟩
 ·
  refine L_geq rfl rfl rfl (dtrue (by omega)) ?_
  refine L_assign rfl rfl (RL_then (W_ret' (Ex_done1 rfl rfl ?_)))
  exact ⟨_, rfl, _, rfl, hs, ⟨fun _ => ⟨i, hi, hp⟩, fun _ => rfl⟩⟩
 ·
  refine L_geq rfl rfl rfl (dfalse (by omega)) ?_
  refine L_assign rfl rfl (RL_then (W_ret' (Ex_done1 rfl rfl ?_)))
  exact ⟨_, rfl, _, rfl, hs, ⟨fun h => by simp at h, fun ⟨i, hi, h⟩ => absurd h (hn i hi)⟩⟩
theorem finite_ok (a : Option Addr) (k c : Nat) (xs : List Nat) (w0 : World) (hx : SlC w0 a (fl xs)) (hk : xs.length = k) (hk2 : k ≤ 1000000) (hlt : ∀ i, i < k → xs.getD i 0 < 18446744073709551616) :
  Ret Try.prog 30 [.slice a k c] w0 fun v w' => v = .bool (xs.all finB) ∧ HS w0 w' [] := by
 refine Ret.start fun w hs => ?_
 refine calls_of_W Try.func30 rfl rfl rfl (W_seq (W_region (L_assign rfl rfl (RL_then (W_seq (W_region (L_move rfl rfl (L_call rfl Try.fun52 rfl (contains_ok a k c xs w (hx.old hs Own.nil) hk hk2 hlt) ?_))))))))
 rintro _ w1 ⟨b, rfl, hs', hb⟩
 replace hs := hs.nil hs'
 refine L_not rfl rfl (L_assign rfl rfl (RL_then (W_ret' (Ex_done1 rfl rfl ?_))))
 refine ⟨_, rfl, ?_, hs⟩
 congr 1
 rw [Bool.eq_iff_iff, List.all_eq_true]
 rw [Bool.not_eq_true', ← Bool.not_eq_true, hb]
 constructor
 ·
  intro h x hx'
  obtain ⟨i, hi, rfl⟩ := List.getElem_of_mem hx'
  have : finB (xs.getD i 0) = true := by
   cases hf : finB (xs.getD i 0) with
   | true => rfl
   | false => exact absurd ⟨i, by omega, hf⟩ h
  rw [List.getD_eq_getElem?_getD, List.getElem?_eq_getElem hi] at this
  exact this
 ·
  rintro h ⟨i, hi, hf⟩
  have := h (xs.getD i 0) (by rw [List.getD_eq_getElem?_getD, List.getElem?_eq_getElem (by omega)]; exact List.getElem_mem _)
  rw [this] at hf; cases hf
end Go.Proofs.Ytknpoemkmcdgcaa

namespace Go.Proofs.Ytknpoemkmcdgcaa
open Go Go.Lk
theorem new_ok (far : Nat) (w0 : World) (hlt : far < 18446744073709551616) (hf : finB far = true) (h1 : (FloatKind.f64.format.order far 4156822456062967808 == some .lt) = false) (h2 : (FloatKind.f64.format.order far 5057542381537067008 == some .gt) = false) :
  Ret Try.prog 12 [.float .f64 far] w0 fun v w' => ∃ B, v = .tuple #[.pointer (some ⟨B, 0, none⟩), .int .i64 0] ∧ HS w0 w' [(B, Row 76 [.float .f64 far, .slice none 0 0])] ∧ w0.heap.size ≤ B := by
 refine Ret.start fun w hs => ?_
 refine calls_of_W Try.func12 rfl rfl rfl (W_seq (W_region (L_assign rfl rfl (L_assign rfl rfl (RL_then (W_seq (W_block (W_seq (W_region (L_move rfl rfl (L_buildSlice1 rfl hs Try.underlying106 Try.ti22 rfl (by decide) rfl rfl ?_)))))))))))
 intro b6 w hb6 hnb6 hs
 simp only [List.map_cons, List.map_nil] at hs
 dsimp only [List.set_cons_succ, List.set_cons_zero, List.cons_append, List.nil_append] at hs
 have hx : SlC w (some ⟨b6, 0, none⟩) (fl [far]) := SlC.of_row (sp := []) (hs.get (i := 0) rfl)
 replace hs := hs.forget (Own.cons hb6 Own.nil)
 refine L_call rfl Try.fun30 rfl (finite_ok (some ⟨b6, 0, none⟩) 1 1 [far] w hx rfl (by decide) (fun i hi => by match i, hi with | 0, _ => exact hlt)) ?_
 rw [show [far].all finB = true by simp [hf]]
 rintro _ w1 ⟨rfl, hs'⟩
 replace hs := hs.nil hs'
 clear hx hs'
 refine L_not rfl rfl (L_assign rfl rfl (RL_then (W_if_false rfl (W_seq (W_region (L_move rfl rfl ?_))))))
 refine L_fcmp rfl rfl rfl (fun _ => by rw [binOp_float_cmp_lss, h1]; rfl) ?_
 refine L_move rfl rfl (RL_want rfl rfl (L_move rfl rfl (RL_want rfl rfl ?_)))
 refine L_fcmp rfl rfl rfl (fun _ => by rw [binOp_float_cmp_gtr, h2]; rfl) ?_
 refine L_pick_f rfl rfl rfl (L_assign rfl rfl (RL_then (W_if_false rfl (W_skip' (Nx_block (Nx_then (W_seq (W_region (L_move rfl rfl (L_build rfl rfl (Pl.builtN Try.pl76 rfl) (L_box rfl hs rfl ?_)))))))))))
 intro b18 w hb18 hnb18 hs
 dsimp only [List.set_cons_succ, List.set_cons_zero, List.cons_append, List.nil_append] at hs
 refine L_assign rfl rfl (L_assign rfl rfl (RL_then (W_ret' (Ex_done2 rfl rfl rfl ?_))))
 exact ⟨_, rfl, b18, rfl, hs, hb18⟩
theorem HS.ins2 {w0 w : World} {q p : Nat × Obj} {L : Bks} (h : HS w0 w ((q :: L) ++ [p])) : HS w0 w (q :: p :: L) := h.mem_perm (List.Perm.cons _ (List.perm_append_comm (l₂ := [_])))
/-- a net's memory: its radars -/
theorem add_ok (w0 w : World) (B far k : Nat) (v : Value) (xs : List Value) (M R : Bks) (x y t : Nat) (hs : HS w0 w (((B, Row 76 [.float .f64 far, v]) :: R) ++ M)) (hb : Bl w0 84 4 v k xs M) (hk : k < 16)
  (hx : x < 18446744073709551616) (hy : y < 18446744073709551616) (ht : t < 18446744073709551616) (hf : [x, y, t].all finB = true) :
  Ret Try.prog 20 [.pointer (some ⟨B, 0, none⟩), .agg #[.float .f64 x, .float .f64 y, .float .f64 t]] w fun r w' => ∃ v' M', r = .tuple #[.int .i64 k, .int .i64 0] ∧ HS w0 w' (((B, Row 76 [.float .f64 far, v']) :: R) ++ M') ∧ Bl w0 84 4 v' (k + 1) (xs ++ [.float .f64 x, .float .f64 y, .float .f64 t, .slice none 0 0]) M' := by
 obtain ⟨ao, c, rfl, hkc⟩ := hb.slice
 refine calls_of_W Try.func20 rfl rfl rfl (W_seq (W_region (L_box rfl hs rfl ?_)))
 intro b3 w hb3 hnb3 hs
 dsimp only [List.set_cons_succ, List.set_cons_zero, List.cons_append, List.nil_append] at hs
 refine L_assign rfl rfl (L_assign rfl rfl (RL_then (W_seq (W_block (W_seq (W_region ?_))))))
 replace hs : HS w0 w ((B, Row 76 [.float .f64 far, .slice ao k c]) :: (b3, Row 37 [.float .f64 x, .float .f64 y, .float .f64 t]) :: (R ++ M)) := HS.ins2 (L := R ++ M) hs
 refine L_move rfl rfl (L_ptrNil rfl Try.underlying26 rfl rfl (L_assign rfl rfl (RL_then (W_if_false rfl (W_seq (W_region (L_move rfl rfl (L_nilCheck rfl rfl (L_fieldAddr rfl (off := 1) Try.underlying76 rfl rfl Try.ti74 rfl (L_load rfl Try.one74 rfl (by exact hs.cell (i := 0) rfl rfl) ?_))))))))))
 refine L_len rfl Try.underlying74 rfl (L_geq rfl rfl rfl (dfalse (by omega)) ?_)
 refine L_assign rfl rfl (RL_then (W_if_false rfl (W_seq (W_region (L_fieldAddr rfl (off := 0) Try.underlying37 rfl rfl Try.ti35 rfl (L_fieldAddr rfl (off := 0) Try.underlying35 rfl rfl Try.ti22 rfl (L_load rfl Try.one22 rfl (by exact hs.cell (i := 1) rfl rfl) ?_)))))))
 refine L_fieldAddr rfl (off := 0) Try.underlying37 rfl rfl Try.ti35 rfl (L_fieldAddr rfl (off := 1) Try.underlying35 rfl rfl Try.ti22 rfl (L_load rfl Try.one22 rfl (by exact hs.cell (i := 1) rfl rfl) ?_))
 refine L_fieldAddr rfl (off := 2) Try.underlying37 rfl rfl Try.ti22 rfl (L_load rfl Try.one22 rfl (by exact hs.cell (i := 1) rfl rfl) ?_)
 refine L_buildSlice1 rfl hs Try.underlying106 Try.ti22 rfl (by decide) rfl rfl ?_
 intro b25 w hb25 hnb25 hs
 simp only [List.map_cons, List.map_nil] at hs
 dsimp only [List.set_cons_succ, List.set_cons_zero, List.cons_append, List.nil_append] at hs
 replace hs : HS w0 w (((B, Row 76 [.float .f64 far, .slice ao k c]) :: (b3, Row 37 [.float .f64 x, .float .f64 y, .float .f64 t]) :: (R ++ M)) ++ [(b25, Row 22 (fl [x, y, t]))]) := hs
 have hx' : SlC w (some ⟨b25, 0, none⟩) (fl [x, y, t]) := SlC.of_row (sp := []) (hs.has _ (List.mem_append_right _ (List.mem_cons_self ..)))
 replace hs := hs.dropR (Own.cons hb25 Own.nil)
 refine L_call rfl Try.fun30 rfl (finite_ok (some ⟨b25, 0, none⟩) 3 3 [x, y, t] w hx' rfl (by decide) (fun i hi => by match i, hi with | 0, _ => exact hx | 1, _ => exact hy | 2, _ => exact ht)) ?_
 rw [hf]
 rintro _ w1 ⟨rfl, hs'⟩
 replace hs := hs.nil hs'
 clear hx' hs'
 refine L_not rfl rfl (L_assign rfl rfl (RL_then (W_if_false rfl (W_skip' (Nx_block (Nx_then (W_seq (W_sg Try.mixed ?_))))))))
 replace hs := hs.drewN 1
 refine SG_stageB [0, 1, 2, 3] [4, 5, 6, 7] [8, 9, 10, 11] (noBk (fun _ _ _ => False)) (g' := 0) (by kernel_rfl) (by kernel_rfl) (fun _ _ _ _ _ h => h) hs ?_
 refine PL_val rfl (fun w => R_move rfl) ?_
 refine PL_val rfl (fun w => R_move rfl) ?_
 refine PL_val rfl (fun w => R_nilCheck rfl) ?_
 refine PL_val rfl (fun w => R_fieldAddr (off := 1) Try.underlying76 rfl rfl Try.ti74 rfl) ?_
 refine PL_endB ?_
 refine HB_val rfl (fun w R hR hs => R_load Try.one74 rfl (by exact hs.cell (i := 0) rfl rfl)) ?_
 refine HB_val rfl (fun w R hR hs => R_loadA Try.agg37 Try.ti37 rfl (by exact cellsAt_whole (hs.get (i := 1) rfl))) ?_
 refine HB_val rfl (fun w R hR hs => R_build rfl (Pl.builtN Try.pl84 rfl)) ?_
 refine HB_buildSlice rfl Try.underlying74 Try.ti84 rfl (by decide) rfl (by simp [Value.cells]) ?_
 intro b35 hb35
 refine HB_tail ?_
 intro w hs
 replace hs : HS w0 w (((B, Row 76 [.float .f64 far, .slice ao k c]) :: (b3, Row 37 [.float .f64 x, .float .f64 y, .float .f64 t]) :: (R ++ M)) ++ [(b35, Row 84 [.float .f64 x, .float .f64 y, .float .f64 t, .slice none 0 0])]) := hs
 replace hs : HS w0 w (((((B, Row 76 [.float .f64 far, .slice ao k c]) :: (b3, Row 37 [.float .f64 x, .float .f64 y, .float .f64 t]) :: R) ++ M)) ++ [(b35, Row 84 [.float .f64 x, .float .f64 y, .float .f64 t, .slice none 0 0])]) := by
  rw [List.append_assoc]; simpa using hs
 refine L_appendT (L := (B, Row 76 [.float .f64 far, .slice ao k c]) :: (b3, Row 37 [.float .f64 x, .float .f64 y, .float .f64 t]) :: R) rfl Try.underlying74 Try.ti84 rfl hs hb35 hb rfl rfl rfl (by simp [Value.oneCell']) (by omega) (by omega) ?_
 intro v' w M' hs hb'
 obtain ⟨ao', c', rfl, hkc'⟩ := hb'.slice
 refine L_nilCheck rfl rfl (L_fieldAddr rfl (off := 1) Try.underlying76 rfl rfl Try.ti74 rfl (L_store hs (i := 0) rfl Try.ti74 rfl rfl (by rfl) (by simp) rfl ?_))
 intro w hs
 dsimp only [List.set_cons_succ, List.set_cons_zero, List.cons_append, List.nil_append] at hs
 refine RL_sg (SG_end (by kernel_rfl) ?_)
 refine Nx_then (W_seq (W_region (L_move rfl rfl (L_nilCheck rfl rfl (L_fieldAddr rfl (off := 1) Try.underlying76 rfl rfl Try.ti74 rfl (L_load rfl Try.one74 rfl (by exact hs.cell (i := 0) rfl rfl) ?_))))))
 refine L_len rfl Try.underlying74 rfl (L_sub rfl rfl rfl (wrp_i64 (by omega)) ?_)
 refine L_assign rfl rfl (L_assign rfl rfl (RL_then (W_ret' (Ex_done2 rfl rfl rfl ?_))))
 refine ⟨_, rfl, _, M', ?_, ?_, hb'⟩
 ·
  show Value.tuple #[.int .i64 (((k + 1 : Nat) : Int) - 1), .int .i64 0] = _
  rw [show (((k + 1 : Nat) : Int) - 1) = (k : Int) by omega]
 ·
  replace hs : HS w0 w (((B, Row 76 [.float .f64 far, .slice ao' (k + 1) c']) :: (b3, Row 37 [.float .f64 x, .float .f64 y, .float .f64 t]) :: R) ++ M') := hs
  exact hs.sub (fun p hp => by simp at hp ⊢; rcases hp with h | h | h <;> simp [h]) (by
   have := hs.nodup
   simp only [List.map_append, List.map_cons, List.cons_append, List.nodup_cons, List.mem_cons, List.mem_append, not_or] at this ⊢
   exact ⟨this.1.2, this.2.2⟩) (fun p hp => by
   simp only [List.cons_append, List.mem_cons, List.mem_append] at hp ⊢
   rcases hp with h | h | h | h
   ·
    exact .inl (.inl h)
   ·
    exact .inr (by rw [h]; exact hb3)
   ·
    exact .inl (.inr (.inl h))
   ·
    exact .inl (.inr (.inr h)))
end Go.Proofs.Ytknpoemkmcdgcaa

namespace Go.Proofs.Ytknpoemkmcdgcaa
open Go Go.Lk
/-! ### Tracks -/
structure Tk where
 id : Int
 kind : Int
 xx : Nat
 xv : Nat
 xp : Nat
 xq : Nat
 xr : Nat
 yx : Nat
 yv : Nat
 yp : Nat
 yq : Nat
 yr : Nat
 seen : Int
 steps : Int
 last : Nat
def Tk.cells (t : Tk) : List Value := [.int .i64 t.id, .int .i8 t.kind, .float .f64 t.xx, .float .f64 t.xv, .float .f64 t.xp, .float .f64 t.xq, .float .f64 t.xr, .float .f64 t.yx, .float .f64 t.yv, .float .f64 t.yp, .float .f64 t.yq, .float .f64 t.yr, .int .u16 t.seen, .int .i64 t.steps, .float .f64 t.last]
def tk0 : Tk := ⟨0, 0, 0, 0, 0, 0, 0, 0, 0, 0, 0, 0, 0, 0, 0⟩
def tcs (ts : List Tk) : List Value := ts.flatMap Tk.cells
theorem tcs_len (ts : List Tk) : (tcs ts).length = ts.length * 15 := by
 induction ts with
 | nil => rfl
 | cons t ts ih =>
  show (t.cells ++ tcs ts).length = _
  rw [List.length_append, ih, List.length_cons]
  show 15 + _ = _
  omega
theorem tcs_get : ∀ {ts : List Tk} {i q : Nat} {v : Value}, i < ts.length → (ts.getD i tk0).cells[q]? = some v → (tcs ts)[i * 15 + q]? = some v
 | t :: ts, 0, q, v, _, h => by
  show (t.cells ++ tcs ts)[0 * 15 + q]? = some v
  rw [Nat.zero_mul, Nat.zero_add]
  have hq : q < t.cells.length := (List.getElem?_eq_some_iff.1 h).1
  rw [List.getElem?_append_left hq]; exact h
 | t :: ts, i + 1, q, v, hi, h => by
  show (t.cells ++ tcs ts)[(i + 1) * 15 + q]? = some v
  have hl : t.cells.length = 15 := rfl
  rw [List.getElem?_append_right (by omega), show (i + 1) * 15 + q - t.cells.length = i * 15 + q by omega]
  exact tcs_get (by simpa using hi) h
theorem tcs_one (ts : List Tk) : ∀ u ∈ tcs ts, u.oneCell' = true := by
 intro u hu
 obtain ⟨t, _, hu⟩ := List.mem_flatMap.1 hu
 unfold Tk.cells at hu
 simp only [List.mem_cons, List.not_mem_nil, or_false] at hu
 rcases hu with rfl | rfl | rfl | rfl | rfl | rfl | rfl | rfl | rfl | rfl | rfl | rfl | rfl | rfl | rfl <;> rfl
theorem tk_at {w : World} {a : Option Addr} {ts : List Tk} (h : SlC w a (tcs ts)) {i : Nat} (hi : i < ts.length) : CellsAt w ((aD a).add (i * 15)) (ts.getD i tk0).cells := h.sub fun _ _ hv => tcs_get hi hv
theorem notfirm_ok (t : Tk) (w0 : World) : Ret Try.prog 41 [.agg t.cells.toArray] w0 fun v w' => v = .bool (!decide (t.kind = 1)) ∧ HS w0 w' [] := by
 refine Ret.start fun w hs => ?_
 refine calls_of_W Try.func41 rfl rfl rfl (W_seq (W_region (L_box rfl hs rfl ?_)))
 intro b1 w hb1 hnb1 hs
 dsimp only [List.set_cons_succ, List.set_cons_zero, List.cons_append, List.nil_append] at hs
 refine L_assign rfl rfl (RL_then (W_seq (W_region ?_)))
 replace hs : HS w0 w [(b1, Row 48 t.cells)] := hs
 refine L_fieldAddr rfl (off := 1) Try.underlying48 rfl rfl Try.ti43 rfl (L_load rfl Try.one43 rfl (by exact hs.cell (i := 0) rfl rfl) ?_)
 refine L_neq rfl rfl rfl rfl (L_assign rfl rfl (RL_then (W_ret' (Ex_done1 rfl rfl ?_))))
 refine ⟨_, rfl, ?_, hs.forget (Own.cons hb1 Own.nil)⟩
 congr 1
 by_cases h : t.kind = 1 <;> simp [h]
theorem clone_ok (a : Option Addr) (k c : Nat) (ts : List Tk) (w0 : World) (hx : SlC w0 a (tcs ts)) (hk : ts.length = k) (hk2 : k ≤ 1000000) :
  Ret Try.prog 40 [.slice a k c] w0 fun v w' => ∃ M, HS w0 w' M ∧ Bl w0 48 15 v k (tcs ts) M := by
 refine Ret.start fun w hs => ?_
 refine calls_of_W Try.func40 rfl rfl rfl (W_seq (W_region (L_assign rfl rfl (RL_then (W_seq (W_seq (W_region (L_move rfl rfl (RL_val rfl (R_sliceNil Try.underlying38 rfl rfl) (RL_then ?_))))))))))
 cases a with
 | none =>
  have hk0 : k = 0 := by
   apply Classical.byContradiction
   intro h
   have := hx.1 (by rw [tcs_len]; omega)
   cases this
  subst hk0
  obtain rfl : ts = [] := List.eq_nil_of_length_eq_zero hk
  ·
   refine W_if_true rfl (W_seq (W_region (L_assign rfl rfl (RL_then (W_ret' (Ex_then_ret (Ex_done1 rfl rfl ?_)))))))
   exact ⟨_, rfl, [], hs, Bl.nil⟩
 | some ad =>
  ·
   refine W_if_false rfl (W_skip' (Nx_then (W_seq (W_region (L_buildSlice rfl hs Try.underlying38 Try.ti48 rfl (by decide) rfl (by simp [Value.cells]) ?_)))))
   intro b5 w hb5 hnb5 hs
   simp only [List.flatMap_cons, List.flatMap_nil, cells_int, cells_float, cells_complex, cells_bool, cells_string, cells_pointer, cells_slice, cells_map, cells_agg, List.append_nil, List.set_cons_succ, List.set_cons_zero, List.cons_append, List.nil_append] at hs
   refine L_move rfl rfl ?_
   replace hs : HS w0 w ([] ++ [(b5, Row 48 ([] ++ []))]) := hs
   have hb : Bl w0 48 15 (.slice (some ⟨b5, 0, none⟩) 0 0) 0 [] [(b5, Row 48 ([] ++ []))] := Bl.row hb5 rfl rfl (Nat.le_refl _)
   refine L_appendS (L := []) rfl Try.underlying38 Try.ti48 rfl (by decide) hs hb rfl rfl (by rw [tcs_len, hk]) (hx.old hs hb.own) (tcs_one ts) (by omega) (by omega) ?_
   intro v' w M' hs hb'
   rw [Nat.zero_add, List.nil_append] at hb'
   refine L_assign rfl rfl (RL_then (W_ret' (Ex_done1 rfl rfl ?_)))
   exact ⟨_, rfl, M', hs, hb'⟩
end Go.Proofs.Ytknpoemkmcdgcaa

namespace Go.Proofs.Ytknpoemkmcdgcaa
open Go Go.Lk
theorem tindex_ok (a : Option Addr) (k c : Nat) (ts : List Tk) (w0 : World) (hx : SlC w0 a (tcs ts)) (hk : ts.length = k) (hk2 : k ≤ 1000000) :
  Ret Try.prog 60 [.slice a k c, .func (.func 41) #[] #[]] w0 fun v w' => ∃ j, v = .int .i64 j ∧ HS w0 w' [] ∧ Found (fun i => (ts.getD i tk0).kind ≠ 1) k j := by
 refine Ret.start fun w hs => ?_
 refine calls_of_W Try.func60 rfl rfl rfl (W_seq (W_region (L_assign rfl rfl (RL_then (W_seq (W_seq (W_region (L_move rfl rfl (L_len rfl Try.underlying38 rfl (L_move rfl rfl (RL_then (W_block ?_))))))))))))
 refine W_loop2 (fun (i : Nat) (w : World) => [(0, .slice a k c), (1, .func (.func 41) #[] #[]), (7, .int .i64 k), (8, .int .i64 i)]) (fun (i : Nat) (w : World) => w) (fun (i : Nat) (w : World) => (i ≤ k) ∧ (∀ q, q < i → (ts.getD q tk0).kind = 1) ∧ (HS w0 w [])) (fun (i : Nat) (w : World) => k - i) (0) (w) (is := [0, 1, 7, 8]) rfl rfl ?_ ?_
 ·
  exact ⟨Nat.zero_le _, fun _ h => absurd h (Nat.not_lt_zero _), hs⟩
 ·
  clear hs
  intro i w hI
  show W _ _ _ _ [(0, .slice a k c), (1, .func (.func 41) #[] #[]), (7, .int .i64 k), (8, .int .i64 i)] w
  obtain ⟨hi, hq, hs⟩ := hI
  by_cases hlt2 : i < k
  ·
   refine W_seq (W_region (L_lss rfl rfl rfl (dtrue (by omega)) ?_))
   refine RL_then (W_seq (W_if_true rfl (W_skip' (Nx_then (W_seq (W_block (W_seq (W_region (L_move rfl rfl (L_assign rfl rfl (RL_then (W_seq ?_))))))))))))
   refine W_region (L_move rfl rfl (L_move rfl rfl (L_move rfl rfl ?_)))
   refine L_idxN rfl Try.underlying38 Try.ti48 rfl rfl (natc_k _) (by omega) (hx.ao (by rw [tcs_len]; omega)) ?_
   refine L_loadA rfl Try.agg48 Try.ti48 rfl (by exact tk_at (hx.old hs Own.nil) (by omega)) ?_
   refine L_callV rfl Try.fun41 rfl rfl (notfirm_ok (ts.getD i tk0) w) ?_
   rintro _ w' ⟨rfl, hs'⟩
   replace hs := hs.nil hs'
   clear hs'
   by_cases hf : (ts.getD i tk0).kind = 1
   ·
    rw [decide_eq_true hf]
    refine RL_then (W_if_false rfl (W_skip' (Nx_block (Nx_then (W_region (L_add rfl rfl rfl (wrp_i64 (by omega)) ?_))))))
    refine L_move rfl rfl (RL_nil' ?_)
    refine Nx_loopP (i + 1, _) (is := [0, 1, 7, 8]) (I' := (fun (i : Nat) (w : World) => (i ≤ k) ∧ (∀ q, q < i → (ts.getD q tk0).kind = 1) ∧ (HS w0 w [])) (i + 1) (_)) rfl rfl rfl ?_ ?_
    ·
     refine ⟨by omega, fun q hq2 => ?_, hs⟩
     by_cases hqi : q = i
     ·
      rw [hqi]; exact hf
     ·
      exact hq q (by omega)
    ·
     omega
   ·
    rw [decide_eq_false hf]
    refine RL_then (W_if_true rfl (W_seq (W_region (L_move rfl rfl (L_assign rfl rfl (RL_then (W_ret' (Ex_block_ret (Ex_then_ret (Ex_loop_ret (Ex_block_ret (Ex_then_ret ?_))))))))))))
    refine Ex_done1 rfl rfl ?_
    exact ⟨_, rfl, _, rfl, hs, .inl ⟨i, hlt2, rfl, hf, fun q hqi h => h (hq q hqi)⟩⟩
  ·
   obtain rfl : k = i := by omega
   refine W_seq (W_region (L_lss rfl rfl rfl (dfalse (by omega)) ?_))
   refine RL_then (W_seq (W_if_false rfl (W_exit' (Ex_then_exit (Ex_loop_exit (Ex_block_hit (Nx_then (W_seq (W_region (L_assign rfl rfl (RL_then (W_ret' ?_))))))))))))
   refine Ex_done1 rfl rfl ?_
   exact ⟨_, rfl, _, rfl, hs, .inr ⟨rfl, fun q hq2 h => h (hq q hq2)⟩⟩
theorem delete_firm (a : Option Addr) (k c : Nat) (ts : List Tk) (w0 : World) (hx : SlC w0 a (tcs ts)) (hk : ts.length = k) (hk2 : k ≤ 1000000) (hf : ∀ i, i < k → (ts.getD i tk0).kind = 1) :
  Ret Try.prog 39 [.slice a k c, .func (.func 41) #[] #[]] w0 fun v w' => v = .slice a k c ∧ HS w0 w' [] := by
 refine Ret.start fun w hs => ?_
 refine calls_of_W Try.func39 rfl rfl rfl (W_seq (W_region (L_assign rfl rfl (RL_then (W_seq (W_region (L_move rfl rfl (L_move rfl rfl (L_call rfl Try.fun60 rfl (tindex_ok a k c ts w (hx.old hs Own.nil) hk hk2) ?_)))))))))
 rintro _ w1 ⟨j, rfl, hs', hF⟩
 replace hs := hs.nil hs'
 clear hs'
 obtain ⟨i, hi, _, hp, _⟩ | ⟨rfl, hn⟩ := hF
 ·
  exact absurd (hf i hi) hp
 ·
  refine L_assign rfl rfl (RL_then (W_seq (W_seq (W_region (L_move rfl rfl (L_eql rfl rfl rfl (dtrue (by omega)) ?_))))))
  refine RL_then (W_if_true rfl (W_seq (W_region (L_move rfl rfl (L_assign rfl rfl (RL_then (W_ret' (Ex_then_ret (Ex_done1 rfl rfl ?_)))))))))
  exact ⟨_, rfl, rfl, hs⟩
end Go.Proofs.Ytknpoemkmcdgcaa
