/-
  A part of the proof: what functions that the statement reaches do, or a plain law on what they do. Each theorem holds under its own premises alone.
-/
import Derived.Test.YtdllakfojligjaaTCB1
import Derived.Test.YtdllakfojligjaaKit
import Derived.Test.YtdllakfojligjaaKitY
namespace Go.Proofs.Ytdllakfojligjaa
open Go Go.Lk
theorem fl_set1 (xs : List Nat) (j v : Nat) : (fl xs).set j (.float .f64 v) = fl (xs.set j v) := by simp [fl, List.map_set]
theorem and1 : ∀ k : Nat, k < 9 → bits .and .i64 (k : Int) 1 = ((k % 2 : Nat) : Int) := by decide +kernel
def sgF (k : Nat) : Nat := FloatKind.f64.nearest (1 - 2 * ((k % 2 : Nat) : Int))
theorem sign_ok (k : Nat) (hk : k < 9) (w : World) : Ret Try.prog 88 [.int .i64 k] w fun v w' => v = .float .f64 (sgF k) ∧ w' = w := by
 have h := and1 k hk
 refine calls_of_W Try.func88 rfl rfl rfl ?_
 refine W_seq ?_
 refine W_region ?_
 refine L_assign rfl rfl ?_
 refine RL_then ?_
 refine W_seq ?_
 refine W_region ?_
 refine L_move rfl rfl ?_
 refine RL_val rfl (R_ibits (by simp) rfl rfl h) ?_
 first | refine L_mul rfl rfl rfl (wrp_i64 (by omega)) ?_ | refine L_mul rfl rfl rfl rfl ?_
 first | refine L_sub rfl rfl rfl (wrp_i64 (by omega)) ?_ | refine L_sub rfl rfl rfl rfl ?_
 refine L_itof rfl Try.underlying3 Try.underlying23 rfl ?_
 refine L_assign rfl rfl ?_
 refine RL_then ?_
 refine W_ret' ?_
 refine Ex_done1 rfl rfl ?_
 exact ⟨_, rfl, rfl, rfl⟩
/-- products of the first numbers, and what the series hold -/
def facF : Nat → Nat
 | 0 => 4607182418800017408
 | i + 1 => fop .mul (facF i) (FloatKind.f64.nearest ((i + 1 : Nat) : Int))
def powS (odd : Nat) : Nat → List Nat
 | 0 => List.replicate 24 0
 | i + 1 => if (i + 1) % 2 = odd then (powS odd i).set ((i + 1) / 2) (fop .quo (sgF ((i + 1) / 2)) (facF (i + 1))) else powS odd i
theorem fac_ok : ∀ i, i < 18 → floatBits .mul .f64 (facF i) (FloatKind.f64.nearest ((i + 1 : Nat) : Int)) = some (facF (i + 1)) := by decide +kernel
theorem pow_ok : ∀ i, i < 18 → floatBits .quo .f64 (sgF (i / 2)) (facF i) = some (fop .quo (sgF (i / 2)) (facF i)) := by decide +kernel
theorem powS_len (odd : Nat) : ∀ i, (powS odd i).length = 24
 | 0 => by simp [powS]
 | i + 1 => by
  unfold powS
  split
  ·
   rw [List.length_set, powS_len odd i]
  ·
   exact powS_len odd i
def powT (odd : Nat) : List Nat := if odd = 0 then (powS 0 16).set 0 4607182418800017408 else powS 1 17
theorem fl_one' (xs : List Nat) : ∀ v ∈ fl xs, v.oneCell' = true := by intro v h; obtain ⟨x, _, rfl⟩ := List.mem_map.1 h; rfl
theorem ti83' (S : List Nat) (h : S.length = 24) : TI Try.prog 132 (.agg (fl (List.replicate 24 0)).toArray) (fl S).length 192 := by rw [fl_length, h]; exact Try.ti132
theorem powers_ok (odd : Nat) (ho : odd ≤ 1) (w0 : World) : Ret Try.prog 76 [.int .i64 odd] w0 fun v w' => v = .agg (fl (powT odd)).toArray ∧ HS w0 w' [] := by
 refine Ret.start fun w hs => ?_
 refine calls_of_W Try.func76 rfl rfl rfl ?_
 refine W_seq ?_
 refine W_region ?_
 refine L_alloc rfl hs Try.ti132 ?_
 intro b2 w hb2 hnb2 hs
 try dsimp only [List.set_cons_succ, List.set_cons_zero, List.cons_append, List.nil_append] at hs
 refine RL_then ?_
 refine W_seq ?_
 refine W_region ?_
 refine L_assign rfl rfl ?_
 refine RL_then ?_
 refine W_seq ?_
 refine W_seq ?_
 refine W_region ?_
 refine L_assign rfl rfl ?_
 refine RL_then ?_
 refine W_block ?_
 replace hs : HS w0 w [(b2, Row 132 (fl (powS odd 0)))] := hs
 refine W_loop2 (fun (i : Nat) (w : World) => [(0, .int .i64 odd), (2, .pointer (some ⟨b2, 0, none⟩)), (3, .float .f64 (facF i)), (4, .int .i64 (i + 1 : Nat))]) (fun (i : Nat) (w : World) => w) (fun (i : Nat) (w : World) => (i ≤ 16 + odd) ∧ (HS w0 w [(b2, Row 132 (fl (powS odd i)))])) (fun (i : Nat) (w : World) => 17 + odd - i) (0) (w) (is := [0, 2, 3, 4]) rfl rfl ?_ ?_
 ·
  exact ⟨Nat.zero_le _, hs⟩
 ·
  clear hs
  intro i w hI
  show W _ _ _ _ [(0, .int .i64 odd), (2, .pointer (some ⟨b2, 0, none⟩)), (3, .float .f64 (facF i)), (4, .int .i64 (i + 1 : Nat))] w
  obtain ⟨hi, hs⟩ := hI
  have hpl := powS_len odd i
  by_cases hlt : i + 1 ≤ 16 + odd
  ·
   have e1 : Int.tmod ((i + 1 : Nat) : Int) 2 = (((i + 1) % 2 : Nat) : Int) := rfl
   have e2 : Int.tdiv ((i + 1 : Nat) : Int) 2 = (((i + 1) / 2 : Nat) : Int) := rfl
   refine W_seq ?_
   refine W_seq ?_
   refine W_region ?_
   refine L_move rfl rfl ?_
   refine L_move rfl rfl ?_
   first | refine L_add rfl rfl rfl (wrp_i64 (by omega)) ?_ | refine L_add rfl rfl rfl rfl ?_
   first | refine L_leq rfl rfl rfl (dtrue (by omega)) ?_ | refine L_leq rfl rfl rfl (dfalse (by omega)) ?_ | refine L_leq rfl rfl rfl rfl ?_
   refine RL_then ?_
   refine W_if_true rfl ?_
   refine W_skip' ?_
   refine Nx_then ?_
   refine W_seq ?_
   refine W_block ?_
   refine W_seq ?_
   refine W_region ?_
   refine L_move rfl rfl ?_
   refine L_move rfl rfl ?_
   refine L_itof rfl Try.underlying3 Try.underlying23 rfl ?_
   refine L_farith rfl (op := .mul) rfl rfl rfl ?_
   intro r14 k14 hr14
   try replace hs := hs.drewN k14
   obtain rfl := fs_val hr14 (fac_ok i (by omega))
   refine L_assign rfl rfl ?_
   refine RL_then ?_
   refine W_seq ?_
   refine W_region ?_
   refine L_move rfl rfl ?_
   refine L_rem rfl rfl rfl (by omega) ?_
   rw [e1]
   by_cases hm : (i + 1) % 2 = odd
   ·
    refine L_move rfl rfl ?_
    first | refine L_eql rfl rfl rfl (dtrue (by omega)) ?_ | refine L_eql rfl rfl rfl (dfalse (by omega)) ?_ | refine L_eql rfl rfl rfl rfl ?_
    refine RL_then ?_
    refine W_if_true rfl ?_
    refine W_region ?_
    refine L_move rfl rfl ?_
    first | refine L_quo rfl rfl rfl (by omega) (wrp_i64 (by omega)) ?_ | refine L_quo rfl rfl rfl (by omega) rfl ?_
    rw [e2]
    refine L_move rfl rfl ?_
    first | refine L_quo rfl rfl rfl (by omega) (wrp_i64 (by omega)) ?_ | refine L_quo rfl rfl rfl (by omega) rfl ?_
    rw [e2]
    refine L_call rfl Try.fun88 rfl (sign_ok ((i + 1) / 2) (by omega) _) ?_
    rintro _ w ⟨rfl, rfl⟩
    refine L_move rfl rfl ?_
    refine L_farith rfl (op := .quo) rfl rfl rfl ?_
    intro r25 k25 hr25
    try replace hs := hs.drewN k25
    obtain rfl := fs_val hr25 (pow_ok (i + 1) (by omega))
    refine L_idxA1 rfl Try.underlying132 Try.ti23 rfl rfl (by with_reducible first | exact natc_k _ | exact natc_a1 _ | exact natc_0 | exact natc_1 | exact natc_2 | exact natc_s1 _ (by omega) | exact natc_a2 _ | exact natc_add _ _ | exact natc_mul _ _ | exact natc (by omega)) (by omega) ?_
    refine L_store hs (i := 0) rfl Try.ti23 rfl rfl (by first | rfl | exact add_lit0 _ _ | exact Addr.add_lit .. | (rw [add_add]; exact add_lit0 _ _)) (by simp; omega) rfl ?_
    intro w hs
    try dsimp only [List.set_cons_succ, List.set_cons_zero, List.cons_append, List.nil_append] at hs
    refine RL_nil' ?_
    refine Nx_block ?_
    refine Nx_then ?_
    refine W_region ?_
    refine L_move rfl rfl ?_
    first | refine L_add rfl rfl rfl (wrp_i64 (by omega)) ?_ | refine L_add rfl rfl rfl rfl ?_
    refine L_assign rfl rfl ?_
    refine RL_nil' ?_
    rw [fl_set1] at hs
    refine Nx_loopP (i + 1, _) (is := [0, 2, 3, 4]) (I' := (fun (i : Nat) (w : World) => (i ≤ 16 + odd) ∧ (HS w0 w [(b2, Row 132 (fl (powS odd i)))])) (i + 1) (_)) rfl rfl rfl ?_ ?_
    ·
     exact ⟨by omega, by unfold powS; rw [if_pos hm]; exact hs⟩
    ·
     omega
   ·
    refine L_move rfl rfl ?_
    first | refine L_eql rfl rfl rfl (dtrue (by omega)) ?_ | refine L_eql rfl rfl rfl (dfalse (by omega)) ?_ | refine L_eql rfl rfl rfl rfl ?_
    refine RL_then ?_
    refine W_if_false rfl ?_
    refine W_skip' ?_
    refine Nx_block ?_
    refine Nx_then ?_
    refine W_region ?_
    refine L_move rfl rfl ?_
    first | refine L_add rfl rfl rfl (wrp_i64 (by omega)) ?_ | refine L_add rfl rfl rfl rfl ?_
    refine L_assign rfl rfl ?_
    refine RL_nil' ?_
    refine Nx_loopP (i + 1, _) (is := [0, 2, 3, 4]) (I' := (fun (i : Nat) (w : World) => (i ≤ 16 + odd) ∧ (HS w0 w [(b2, Row 132 (fl (powS odd i)))])) (i + 1) (_)) rfl rfl rfl ?_ ?_
    ·
     exact ⟨by omega, by unfold powS; rw [if_neg hm]; exact hs⟩
    ·
     omega
  ·
   have hie : i = 16 + odd := by omega
   refine W_seq ?_
   refine W_seq ?_
   refine W_region ?_
   refine L_move rfl rfl ?_
   refine L_move rfl rfl ?_
   first | refine L_add rfl rfl rfl (wrp_i64 (by omega)) ?_ | refine L_add rfl rfl rfl rfl ?_
   first | refine L_leq rfl rfl rfl (dtrue (by omega)) ?_ | refine L_leq rfl rfl rfl (dfalse (by omega)) ?_ | refine L_leq rfl rfl rfl rfl ?_
   refine RL_then ?_
   refine W_if_false rfl ?_
   by_cases h0 : odd = 0
   ·
    subst h0
    subst hie
    refine W_exit' ?_
    refine Ex_then_exit ?_
    refine Ex_loop_exit ?_
    refine Ex_block_hit ?_
    refine Nx_then ?_
    refine W_seq ?_
    refine W_seq ?_
    refine W_region ?_
    refine L_move rfl rfl ?_
    first | refine L_eql rfl rfl rfl (dtrue (by omega)) ?_ | refine L_eql rfl rfl rfl (dfalse (by omega)) ?_ | refine L_eql rfl rfl rfl rfl ?_
    refine RL_then ?_
    refine W_if_true rfl ?_
    refine W_region ?_
    refine L_idxA1 rfl Try.underlying132 Try.ti23 rfl rfl (by with_reducible first | exact natc_k _ | exact natc_a1 _ | exact natc_0 | exact natc_1 | exact natc_2 | exact natc_s1 _ (by omega) | exact natc_a2 _ | exact natc_add _ _ | exact natc_mul _ _ | exact natc (by omega)) (by omega) ?_
    refine L_store hs (i := 0) rfl Try.ti23 rfl rfl (by first | rfl | exact add_lit0 _ _ | exact Addr.add_lit .. | (rw [add_add]; exact add_lit0 _ _)) (by rw [fl_length]; omega) rfl ?_
    intro w hs
    try dsimp only [List.set_cons_succ, List.set_cons_zero, List.cons_append, List.nil_append] at hs
    refine RL_then ?_
    refine W_seq ?_
    refine W_region ?_
    rw [fl_set1] at hs
    obtain ⟨S, hST⟩ : ∃ S, S = powT 0 := ⟨_, rfl⟩
    have hS : S.length = 24 := by rw [hST]; decide +kernel
    replace hs : HS w0 w [(b2, Row 132 (fl S))] := by rw [hST]; exact hs
    refine L_loadA (cs := fl S) rfl Try.agg132 (ti83' S hS) rfl (cellsAt_whole (hs.get (i := 0) rfl)) ?_
    refine L_storeA (vs := fl S) hs (i := 0) rfl (ti83' S hS) rfl rfl rfl (by rw [Nat.zero_add]; exact Nat.le_refl _) (fl_one' S) ?_
    intro w hs
    replace hs : HS w0 w [(b2, Row 132 (fl S))] := by
     have e : (fl S).drop S.length = [] := List.drop_eq_nil_of_le (by rw [fl_length]; omega)
     simpa [e] using hs
    refine RL_then ?_
    refine W_ret' ?_
    refine Ex_doneC rfl rfl Try.agg132 (ti83' S hS) (by exact cellsAt_whole (hs.get (i := 0) rfl)) ?_
    exact ⟨_, rfl, by rw [hST], hs.forget (Own.cons hb2 Own.nil)⟩
   ·
    obtain rfl : odd = 1 := by omega
    subst hie
    refine W_exit' ?_
    refine Ex_then_exit ?_
    refine Ex_loop_exit ?_
    refine Ex_block_hit ?_
    refine Nx_then ?_
    refine W_seq ?_
    refine W_seq ?_
    refine W_region ?_
    refine L_move rfl rfl ?_
    first | refine L_eql rfl rfl rfl (dtrue (by omega)) ?_ | refine L_eql rfl rfl rfl (dfalse (by omega)) ?_ | refine L_eql rfl rfl rfl rfl ?_
    refine RL_then ?_
    refine W_if_false rfl ?_
    refine W_skip' ?_
    refine Nx_then ?_
    refine W_seq ?_
    refine W_region ?_
    obtain ⟨S, hST⟩ : ∃ S, S = powT 1 := ⟨_, rfl⟩
    have hS : S.length = 24 := by rw [hST]; decide +kernel
    replace hs : HS w0 w [(b2, Row 132 (fl S))] := by rw [hST]; exact hs
    refine L_loadA (cs := fl S) rfl Try.agg132 (ti83' S hS) rfl (cellsAt_whole (hs.get (i := 0) rfl)) ?_
    refine L_storeA (vs := fl S) hs (i := 0) rfl (ti83' S hS) rfl rfl rfl (by rw [Nat.zero_add]; exact Nat.le_refl _) (fl_one' S) ?_
    intro w hs
    replace hs : HS w0 w [(b2, Row 132 (fl S))] := by
     have e : (fl S).drop S.length = [] := List.drop_eq_nil_of_le (by rw [fl_length]; omega)
     simpa [e] using hs
    refine RL_then ?_
    refine W_ret' ?_
    refine Ex_doneC rfl rfl Try.agg132 (ti83' S hS) (by exact cellsAt_whole (hs.get (i := 0) rfl)) ?_
    exact ⟨_, rfl, by rw [hST], hs.forget (Own.cons hb2 Own.nil)⟩
end Go.Proofs.Ytdllakfojligjaa
