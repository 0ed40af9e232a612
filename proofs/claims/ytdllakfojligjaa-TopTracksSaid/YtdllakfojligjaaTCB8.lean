/-
  A part of the proof: what functions that the statement reaches do, or a plain law on what they do. Each theorem holds under its own premises alone.
-/
import Derived.Test.YtdllakfojligjaaTCB7
namespace Go.Proofs.Ytdllakfojligjaa
open Go Go.Lk
def horF (S : List Nat) (z : Nat) : Nat → Nat
 | 0 => S.getD 8 0
 | m + 1 => fop .add (fop .mul (horF S z m) z) (S.getD (7 - m) 0)
theorem at_ok (B : Nat) (S : List Nat) (z : Nat) (w0 : World) (hB : w0.heap[B]? = some (Row 132 (fl S))) (hS : S.length = 24) :
  Ret Try.prog 77 [.pointer (some ⟨B, 0, none⟩), .float .f64 z, .int .i64 9] w0 fun v w' => ∃ r, v = .float .f64 r ∧ HS w0 w' [] ∧ cn r = cn (horF S z 8) := by
 refine Ret.start fun w hs => ?_
 have hld : ∀ {w : World}, HS w0 w [] → ∀ j, j < 24 → w.cell? ((Addr.mk B 0 none).add j) = some (.float .f64 (S.getD j 0)) := fun {w} hs j hj => by
  rw [add_lit0]
  refine Lk.cell_of_row (cs := fl S) (T := 132) ?_ (fl_get (by omega))
  rw [hs.old (Array.getElem?_eq_some_iff.1 hB).1 (by simp)]; exact hB
 refine calls_of_W Try.func77 rfl rfl rfl ?_
 refine W_seq ?_
 refine W_region ?_
 refine L_assign rfl rfl ?_
 refine RL_then ?_
 refine W_seq ?_
 refine W_region ?_
 refine L_move rfl rfl ?_
 refine L_move rfl rfl ?_
 first | refine L_sub rfl rfl rfl (wrp_i64 (by omega)) ?_ | refine L_sub rfl rfl rfl rfl ?_
 refine L_nilCheck rfl rfl ?_
 refine L_idxA1 rfl Try.underlying132 Try.ti23 rfl rfl (j := 8) rfl (by omega) ?_
 refine L_load rfl Try.one23 rfl (by exact hld hs 8 (by decide)) ?_
 refine L_assign rfl rfl ?_
 refine RL_then ?_
 refine W_seq ?_
 refine W_seq ?_
 refine W_region ?_
 refine L_move rfl rfl ?_
 first | refine L_sub rfl rfl rfl (wrp_i64 (by omega)) ?_ | refine L_sub rfl rfl rfl rfl ?_
 refine L_assign rfl rfl ?_
 refine RL_then ?_
 refine W_block ?_
 refine W_loop3 (fun (m : Nat) (r : Nat) (w : World) => [(0, .pointer (some ⟨B, 0, none⟩)), (1, .float .f64 z), (7, .float .f64 r), (8, .int .i64 (7 - (m : Int)))]) (fun (m : Nat) (r : Nat) (w : World) => w) (fun (m : Nat) (r : Nat) (w : World) => (m ≤ 8) ∧ (cn r = cn (horF S z m)) ∧ (HS w0 w [])) (fun (m : Nat) (r : Nat) (w : World) => 9 - m) (0) (_) (w) (is := [0, 1, 7, 8]) rfl rfl ?_ ?_
 ·
  exact ⟨Nat.zero_le _, rfl, hs⟩
 ·
  clear hs
  intro m r w hI
  show W _ _ _ _ [(0, .pointer (some ⟨B, 0, none⟩)), (1, .float .f64 z), (7, .float .f64 r), (8, .int .i64 (7 - (m : Int)))] w
  obtain ⟨hm, hr, hs⟩ := hI
  by_cases hlt : m < 8
  ·
   have hn : (7 - (m : Int)) = ((7 - m : Nat) : Int) := by omega
   refine W_seq ?_
   refine W_seq ?_
   refine W_region ?_
   refine L_move rfl rfl ?_
   first | refine L_geq rfl rfl rfl (dtrue (by omega)) ?_ | refine L_geq rfl rfl rfl (dfalse (by omega)) ?_ | refine L_geq rfl rfl rfl rfl ?_
   refine RL_then ?_
   refine W_if_true rfl ?_
   refine W_skip' ?_
   refine Nx_then ?_
   refine W_seq ?_
   refine W_block ?_
   refine W_region ?_
   refine L_move rfl rfl ?_
   refine L_move rfl rfl ?_
   refine L_farith rfl (op := .mul) rfl rfl rfl ?_
   intro r23 k23 hr23
   try replace hs := hs.drewN k23
   refine L_move rfl rfl ?_
   refine L_move rfl rfl ?_
   refine L_nilCheck rfl rfl ?_
   refine L_idxA1 rfl Try.underlying132 Try.ti23 rfl rfl hn (by omega) ?_
   refine L_load rfl Try.one23 rfl (by exact hld hs (7 - m) (by omega)) ?_
   refine L_farith rfl (op := .add) rfl rfl rfl ?_
   intro r29 k29 hr29
   try replace hs := hs.drewN k29
   refine L_assign rfl rfl ?_
   refine RL_nil' ?_
   refine Nx_block ?_
   refine Nx_then ?_
   refine W_region ?_
   refine L_move rfl rfl ?_
   first | refine L_sub rfl rfl rfl (wrp_i64 (by omega)) ?_ | refine L_sub rfl rfl rfl rfl ?_
   rw [show (7 - (m : Int)) - 1 = 7 - ((m + 1 : Nat) : Int) by omega]
   refine L_assign rfl rfl ?_
   refine RL_nil' ?_
   refine Nx_loopP (m + 1, r29, _) (is := [0, 1, 7, 8]) (I' := (fun (m : Nat) (r : Nat) (w : World) => (m ≤ 8) ∧ (cn r = cn (horF S z m)) ∧ (HS w0 w [])) (m + 1) (r29) (_)) rfl rfl rfl ?_ ?_
   ·
    exact ⟨by omega, (Fs.cn hr29).trans ((fop_congr ((Fs.cn hr23).trans ((fop_congr hr rfl).trans (cn_fop ..).symm)) rfl).trans (cn_fop ..).symm), hs⟩
   ·
    omega
  ·
   obtain rfl : m = 8 := by omega
   refine W_seq ?_
   refine W_seq ?_
   refine W_region ?_
   refine L_move rfl rfl ?_
   first | refine L_geq rfl rfl rfl (dtrue (by omega)) ?_ | refine L_geq rfl rfl rfl (dfalse (by omega)) ?_ | refine L_geq rfl rfl rfl rfl ?_
   refine RL_then ?_
   refine W_if_false rfl ?_
   refine W_exit' ?_
   refine Ex_then_exit ?_
   refine Ex_loop_exit ?_
   refine Ex_block_hit ?_
   refine Nx_then ?_
   refine W_seq ?_
   refine W_region ?_
   refine L_move rfl rfl ?_
   refine L_assign rfl rfl ?_
   refine RL_then ?_
   refine W_ret' ?_
   refine Ex_done1 rfl rfl ?_
   exact ⟨_, rfl, _, rfl, hs, hr⟩
theorem cn_same {x v : Nat} (h : cn x = cn v) (hv : isnan v = false) : x = v := by
 rw [cn_num hv] at h
 cases hx : isnan x with
 | true =>
  rw [cn_nan hx] at h
  rw [← h] at hv
  exact absurd hv (by decide)
 | false => rwa [cn_num hx] at h
theorem sqrt_half (w : World) : Ret Try.prog 75 [.float .f64 4602678819172646912] w fun v w' => v = .float .f64 4604544271217802189 ∧ w' = w := by
 have h : FloatKind.f64.format.sqrt 4602678819172646912 = some 4604544271217802189 := by decide +kernel
 refine calls_of_W Try.func75 rfl rfl rfl ?_
 refine W_seq ?_
 refine W_region ?_
 refine L_assign rfl rfl ?_
 refine RL_then ?_
 refine W_seq ?_
 refine W_region ?_
 refine L_move rfl rfl ?_
 refine RL_val rfl (R_extern Try.ext87 rfl (fun w => run_sqrt h w)) ?_
 refine L_assign rfl rfl ?_
 refine RL_then ?_
 refine W_ret' ?_
 refine Ex_done1 rfl rfl ?_
 exact ⟨_, rfl, rfl, rfl⟩
theorem horF_congr (S : List Nat) {z z' : Nat} (h : cn z = cn z') : ∀ m, cn (horF S z m) = cn (horF S z' m)
 | 0 => rfl
 | m + 1 => by
  show cn (fop .add (fop .mul (horF S z m) z) _) = cn (fop .add (fop .mul (horF S z' m) z') _)
  rw [fop_congr (op := .mul) (horF_congr S h m) h]
/-- the point at a turn up to an eighth -/
def eigF (a : Nat) : Nat × Nat := if FloatKind.f64.format.order a 4593671619917905920 == some .eq then (4604544271217802189, 4604544271217802189) else
 (horF (powT 0) (fop .mul (fop .mul a 4618760256179416344) (fop .mul a 4618760256179416344)) 8, fop .mul (horF (powT 1) (fop .mul (fop .mul a 4618760256179416344) (fop .mul a 4618760256179416344)) 8) (fop .mul a 4618760256179416344))
theorem eigF_congr {a a' : Nat} (h : cn a = cn a') : eigF a = eigF a' := by
 unfold eigF
 rw [order_congr h (rfl : cn 4593671619917905920 = _), fop_congr (op := .mul) h (rfl : cn 4618760256179416344 = _)]
theorem eigF_far {a : Nat} (h : (FloatKind.f64.format.order a 4593671619917905920 == some .eq) = false) : (eigF a).1 = horF (powT 0) (fop .mul (fop .mul a 4618760256179416344) (fop .mul a 4618760256179416344)) 8 ∧ (eigF a).2 = fop .mul (horF (powT 1) (fop .mul (fop .mul a 4618760256179416344) (fop .mul a 4618760256179416344)) 8) (fop .mul a 4618760256179416344) := by
 have e : eigF a = (horF (powT 0) (fop .mul (fop .mul a 4618760256179416344) (fop .mul a 4618760256179416344)) 8, fop .mul (horF (powT 1) (fop .mul (fop .mul a 4618760256179416344) (fop .mul a 4618760256179416344)) 8) (fop .mul a 4618760256179416344)) := by
  unfold eigF
  rw [h, if_neg (by decide)]
 constructor
 ·
  rw [e]
 ·
  rw [e]
theorem eigF_at {a : Nat} (h : (FloatKind.f64.format.order a 4593671619917905920 == some .eq) = true) : eigF a = (4604544271217802189, 4604544271217802189) := by
 unfold eigF
 rw [h, if_pos rfl]
theorem eighth_ok (a : Nat) (w0 : World) : Ret Try.prog 53 [.float .f64 a] w0 fun v w' => ∃ re im, v = .complex .f64 re im ∧ HS w0 w' [] ∧ cn re = cn (eigF a).1 ∧ cn im = cn (eigF a).2 := by
 refine Ret.start fun w hs => ?_
 refine calls_of_W Try.func53 rfl rfl rfl ?_
 cases hc : FloatKind.f64.format.order a 4593671619917905920 == some .eq
 ·
  refine W_seq ?_
  refine W_region ?_
  refine L_assign rfl rfl ?_
  refine RL_then ?_
  refine W_seq ?_
  refine W_seq ?_
  refine W_region ?_
  refine L_move rfl rfl ?_
  refine L_fcmp rfl rfl rfl (fun _ => by rw [binOp_float_cmp_eql]; rfl) ?_
  refine RL_then ?_
  refine W_set 8 (v' := .bool false) rfl (by rw [hc]) ?_
  refine W_if_false rfl ?_
  refine W_skip' ?_
  refine Nx_then ?_
  refine W_seq ?_
  refine W_region ?_
  refine L_move rfl rfl ?_
  refine L_farith rfl (op := .mul) rfl rfl rfl ?_
  intro r13 k13 hr13
  try replace hs := hs.drewN k13
  refine L_assign rfl rfl ?_
  refine RL_then ?_
  refine W_seq ?_
  refine W_region ?_
  refine L_move rfl rfl ?_
  refine L_move rfl rfl ?_
  refine L_farith rfl (op := .mul) rfl rfl rfl ?_
  intro r16 k16 hr16
  try replace hs := hs.drewN k16
  refine L_assign rfl rfl ?_
  refine RL_then ?_
  refine W_seq ?_
  refine W_region ?_
  refine L_call rfl Try.fun76 rfl (powers_ok 1 (by decide) _) ?_
  rintro _ w1 ⟨rfl, hs'⟩
  replace hs := hs.nil hs'
  clear hs'
  skip
  refine L_call rfl Try.fun76 rfl (powers_ok 0 (by decide) _) ?_
  rintro _ w2 ⟨rfl, hs'⟩
  replace hs := hs.nil hs'
  clear hs'
  have l1 : (powT 1).length = 24 := by decide +kernel
  have l0 : (powT 0).length = 24 := by decide +kernel
  obtain ⟨S1, h1⟩ : ∃ S, S = powT 1 := ⟨_, rfl⟩
  obtain ⟨S0, h0⟩ : ∃ S, S = powT 0 := ⟨_, rfl⟩
  rw [← h1] at l1 ⊢
  rw [← h0] at l0 ⊢
  refine L_alloc rfl hs Try.ti132 ?_
  intro b5 w hb5 hnb5 hs
  try dsimp only [List.set_cons_succ, List.set_cons_zero, List.cons_append, List.nil_append] at hs
  refine L_alloc rfl hs Try.ti132 ?_
  intro b6 w hb6 hnb6 hs
  try dsimp only [List.set_cons_succ, List.set_cons_zero, List.cons_append, List.nil_append] at hs
  obtain ⟨Z, hZ⟩ : ∃ Z, Z = List.replicate 24 0 := ⟨_, rfl⟩
  have lZ : Z.length = 24 := by rw [hZ]; decide +kernel
  replace hs : HS w0 w [(b5, Row 132 (fl Z)), (b6, Row 132 (fl Z))] := by rw [hZ]; exact hs
  clear hZ
  refine L_storeA (vs := fl S1) (cs := fl Z) hs (i := 0) rfl (ti83' S1 l1) rfl rfl rfl (by simp [l1, lZ]) (fl_one' S1) ?_
  intro w hs
  replace hs : HS w0 w [(b5, Row 132 (fl S1)), (b6, Row 132 (fl Z))] := by
   have e : (fl Z).drop (0 + (fl S1).length) = [] := List.drop_eq_nil_of_le (by simp [l1, lZ])
   rw [e] at hs
   simpa using hs
  refine L_storeA (vs := fl S0) (cs := fl Z) hs (i := 1) rfl (ti83' S0 l0) rfl rfl rfl (by simp [l0, lZ]) (fl_one' S0) ?_
  intro w hs
  replace hs : HS w0 w [(b5, Row 132 (fl S1)), (b6, Row 132 (fl S0))] := by
   have e : (fl Z).drop (0 + (fl S0).length) = [] := List.drop_eq_nil_of_le (by simp [l0, lZ])
   rw [e] at hs
   simpa using hs
  refine RL_then ?_
  refine W_seq ?_
  refine W_region ?_
  refine L_move rfl rfl ?_
  refine L_call rfl Try.fun77 rfl (at_ok b6 S0 r16 w (hs.get (i := 1) rfl) l0) ?_
  rintro _ w3 ⟨c, rfl, hs', hc8⟩
  replace hs := hs.nil hs'
  clear hs'
  refine L_move rfl rfl ?_
  refine L_call rfl Try.fun77 rfl (at_ok b5 S1 r16 w3 (hs.get (i := 0) rfl) l1) ?_
  rintro _ w4 ⟨s, rfl, hs', hs8⟩
  replace hs := hs.nil hs'
  clear hs'
  refine L_move rfl rfl ?_
  refine L_farith rfl (op := .mul) rfl rfl rfl ?_
  intro r24 k24 hr24
  try replace hs := hs.drewN k24
  refine L_complex rfl rfl rfl ?_
  refine L_assign rfl rfl ?_
  refine RL_then ?_
  refine W_ret' ?_
  refine Ex_done1 rfl rfl ?_
  have ez : cn r16 = cn (fop .mul (fop .mul a 4618760256179416344) (fop .mul a 4618760256179416344)) := by
   have e := Fs.cn hr13
   exact ((Fs.cn hr16).trans (fop_congr (e.trans (cn_fop ..).symm) (e.trans (cn_fop ..).symm))).trans (cn_fop ..).symm
  refine ⟨_, rfl, _, _, rfl, hs.forget (Own.cons hb5 (Own.cons hb6 Own.nil)), ?_, ?_⟩
  ·
   rw [(eigF_far hc).1]
   rw [h0] at hc8
   exact hc8.trans (horF_congr _ ez 8)
  ·
   rw [(eigF_far hc).2]
   rw [h1] at hs8
   rw [cn_fop]
   exact (Fs.cn hr24).trans (fop_congr (hs8.trans (horF_congr _ ez 8)) ((Fs.cn hr13).trans (cn_fop ..).symm))
 ·
  refine W_seq ?_
  refine W_region ?_
  refine L_assign rfl rfl ?_
  refine RL_then ?_
  refine W_seq ?_
  refine W_seq ?_
  refine W_region ?_
  refine L_move rfl rfl ?_
  refine L_fcmp rfl rfl rfl (fun _ => by rw [binOp_float_cmp_eql]; rfl) ?_
  refine RL_then ?_
  refine W_set 8 (v' := .bool true) rfl (by rw [hc]) ?_
  refine W_if_true rfl ?_
  refine W_seq ?_
  refine W_region ?_
  refine L_call rfl Try.fun75 rfl (sqrt_half w) ?_
  rintro _ w ⟨rfl, rfl⟩
  refine L_call rfl Try.fun75 rfl (sqrt_half w) ?_
  rintro _ w ⟨rfl, rfl⟩
  refine L_complex rfl rfl rfl ?_
  refine L_assign rfl rfl ?_
  refine RL_then ?_
  refine W_ret' ?_
  refine Ex_then_ret ?_
  refine Ex_done1 rfl rfl ?_
  refine ⟨_, rfl, _, _, rfl, hs, ?_, ?_⟩
  ·
   rw [eigF_at hc]
  ·
   rw [eigF_at hc]
end Go.Proofs.Ytdllakfojligjaa
