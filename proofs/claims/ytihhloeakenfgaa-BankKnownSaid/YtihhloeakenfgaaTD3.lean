/-
  A part of the proof: what functions that the statement reaches do, or a plain law on what they do. Each theorem holds under its own premises alone.
-/
import Derived.Test.YtihhloeakenfgaaTD2
namespace Go.Proofs.Ytihhloeakenfgaa
open Go Go.Lk
def cjF (z : Nat × Nat) : Nat × Nat := (z.1, Op.negFloat .f64 z.2)
theorem conj_ok (a b : Nat) (w : World) : Ret Try.prog 38 [.complex .f64 a b] w fun v w' => v = .complex .f64 a (Op.negFloat .f64 b) ∧ w' = w := by
  refine calls_of_W Try.func38 rfl rfl rfl ?_
  refine W_seq ?_
  refine W_region ?_
  refine L_assign rfl rfl ?_
  refine RL_then ?_
  refine W_seq ?_
  refine W_region ?_
  refine L_move rfl rfl ?_
  refine L_real rfl rfl ?_
  refine L_move rfl rfl ?_
  refine L_imag rfl rfl ?_
  refine L_fneg rfl rfl ?_
  refine L_complex rfl rfl rfl ?_
  refine L_assign rfl rfl ?_
  refine RL_then ?_
  refine W_ret' ?_
  refine Ex_done1 rfl rfl ?_
  exact ⟨_, rfl, rfl, rfl⟩
theorem abs2_ok (a b : Nat) (w0 : World) : Ret Try.prog 34 [.complex .f64 a b] w0 fun v w' => ∃ r, v = .float .f64 r ∧ HS w0 w' [] ∧ cn r = fop .add (fop .mul a a) (fop .mul b b) := by
  refine Ret.start fun w hs => ?_
  refine calls_of_W Try.func34 rfl rfl rfl ?_
  refine W_seq ?_
  refine W_region ?_
  refine L_assign rfl rfl ?_
  refine RL_then ?_
  refine W_seq ?_
  refine W_region ?_
  refine L_move rfl rfl ?_
  refine L_real rfl rfl ?_
  refine L_move rfl rfl ?_
  refine L_real rfl rfl ?_
  refine L_farith rfl (op := .mul) rfl rfl rfl ?_
  intro r7 k7 hr7
  try replace hs := hs.drewN k7
  refine L_move rfl rfl ?_
  refine L_imag rfl rfl ?_
  refine L_move rfl rfl ?_
  refine L_imag rfl rfl ?_
  refine L_farith rfl (op := .mul) rfl rfl rfl ?_
  intro r12 k12 hr12
  try replace hs := hs.drewN k12
  refine L_farith rfl (op := .add) rfl rfl rfl ?_
  intro r13 k13 hr13
  try replace hs := hs.drewN k13
  refine L_assign rfl rfl ?_
  refine RL_then ?_
  refine W_ret' ?_
  refine Ex_done1 rfl rfl ?_
  exact ⟨_, rfl, _, rfl, hs, (Fs.cn hr13).trans (fop_congr ((Fs.cn hr7).trans (cn_fop ..).symm) ((Fs.cn hr12).trans (cn_fop ..).symm))⟩
theorem long_ok (a b : Option Addr) (k l c d : Nat) (hk : k ≤ 1000000) (hl : l ≤ 1000000) (w : World) : Ret Try.prog 31 [.slice a k c, .slice b l d] w fun v w' => v = .bool (decide (16384 < k ∨ 16384 < l ∨ 16777216 < k * l)) ∧ w' = w := by
  have hkl : (k : Int) * (l : Int) = ((k * l : Nat) : Int) := by simp
  have hb : k * l ≤ 1000000 * 1000000 := Nat.mul_le_mul hk hl
  obtain ⟨N, hN⟩ : ∃ N, N = k * l := ⟨_, rfl⟩
  rw [← hN] at hkl hb ⊢
  refine calls_of_W Try.func31 rfl rfl rfl ?_
  by_cases c1 : 16384 < k
  · refine W_seq ?_
    refine W_region ?_
    refine L_assign rfl rfl ?_
    refine RL_then ?_
    refine W_seq ?_
    refine W_region ?_
    refine L_move rfl rfl ?_
    refine L_len rfl Try.underlying27 rfl ?_
    first | refine L_gtr rfl rfl rfl (dtrue (by omega)) ?_ | refine L_gtr rfl rfl rfl (dfalse (by omega)) ?_ | refine L_gtr rfl rfl rfl rfl ?_
    refine L_move rfl rfl ?_
    first | (refine RL_want rfl rfl ?_; refine L_move rfl rfl ?_) | refine RL_skip rfl rfl rfl rfl ?_ | refine RL_skipU rfl rfl rfl ?_
    first | (refine RL_want rfl rfl ?_; refine L_len rfl Try.underlying27 rfl ?_) | refine RL_skip rfl rfl rfl rfl ?_ | refine RL_skipU rfl rfl rfl ?_
    first | (refine RL_want rfl rfl ?_; (first | refine L_gtr rfl rfl rfl (dtrue (by omega)) ?_ | refine L_gtr rfl rfl rfl (dfalse (by omega)) ?_ | refine L_gtr rfl rfl rfl rfl ?_)) | refine RL_skip rfl rfl rfl rfl ?_ | refine RL_skipU rfl rfl rfl ?_
    first | refine L_pick_t rfl rfl rfl ?_ | refine L_pick_f rfl rfl rfl ?_
    refine L_move rfl rfl ?_
    first | (refine RL_want rfl rfl ?_; refine L_move rfl rfl ?_) | refine RL_skip rfl rfl rfl rfl ?_ | refine RL_skipU rfl rfl rfl ?_
    first | (refine RL_want rfl rfl ?_; refine L_len rfl Try.underlying27 rfl ?_) | refine RL_skip rfl rfl rfl rfl ?_ | refine RL_skipU rfl rfl rfl ?_
    first | (refine RL_want rfl rfl ?_; refine L_move rfl rfl ?_) | refine RL_skip rfl rfl rfl rfl ?_ | refine RL_skipU rfl rfl rfl ?_
    first | (refine RL_want rfl rfl ?_; refine L_len rfl Try.underlying27 rfl ?_) | refine RL_skip rfl rfl rfl rfl ?_ | refine RL_skipU rfl rfl rfl ?_
    first | (refine RL_want rfl rfl ?_; (first | refine L_mul rfl rfl rfl (wrp_i64 (by omega)) ?_ | refine L_mul rfl rfl rfl rfl ?_)) | refine RL_skip rfl rfl rfl rfl ?_ | refine RL_skipU rfl rfl rfl ?_
    first | (refine RL_want rfl rfl ?_; (first | refine L_gtr rfl rfl rfl (dtrue (by omega)) ?_ | refine L_gtr rfl rfl rfl (dfalse (by omega)) ?_ | refine L_gtr rfl rfl rfl rfl ?_)) | refine RL_skip rfl rfl rfl rfl ?_ | refine RL_skipU rfl rfl rfl ?_
    first | refine L_pick_t rfl rfl rfl ?_ | refine L_pick_f rfl rfl rfl ?_
    refine L_assign rfl rfl ?_
    refine RL_then ?_
    refine W_ret' ?_
    refine Ex_done1 rfl rfl ?_
    exact ⟨_, rfl, by rw [decide_eq_true (Or.inl c1)], rfl⟩
  · by_cases c2 : 16384 < l
    · refine W_seq ?_
      refine W_region ?_
      refine L_assign rfl rfl ?_
      refine RL_then ?_
      refine W_seq ?_
      refine W_region ?_
      refine L_move rfl rfl ?_
      refine L_len rfl Try.underlying27 rfl ?_
      first | refine L_gtr rfl rfl rfl (dtrue (by omega)) ?_ | refine L_gtr rfl rfl rfl (dfalse (by omega)) ?_ | refine L_gtr rfl rfl rfl rfl ?_
      refine L_move rfl rfl ?_
      first | (refine RL_want rfl rfl ?_; refine L_move rfl rfl ?_) | refine RL_skip rfl rfl rfl rfl ?_ | refine RL_skipU rfl rfl rfl ?_
      first | (refine RL_want rfl rfl ?_; refine L_len rfl Try.underlying27 rfl ?_) | refine RL_skip rfl rfl rfl rfl ?_ | refine RL_skipU rfl rfl rfl ?_
      first | (refine RL_want rfl rfl ?_; (first | refine L_gtr rfl rfl rfl (dtrue (by omega)) ?_ | refine L_gtr rfl rfl rfl (dfalse (by omega)) ?_ | refine L_gtr rfl rfl rfl rfl ?_)) | refine RL_skip rfl rfl rfl rfl ?_ | refine RL_skipU rfl rfl rfl ?_
      first | refine L_pick_t rfl rfl rfl ?_ | refine L_pick_f rfl rfl rfl ?_
      refine L_move rfl rfl ?_
      first | (refine RL_want rfl rfl ?_; refine L_move rfl rfl ?_) | refine RL_skip rfl rfl rfl rfl ?_ | refine RL_skipU rfl rfl rfl ?_
      first | (refine RL_want rfl rfl ?_; refine L_len rfl Try.underlying27 rfl ?_) | refine RL_skip rfl rfl rfl rfl ?_ | refine RL_skipU rfl rfl rfl ?_
      first | (refine RL_want rfl rfl ?_; refine L_move rfl rfl ?_) | refine RL_skip rfl rfl rfl rfl ?_ | refine RL_skipU rfl rfl rfl ?_
      first | (refine RL_want rfl rfl ?_; refine L_len rfl Try.underlying27 rfl ?_) | refine RL_skip rfl rfl rfl rfl ?_ | refine RL_skipU rfl rfl rfl ?_
      first | (refine RL_want rfl rfl ?_; (first | refine L_mul rfl rfl rfl (wrp_i64 (by omega)) ?_ | refine L_mul rfl rfl rfl rfl ?_)) | refine RL_skip rfl rfl rfl rfl ?_ | refine RL_skipU rfl rfl rfl ?_
      first | (refine RL_want rfl rfl ?_; (first | refine L_gtr rfl rfl rfl (dtrue (by omega)) ?_ | refine L_gtr rfl rfl rfl (dfalse (by omega)) ?_ | refine L_gtr rfl rfl rfl rfl ?_)) | refine RL_skip rfl rfl rfl rfl ?_ | refine RL_skipU rfl rfl rfl ?_
      first | refine L_pick_t rfl rfl rfl ?_ | refine L_pick_f rfl rfl rfl ?_
      refine L_assign rfl rfl ?_
      refine RL_then ?_
      refine W_ret' ?_
      refine Ex_done1 rfl rfl ?_
      exact ⟨_, rfl, by rw [decide_eq_true (Or.inr (Or.inl c2))], rfl⟩
    · by_cases c3 : 16777216 < N
      · refine W_seq ?_
        refine W_region ?_
        refine L_assign rfl rfl ?_
        refine RL_then ?_
        refine W_seq ?_
        refine W_region ?_
        refine L_move rfl rfl ?_
        refine L_len rfl Try.underlying27 rfl ?_
        first | refine L_gtr rfl rfl rfl (dtrue (by omega)) ?_ | refine L_gtr rfl rfl rfl (dfalse (by omega)) ?_ | refine L_gtr rfl rfl rfl rfl ?_
        refine L_move rfl rfl ?_
        first | (refine RL_want rfl rfl ?_; refine L_move rfl rfl ?_) | refine RL_skip rfl rfl rfl rfl ?_ | refine RL_skipU rfl rfl rfl ?_
        first | (refine RL_want rfl rfl ?_; refine L_len rfl Try.underlying27 rfl ?_) | refine RL_skip rfl rfl rfl rfl ?_ | refine RL_skipU rfl rfl rfl ?_
        first | (refine RL_want rfl rfl ?_; (first | refine L_gtr rfl rfl rfl (dtrue (by omega)) ?_ | refine L_gtr rfl rfl rfl (dfalse (by omega)) ?_ | refine L_gtr rfl rfl rfl rfl ?_)) | refine RL_skip rfl rfl rfl rfl ?_ | refine RL_skipU rfl rfl rfl ?_
        first | refine L_pick_t rfl rfl rfl ?_ | refine L_pick_f rfl rfl rfl ?_
        refine L_move rfl rfl ?_
        first | (refine RL_want rfl rfl ?_; refine L_move rfl rfl ?_) | refine RL_skip rfl rfl rfl rfl ?_ | refine RL_skipU rfl rfl rfl ?_
        first | (refine RL_want rfl rfl ?_; refine L_len rfl Try.underlying27 rfl ?_) | refine RL_skip rfl rfl rfl rfl ?_ | refine RL_skipU rfl rfl rfl ?_
        first | (refine RL_want rfl rfl ?_; refine L_move rfl rfl ?_) | refine RL_skip rfl rfl rfl rfl ?_ | refine RL_skipU rfl rfl rfl ?_
        first | (refine RL_want rfl rfl ?_; refine L_len rfl Try.underlying27 rfl ?_) | refine RL_skip rfl rfl rfl rfl ?_ | refine RL_skipU rfl rfl rfl ?_
        first | (refine RL_want rfl rfl ?_; (first | refine L_mul rfl rfl rfl (wrp_i64 (by omega)) ?_ | refine L_mul rfl rfl rfl rfl ?_)) | refine RL_skip rfl rfl rfl rfl ?_ | refine RL_skipU rfl rfl rfl ?_
        first | (refine RL_want rfl rfl ?_; (first | refine L_gtr rfl rfl rfl (dtrue (by omega)) ?_ | refine L_gtr rfl rfl rfl (dfalse (by omega)) ?_ | refine L_gtr rfl rfl rfl rfl ?_)) | refine RL_skip rfl rfl rfl rfl ?_ | refine RL_skipU rfl rfl rfl ?_
        first | refine L_pick_t rfl rfl rfl ?_ | refine L_pick_f rfl rfl rfl ?_
        refine L_assign rfl rfl ?_
        refine RL_then ?_
        refine W_ret' ?_
        refine Ex_done1 rfl rfl ?_
        exact ⟨_, rfl, by rw [decide_eq_true (Or.inr (Or.inr c3))], rfl⟩
      · refine W_seq ?_
        refine W_region ?_
        refine L_assign rfl rfl ?_
        refine RL_then ?_
        refine W_seq ?_
        refine W_region ?_
        refine L_move rfl rfl ?_
        refine L_len rfl Try.underlying27 rfl ?_
        first | refine L_gtr rfl rfl rfl (dtrue (by omega)) ?_ | refine L_gtr rfl rfl rfl (dfalse (by omega)) ?_ | refine L_gtr rfl rfl rfl rfl ?_
        refine L_move rfl rfl ?_
        first | (refine RL_want rfl rfl ?_; refine L_move rfl rfl ?_) | refine RL_skip rfl rfl rfl rfl ?_ | refine RL_skipU rfl rfl rfl ?_
        first | (refine RL_want rfl rfl ?_; refine L_len rfl Try.underlying27 rfl ?_) | refine RL_skip rfl rfl rfl rfl ?_ | refine RL_skipU rfl rfl rfl ?_
        first | (refine RL_want rfl rfl ?_; (first | refine L_gtr rfl rfl rfl (dtrue (by omega)) ?_ | refine L_gtr rfl rfl rfl (dfalse (by omega)) ?_ | refine L_gtr rfl rfl rfl rfl ?_)) | refine RL_skip rfl rfl rfl rfl ?_ | refine RL_skipU rfl rfl rfl ?_
        first | refine L_pick_t rfl rfl rfl ?_ | refine L_pick_f rfl rfl rfl ?_
        refine L_move rfl rfl ?_
        first | (refine RL_want rfl rfl ?_; refine L_move rfl rfl ?_) | refine RL_skip rfl rfl rfl rfl ?_ | refine RL_skipU rfl rfl rfl ?_
        first | (refine RL_want rfl rfl ?_; refine L_len rfl Try.underlying27 rfl ?_) | refine RL_skip rfl rfl rfl rfl ?_ | refine RL_skipU rfl rfl rfl ?_
        first | (refine RL_want rfl rfl ?_; refine L_move rfl rfl ?_) | refine RL_skip rfl rfl rfl rfl ?_ | refine RL_skipU rfl rfl rfl ?_
        first | (refine RL_want rfl rfl ?_; refine L_len rfl Try.underlying27 rfl ?_) | refine RL_skip rfl rfl rfl rfl ?_ | refine RL_skipU rfl rfl rfl ?_
        first | (refine RL_want rfl rfl ?_; (first | refine L_mul rfl rfl rfl (wrp_i64 (by omega)) ?_ | refine L_mul rfl rfl rfl rfl ?_)) | refine RL_skip rfl rfl rfl rfl ?_ | refine RL_skipU rfl rfl rfl ?_
        first | (refine RL_want rfl rfl ?_; (first | refine L_gtr rfl rfl rfl (dtrue (by omega)) ?_ | refine L_gtr rfl rfl rfl (dfalse (by omega)) ?_ | refine L_gtr rfl rfl rfl rfl ?_)) | refine RL_skip rfl rfl rfl rfl ?_ | refine RL_skipU rfl rfl rfl ?_
        first | refine L_pick_t rfl rfl rfl ?_ | refine L_pick_f rfl rfl rfl ?_
        refine L_assign rfl rfl ?_
        refine RL_then ?_
        refine W_ret' ?_
        refine Ex_done1 rfl rfl ?_
        exact ⟨_, rfl, by rw [decide_eq_false (by omega)], rfl⟩
theorem turned_ok (a : Option Addr) (k c : Nat) (zs : CL) (w0 : World) (hz : SlC w0 a (cl zs)) (hk : zs.length = k) (hk2 : k ≤ 1000000) :
    Ret Try.prog 32 [.slice a k c] w0 fun v w' => ∃ g, v = .slice (some ⟨g, 0, none⟩) k k ∧ HS w0 w' [(g, Row 28 (cl (zs.map cjF)))] ∧ w0.heap.size ≤ g := by
  refine Ret.start fun w hs => ?_
  refine calls_of_W Try.func32 rfl rfl rfl ?_
  refine W_seq ?_
  refine W_region ?_
  refine L_assign rfl rfl ?_
  refine RL_then ?_
  refine W_seq ?_
  refine W_region ?_
  refine L_move rfl rfl ?_
  refine L_len rfl Try.underlying27 rfl ?_
  refine L_make1 (l := k) (c := k) rfl hs Try.underlying27 Try.ti28 rfl rfl rfl rfl (Nat.le_refl _) (by omega) (by omega) rfl ?_
  intro g w hg hng hs
  replace hs : HS w0 w [(g, Row 28 (cl (List.replicate k (0, 0))))] := by simpa [cl] using hs
  refine L_assign rfl rfl ?_
  refine RL_then ?_
  refine W_seq ?_
  refine W_seq ?_
  refine W_region ?_
  refine L_move rfl rfl ?_
  refine L_len rfl Try.underlying27 rfl ?_
  refine L_move rfl rfl ?_
  refine RL_then ?_
  refine W_block ?_
  refine W_loop3 (fun (i : Nat) (os : CL) (w : World) => [(3, .slice (some ⟨g, 0, none⟩) k k), (9, .slice a k c), (10, .int .i64 k), (11, .int .i64 i)]) (fun (i : Nat) (os : CL) (w : World) => w) (fun (i : Nat) (os : CL) (w : World) => (i ≤ k) ∧ (os.length = k) ∧ (∀ q, q < i → os.getD q (0, 0) = cjF (zs.getD q (0, 0))) ∧ (HS w0 w [(g, Row 28 (cl os))])) (fun (i : Nat) (os : CL) (w : World) => k - i) (0) (List.replicate k (0, 0)) (w) (is := [3, 9, 10, 11]) rfl rfl ?_ ?_
  · exact ⟨Nat.zero_le _, by simp, fun _ h => absurd h (Nat.not_lt_zero _), hs⟩
  · clear hs
    intro i os w hI
    show W _ _ _ _ [(3, .slice (some ⟨g, 0, none⟩) k k), (9, .slice a k c), (10, .int .i64 k), (11, .int .i64 i)] w
    obtain ⟨hi, hol, ho, hs⟩ := hI
    by_cases hlt : i < k
    · have hao := hz.ao (by rw [cl_length]; omega)
      refine W_seq ?_
      refine W_region ?_
      first | refine L_lss rfl rfl rfl (dtrue (by omega)) ?_ | refine L_lss rfl rfl rfl (dfalse (by omega)) ?_ | refine L_lss rfl rfl rfl rfl ?_
      refine RL_then ?_
      refine W_seq ?_
      refine W_if_true rfl ?_
      refine W_skip' ?_
      refine Nx_then ?_
      refine W_seq ?_
      refine W_block ?_
      refine W_seq ?_
      refine W_region ?_
      refine L_move rfl rfl ?_
      refine L_idx1 rfl Try.underlying27 Try.ti28 rfl rfl (by with_reducible first | exact natc_k _ | exact natc_a1 _ | exact natc_0 | exact natc_1 | exact natc_2 | exact natc_s1 _ (by omega) | exact natc_a2 _ | exact natc_add _ _ | exact natc_mul _ _ | exact natc (by omega)) (by omega) hao ?_
      refine L_load rfl Try.one28 rfl (by exact (hz.old hs (Own.cons hg Own.nil)).get (cl_get (by omega))) ?_
      refine L_assign rfl rfl ?_
      refine L_assign rfl rfl ?_
      refine RL_then ?_
      refine W_region ?_
      refine L_move rfl rfl ?_
      refine L_move rfl rfl ?_
      refine L_move rfl rfl ?_
      refine L_call rfl Try.fun38 rfl (conj_ok _ _ w) ?_
      rintro _ w ⟨rfl, rfl⟩
      refine L_idx1 rfl Try.underlying27 Try.ti28 rfl rfl (by with_reducible first | exact natc_k _ | exact natc_a1 _ | exact natc_0 | exact natc_1 | exact natc_2 | exact natc_s1 _ (by omega) | exact natc_a2 _ | exact natc_add _ _ | exact natc_mul _ _ | exact natc (by omega)) (by omega) rfl ?_
      refine L_store hs (i := 0) rfl Try.ti28 rfl rfl (by first | rfl | exact add_lit0 _ _ | exact Addr.add_lit ..) (by simp; omega) rfl ?_
      intro w hs
      try dsimp only [List.set_cons_succ, List.set_cons_zero, List.cons_append, List.nil_append] at hs
      refine RL_nil' ?_
      refine Nx_block ?_
      refine Nx_then ?_
      refine W_region ?_
      first | refine L_add rfl rfl rfl (wrp_i64 (by omega)) ?_ | refine L_add rfl rfl rfl rfl ?_
      refine L_move rfl rfl ?_
      refine RL_nil' ?_
      rw [cl_set1] at hs
      refine Nx_loopP (i + 1, os.set i (cjF (zs.getD i (0, 0))), _) (is := [3, 9, 10, 11]) (I' := (fun (i : Nat) (os : CL) (w : World) => (i ≤ k) ∧ (os.length = k) ∧ (∀ q, q < i → os.getD q (0, 0) = cjF (zs.getD q (0, 0))) ∧ (HS w0 w [(g, Row 28 (cl os))])) (i + 1) (os.set i (cjF (zs.getD i (0, 0)))) (_)) rfl rfl rfl ?_ ?_
      · refine ⟨by omega, by simp [hol], fun q hq => ?_, hs⟩
        rw [czset (by omega)]
        by_cases hqi : q = i
        · rw [if_pos hqi, hqi]
        · rw [if_neg hqi]; exact ho q (by omega)
      · omega
    · obtain rfl : k = i := by omega
      refine W_seq ?_
      refine W_region ?_
      first | refine L_lss rfl rfl rfl (dtrue (by omega)) ?_ | refine L_lss rfl rfl rfl (dfalse (by omega)) ?_ | refine L_lss rfl rfl rfl rfl ?_
      refine RL_then ?_
      refine W_seq ?_
      refine W_if_false rfl ?_
      refine W_exit' ?_
      refine Ex_then_exit ?_
      refine Ex_loop_exit ?_
      refine Ex_block_hit ?_
      refine Nx_then ?_
      refine W_seq ?_
      refine W_region ?_
      refine L_move rfl rfl ?_
      refine L_assign rfl rfl ?_
      refine RL_then ?_
      refine W_ret' ?_
      refine Ex_done1 rfl rfl ?_
      have e : os = zs.map cjF := by
        apply List.ext_getElem
        · simp; omega
        · intro q h1 h2
          have := ho q (by omega)
          simp [List.getD, h1, show q < zs.length by omega] at this
          simpa using this
      exact ⟨_, rfl, g, rfl, by rw [← e]; exact hs, hg⟩
/-- products, in turn -/
def mulF (a b : Nat × Nat) : Nat × Nat := (fop .sub (fop .mul a.1 b.1) (fop .mul a.2 b.2), fop .add (fop .mul a.1 b.2) (fop .mul a.2 b.1))
def atL (zs ts : CL) : CL := (List.range (min zs.length ts.length)).map fun q => mulF (zs.getD q (0, 0)) (ts.getD q (0, 0))
theorem atL_len (zs ts : CL) : (atL zs ts).length = min zs.length ts.length := by simp [atL]
theorem atL_get {zs ts : CL} {q : Nat} (h : q < min zs.length ts.length) : (atL zs ts).getD q (0, 0) = mulF (zs.getD q (0, 0)) (ts.getD q (0, 0)) := by
  simp only [atL, List.getD, List.getElem?_map]
  rw [List.getElem?_eq_getElem (by simpa using h)]
  simp
theorem cn_mulF (a b : Nat × Nat) : cn (mulF a b).1 = (mulF a b).1 ∧ cn (mulF a b).2 = (mulF a b).2 := ⟨cn_fop .., cn_fop ..⟩
theorem at2_ok (a b : Option Addr) (k l c d : Nat) (zs ts : CL) (w0 : World) (hz : SlC w0 a (cl zs)) (hk : zs.length = k) (ht : SlC w0 b (cl ts)) (hl : ts.length = l) (hk2 : k ≤ 1000000) (hl2 : l ≤ 1000000) :
    Ret Try.prog 33 [.slice a k c, .slice b l d] w0 fun v w' => ∃ re im, v = .complex .f64 re im ∧ HS w0 w' [] ∧ (0 < min k l → cn re = cn (sumN (atL zs ts) (min k l - 1)).1 ∧ cn im = cn (sumN (atL zs ts) (min k l - 1)).2) := by
  refine Ret.start fun w hs => ?_
  obtain ⟨m, hm⟩ : ∃ m, m = min k l := ⟨_, rfl⟩
  have hmm : (if (k : Int) > (l : Int) then (l : Int) else (k : Int)) = (m : Int) := by split <;> omega
  rw [← hm]
  refine calls_of_W Try.func33 rfl rfl rfl ?_
  refine W_seq ?_
  refine W_region ?_
  refine L_assign rfl rfl ?_
  refine RL_then ?_
  refine W_seq ?_
  refine W_region ?_
  refine L_assign rfl rfl ?_
  refine RL_then ?_
  refine W_seq ?_
  refine W_seq ?_
  refine W_region ?_
  refine L_move rfl rfl ?_
  refine L_len rfl Try.underlying27 rfl ?_
  refine L_move rfl rfl ?_
  refine L_len rfl Try.underlying27 rfl ?_
  refine RL_val rfl (R_minI rfl rfl hmm) ?_
  refine L_move rfl rfl ?_
  refine RL_then ?_
  refine W_block ?_
  refine W_loop4 (fun (i : Nat) (re : Nat) (im : Nat) (w : World) => [(0, .slice a k c), (1, .slice b l d), (5, .complex .f64 re im), (12, .int .i64 m), (13, .int .i64 i)]) (fun (i : Nat) (re : Nat) (im : Nat) (w : World) => w) (fun (i : Nat) (re : Nat) (im : Nat) (w : World) => (i ≤ m) ∧ (0 < i → cn re = cn (sumN (atL zs ts) (i - 1)).1 ∧ cn im = cn (sumN (atL zs ts) (i - 1)).2) ∧ (HS w0 w [])) (fun (i : Nat) (re : Nat) (im : Nat) (w : World) => m - i) (0) (0) (0) (w) (is := [0, 1, 5, 12, 13]) rfl rfl ?_ ?_
  · exact ⟨Nat.zero_le _, fun h => absurd h (Nat.lt_irrefl _), hs⟩
  · clear hs
    intro i re im w hI
    show W _ _ _ _ [(0, .slice a k c), (1, .slice b l d), (5, .complex .f64 re im), (12, .int .i64 m), (13, .int .i64 i)] w
    obtain ⟨hi, hsum, hs⟩ := hI
    by_cases hlt : i < m
    · have ha := hz.ao (by rw [cl_length]; omega)
      have hb := ht.ao (by rw [cl_length]; omega)
      refine W_seq ?_
      refine W_region ?_
      first | refine L_lss rfl rfl rfl (dtrue (by omega)) ?_ | refine L_lss rfl rfl rfl (dfalse (by omega)) ?_ | refine L_lss rfl rfl rfl rfl ?_
      refine RL_then ?_
      refine W_seq ?_
      refine W_if_true rfl ?_
      refine W_skip' ?_
      refine Nx_then ?_
      refine W_seq ?_
      refine W_block ?_
      refine W_seq ?_
      refine W_region ?_
      refine L_move rfl rfl ?_
      refine L_assign rfl rfl ?_
      refine RL_then ?_
      refine W_seq ?_
      refine W_pht [0, 1, 2, 4, 5, 6] [3, 7] [8, 9] (fun _ _ _ => False) Try.mixed (by kernel_rfl) (fun _ _ _ _ _ h => h) hs ?_
      refine PL_val rfl (fun w => R_move rfl) ?_
      refine PL_val rfl (fun w => R_move rfl) ?_
      refine PL_val rfl (fun w => R_idx1 Try.underlying27 Try.ti28 rfl rfl (by with_reducible first | exact natc_k _ | exact natc_a1 _ | exact natc_0 | exact natc_1 | exact natc_2 | exact natc_s1 _ (by omega) | exact natc_a2 _ | exact natc_add _ _ | exact natc_mul _ _ | exact natc (by omega)) (by omega) ha) ?_
      refine PL_val rfl (fun w => R_move rfl) ?_
      refine PL_val rfl (fun w => R_move rfl) ?_
      refine PL_val rfl (fun w => R_idx1 Try.underlying27 Try.ti28 rfl rfl (by with_reducible first | exact natc_k _ | exact natc_a1 _ | exact natc_0 | exact natc_1 | exact natc_2 | exact natc_s1 _ (by omega) | exact natc_a2 _ | exact natc_add _ _ | exact natc_mul _ _ | exact natc (by omega)) (by omega) hb) ?_
      refine PL_end ?_
      refine HL_val rfl (fun w hs => R_load Try.one28 rfl (by exact (hz.old hs Own.nil).get (cl_get (by omega)))) ?_
      refine HL_val rfl (fun w hs => R_load Try.one28 rfl (by exact (ht.old hs Own.nil).get (cl_get (by omega)))) ?_
      refine HL_tail ?_
      intro w hs
      refine L_call rfl Try.fun18 rfl (mul_ok _ _ _ _ w) ?_
      rintro _ w1 ⟨pr, pi, rfl, hs', hpr, hpi⟩
      replace hs := hs.nil hs'
      clear hs'
      have hg := atL_get (zs := zs) (ts := ts) (q := i) (by omega)
      have e1 : cn pr = cn ((atL zs ts).getD i (0, 0)).1 := by rw [hg]; exact hpr.trans (cn_mulF _ _).1.symm
      have e2 : cn pi = cn ((atL zs ts).getD i (0, 0)).2 := by rw [hg]; exact hpi.trans (cn_mulF _ _).2.symm
      by_cases h0 : i = 0
      · refine L_assign rfl rfl ?_
        refine RL_then ?_
        refine W_seq ?_
        refine W_region ?_
        refine L_move rfl rfl ?_
        first | refine L_eql rfl rfl rfl (dtrue (by omega)) ?_ | refine L_eql rfl rfl rfl (dfalse (by omega)) ?_ | refine L_eql rfl rfl rfl rfl ?_
        refine RL_then ?_
        refine W_if_true rfl ?_
        refine W_region ?_
        refine L_move rfl rfl ?_
        refine L_assign rfl rfl ?_
        refine RL_nil' ?_
        refine Nx_block ?_
        refine Nx_then ?_
        refine W_region ?_
        first | refine L_add rfl rfl rfl (wrp_i64 (by omega)) ?_ | refine L_add rfl rfl rfl rfl ?_
        refine L_move rfl rfl ?_
        refine RL_nil' ?_
        subst h0
        refine Nx_loopP (0 + 1, pr, pi, w1) (is := [0, 1, 5, 12, 13]) (I' := (fun (i : Nat) (re : Nat) (im : Nat) (w : World) => (i ≤ m) ∧ (0 < i → cn re = cn (sumN (atL zs ts) (i - 1)).1 ∧ cn im = cn (sumN (atL zs ts) (i - 1)).2) ∧ (HS w0 w [])) (0 + 1) (pr) (pi) (w1)) rfl rfl rfl ?_ ?_
        · exact ⟨by omega, fun _ => ⟨e1, e2⟩, hs⟩
        · omega
      · refine L_assign rfl rfl ?_
        refine RL_then ?_
        refine W_seq ?_
        refine W_region ?_
        refine L_move rfl rfl ?_
        first | refine L_eql rfl rfl rfl (dtrue (by omega)) ?_ | refine L_eql rfl rfl rfl (dfalse (by omega)) ?_ | refine L_eql rfl rfl rfl rfl ?_
        refine RL_then ?_
        refine W_if_false rfl ?_
        refine W_region ?_
        refine L_move rfl rfl ?_
        refine L_move rfl rfl ?_
        refine L_csum rfl (op := .add) (by simp) rfl rfl ?_
        intro r30 s30 k30 hr30 hi30
        try replace hs := hs.drewN k30
        refine L_assign rfl rfl ?_
        refine RL_nil' ?_
        refine Nx_block ?_
        refine Nx_then ?_
        refine W_region ?_
        first | refine L_add rfl rfl rfl (wrp_i64 (by omega)) ?_ | refine L_add rfl rfl rfl rfl ?_
        refine L_move rfl rfl ?_
        refine RL_nil' ?_
        obtain ⟨s1, s2⟩ := hsum (by omega)
        refine Nx_loopP (i + 1, r30, s30, _) (is := [0, 1, 5, 12, 13]) (I' := (fun (i : Nat) (re : Nat) (im : Nat) (w : World) => (i ≤ m) ∧ (0 < i → cn re = cn (sumN (atL zs ts) (i - 1)).1 ∧ cn im = cn (sumN (atL zs ts) (i - 1)).2) ∧ (HS w0 w [])) (i + 1) (r30) (s30) (_)) rfl rfl rfl ?_ ?_
        · refine ⟨by omega, fun _ => ?_, hs⟩
          obtain ⟨j, rfl⟩ : ∃ j, i = j + 1 := ⟨i - 1, by omega⟩
          exact ⟨(Fs.cn hr30).trans ((fop_congr s1 e1).trans (cn_fop ..).symm), (Fs.cn hi30).trans ((fop_congr s2 e2).trans (cn_fop ..).symm)⟩
        · omega
    · obtain rfl : m = i := by omega
      refine W_seq ?_
      refine W_region ?_
      first | refine L_lss rfl rfl rfl (dtrue (by omega)) ?_ | refine L_lss rfl rfl rfl (dfalse (by omega)) ?_ | refine L_lss rfl rfl rfl rfl ?_
      refine RL_then ?_
      refine W_seq ?_
      refine W_if_false rfl ?_
      refine W_exit' ?_
      refine Ex_then_exit ?_
      refine Ex_loop_exit ?_
      refine Ex_block_hit ?_
      refine Nx_then ?_
      refine W_seq ?_
      refine W_region ?_
      refine L_move rfl rfl ?_
      refine L_assign rfl rfl ?_
      refine RL_then ?_
      refine W_ret' ?_
      refine Ex_done1 rfl rfl ?_
      exact ⟨_, rfl, _, _, rfl, hs, hsum⟩
end Go.Proofs.Ytihhloeakenfgaa
