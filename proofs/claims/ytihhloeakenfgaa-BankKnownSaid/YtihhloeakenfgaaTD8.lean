/-
  A part of the proof: what functions that the statement reaches do, or a plain law on what they do. Each theorem holds under its own premises alone.
-/
import Derived.Test.YtihhloeakenfgaaTD7
namespace Go.Proofs.Ytihhloeakenfgaa
open Go Go.Lk
theorem chk_each {rows : List CL} {e : Nat} (h : chkF rows e = 0) (he : 0 < e) : rows.length * widC rows ≤ 16777216 / e := by
  have hq : Int.tdiv 16777216 (e : Int) = ((16777216 / e : Nat) : Int) := rfl
  have hm : (rows.length : Int) * (widC rows : Int) = ((rows.length * widC rows : Nat) : Int) := by simp
  unfold chkF at h
  split at h
  · cases h
  · split at h
    · cases h
    · rename_i h2
      refine Nat.le_of_not_lt fun hne => h2 (.inr (.inr (.inr ⟨by omega, ?_⟩)))
      rw [hq, hm]
      exact Int.ofNat_lt.2 hne
theorem chk0_ne5 {rows : List CL} {e : Int} (h : ∀ i, i < rows.length → (rows.getD i []).length = widC rows) : chkF rows e ≠ 5 := by
  unfold chkF
  rw [if_neg (fun ⟨i, hi, hne⟩ => hne (h i hi))]
  split <;> decide
theorem compress_none (a b : Option Addr) (k cp cq : Nat) (rows : List CL) (rvs : List Value) (w0 : World) (hr : RowsC w0 a rows rvs) (hk : rows.length = k) (hk2 : k ≤ 1000000) (hl : ∀ i, i < k → (rows.getD i []).length ≤ 1000000) (hc : chkF rows 0 ≠ 5) :
    Ret Try.prog 11 [.slice a k cp, .slice b 0 cq] w0 fun v w' => v = .tuple #[.slice none 0 0, .int .i64 2] ∧ HS w0 w' [] := by
  refine Ret.start fun w hs => ?_
  refine calls_of_W Try.func11 rfl rfl rfl ?_
  refine W_seq ?_
  refine W_region ?_
  refine L_assign rfl rfl ?_
  refine L_assign rfl rfl ?_
  refine RL_then ?_
  refine W_seq ?_
  refine W_region ?_
  refine L_move rfl rfl ?_
  refine RL_val rfl (R_makeFunc rfl rfl) ?_
  refine L_assign rfl rfl ?_
  refine RL_then ?_
  refine W_seq ?_
  refine W_seq ?_
  refine W_region ?_
  refine L_move rfl rfl ?_
  refine L_callV rfl Try.fun21 rfl rfl (check_ok a k cp 0 rows rvs w (hr.old hs Own.nil) hk hk2 hl (by decide)) ?_
  rintro _ w1 ⟨rfl, hs'⟩
  replace hs := hs.nil hs'
  clear hs'
  refine L_assign rfl rfl ?_
  refine RL_then ?_
  refine W_seq ?_
  refine W_region ?_
  refine L_move rfl rfl ?_
  first | refine L_eql rfl rfl rfl (dtrue (by omega)) ?_ | refine L_eql rfl rfl rfl (dfalse (by omega)) ?_ | refine L_eql rfl rfl rfl rfl ?_
  refine RL_then ?_
  refine W_if_false rfl ?_
  refine W_skip' ?_
  refine Nx_then ?_
  refine W_seq ?_
  refine W_seq ?_
  refine W_region ?_
  refine L_move rfl rfl ?_
  refine L_len rfl Try.underlying27 rfl ?_
  first | refine L_eql rfl rfl rfl (dtrue (by omega)) ?_ | refine L_eql rfl rfl rfl (dfalse (by omega)) ?_ | refine L_eql rfl rfl rfl rfl ?_
  refine RL_then ?_
  refine W_if_true rfl ?_
  refine W_seq ?_
  refine W_region ?_
  refine L_assign rfl rfl ?_
  refine L_assign rfl rfl ?_
  refine RL_then ?_
  refine W_ret' ?_
  refine Ex_then_ret ?_
  refine Ex_done2 rfl rfl rfl ?_
  exact ⟨_, rfl, rfl, hs⟩
theorem compress_long (a b : Option Addr) (k cp lp cq : Nat) (rows : List CL) (rvs : List Value) (w0 : World) (hr : RowsC w0 a rows rvs) (hk : rows.length = k) (hk2 : k ≤ 1000000) (hl : ∀ i, i < k → (rows.getD i []).length ≤ 1000000) (hc : chkF rows 0 ≠ 5) (hlp : 1 ≤ lp ∧ lp ≤ 1000000) (hc2 : chkF rows lp ≠ 0) :
    Ret Try.prog 11 [.slice a k cp, .slice b lp cq] w0 fun v w' => v = .tuple #[.slice none 0 0, .int .i64 3] ∧ HS w0 w' [] := by
  refine Ret.start fun w hs => ?_
  refine calls_of_W Try.func11 rfl rfl rfl ?_
  refine W_seq ?_
  refine W_region ?_
  refine L_assign rfl rfl ?_
  refine L_assign rfl rfl ?_
  refine RL_then ?_
  refine W_seq ?_
  refine W_region ?_
  refine L_move rfl rfl ?_
  refine RL_val rfl (R_makeFunc rfl rfl) ?_
  refine L_assign rfl rfl ?_
  refine RL_then ?_
  refine W_seq ?_
  refine W_seq ?_
  refine W_region ?_
  refine L_move rfl rfl ?_
  refine L_callV rfl Try.fun21 rfl rfl (check_ok a k cp 0 rows rvs w (hr.old hs Own.nil) hk hk2 hl (by decide)) ?_
  rintro _ w1 ⟨rfl, hs'⟩
  replace hs := hs.nil hs'
  clear hs'
  refine L_assign rfl rfl ?_
  refine RL_then ?_
  refine W_seq ?_
  refine W_region ?_
  refine L_move rfl rfl ?_
  first | refine L_eql rfl rfl rfl (dtrue (by omega)) ?_ | refine L_eql rfl rfl rfl (dfalse (by omega)) ?_ | refine L_eql rfl rfl rfl rfl ?_
  refine RL_then ?_
  refine W_if_false rfl ?_
  refine W_skip' ?_
  refine Nx_then ?_
  refine W_seq ?_
  refine W_seq ?_
  refine W_region ?_
  refine L_move rfl rfl ?_
  refine L_len rfl Try.underlying27 rfl ?_
  first | refine L_eql rfl rfl rfl (dtrue (by omega)) ?_ | refine L_eql rfl rfl rfl (dfalse (by omega)) ?_ | refine L_eql rfl rfl rfl rfl ?_
  refine RL_then ?_
  refine W_if_false rfl ?_
  refine W_skip' ?_
  refine Nx_then ?_
  refine W_seq ?_
  refine W_seq ?_
  refine W_region ?_
  refine L_move rfl rfl ?_
  refine L_move rfl rfl ?_
  refine L_len rfl Try.underlying27 rfl ?_
  refine L_callV rfl Try.fun21 rfl rfl (check_ok a k cp lp rows rvs w1 (hr.old hs Own.nil) hk hk2 hl (by omega)) ?_
  rintro _ w1 ⟨rfl, hs'⟩
  replace hs := hs.nil hs'
  clear hs'
  refine L_assign rfl rfl ?_
  refine RL_then ?_
  refine W_seq ?_
  refine W_region ?_
  refine L_move rfl rfl ?_
  first | refine L_neq rfl rfl rfl (dtrue (by omega)) ?_ | refine L_neq rfl rfl rfl (dfalse (by omega)) ?_ | refine L_neq rfl rfl rfl rfl ?_
  refine L_move rfl rfl ?_
  first | (refine RL_want rfl rfl ?_; refine L_move rfl rfl ?_) | refine RL_skip rfl rfl rfl rfl ?_ | refine RL_skipU rfl rfl rfl ?_
  first | (refine RL_want rfl rfl ?_; refine L_len rfl Try.underlying27 rfl ?_) | refine RL_skip rfl rfl rfl rfl ?_ | refine RL_skipU rfl rfl rfl ?_
  first | (refine RL_want rfl rfl ?_; (first | refine L_gtr rfl rfl rfl (dtrue (by omega)) ?_ | refine L_gtr rfl rfl rfl (dfalse (by omega)) ?_ | refine L_gtr rfl rfl rfl rfl ?_)) | refine RL_skip rfl rfl rfl rfl ?_ | refine RL_skipU rfl rfl rfl ?_
  first | refine L_pick_t rfl rfl rfl ?_ | refine L_pick_f rfl rfl rfl ?_
  refine RL_then ?_
  refine W_if_true rfl ?_
  refine W_seq ?_
  refine W_region ?_
  refine L_assign rfl rfl ?_
  refine L_assign rfl rfl ?_
  refine RL_then ?_
  refine W_ret' ?_
  refine Ex_then_ret ?_
  refine Ex_done2 rfl rfl rfl ?_
  exact ⟨_, rfl, rfl, hs⟩
set_option maxHeartbeats 1000000 in
theorem compress_ok (a b : Option Addr) (k cp lp cq n : Nat) (rows : List CL) (rvs : List Value) (ts : CL) (w0 : World) (hr : RowsC w0 a rows rvs) (hk : rows.length = k) (hn : widC rows = n) (ht : SlC w0 b (cl ts)) (htl : ts.length = lp) (hlp : 1 ≤ lp ∧ lp ≤ 16384) (hc0 : chkF rows 0 = 0) (hc2 : chkF rows lp = 0) :
    Ret Try.prog 11 [.slice a k cp, .slice b lp cq] w0 fun v w' => ∃ Bo vs Ms, v = .tuple #[.slice (some ⟨Bo, 0, none⟩) k k, .int .i64 0] ∧ HS w0 w' ((Bo, Row 27 vs) :: Ms) ∧ w0.heap.size ≤ Bo ∧ Own w0 Ms ∧ vs.length = k ∧ ∀ q, q < k → ∃ g os, vs[q]? = some (.slice (some ⟨g, 0, none⟩) n n) ∧ (g, Row 28 (cl os)) ∈ Ms ∧ os.length = n ∧ ∀ d, d < n → MatchR (rows.getD q []) ts os d := by
  refine Ret.start fun w hs => ?_
  obtain ⟨hun, hk256, hn16, hkn⟩ := chk_zero hc0
  have heach := chk_each hc2 (by omega)
  rw [hk] at hun hk256 heach
  rw [hn] at hun hn16 heach
  have hlen : ∀ i, i < k → (rows.getD i []).length ≤ 1000000 := fun i hi => by rw [hun i hi]; omega
  have hnl : 0 < k → n * lp ≤ 16777216 := fun h0 => by
    refine (Nat.le_div_iff_mul_le (by omega)).1 (Nat.le_trans ?_ heach)
    exact Nat.le_mul_of_pos_left n h0
  refine calls_of_W Try.func11 rfl rfl rfl ?_
  refine W_seq ?_
  refine W_region ?_
  refine L_assign rfl rfl ?_
  refine L_assign rfl rfl ?_
  refine RL_then ?_
  refine W_seq ?_
  refine W_region ?_
  refine L_move rfl rfl ?_
  refine RL_val rfl (R_makeFunc rfl rfl) ?_
  refine L_assign rfl rfl ?_
  refine RL_then ?_
  refine W_seq ?_
  refine W_seq ?_
  refine W_region ?_
  refine L_move rfl rfl ?_
  refine L_callV rfl Try.fun21 rfl rfl (check_ok a k cp 0 rows rvs w (hr.old hs Own.nil) hk (by omega) hlen (by decide)) ?_
  rintro _ w1 ⟨rfl, hs'⟩
  replace hs := hs.nil hs'
  clear hs'
  rw [hc0]
  refine L_assign rfl rfl ?_
  refine RL_then ?_
  refine W_seq ?_
  refine W_region ?_
  refine L_move rfl rfl ?_
  first | refine L_eql rfl rfl rfl (dtrue (by omega)) ?_ | refine L_eql rfl rfl rfl (dfalse (by omega)) ?_ | refine L_eql rfl rfl rfl rfl ?_
  refine RL_then ?_
  refine W_if_false rfl ?_
  refine W_skip' ?_
  refine Nx_then ?_
  refine W_seq ?_
  refine W_seq ?_
  refine W_region ?_
  refine L_move rfl rfl ?_
  refine L_len rfl Try.underlying27 rfl ?_
  first | refine L_eql rfl rfl rfl (dtrue (by omega)) ?_ | refine L_eql rfl rfl rfl (dfalse (by omega)) ?_ | refine L_eql rfl rfl rfl rfl ?_
  refine RL_then ?_
  refine W_if_false rfl ?_
  refine W_skip' ?_
  refine Nx_then ?_
  refine W_seq ?_
  refine W_seq ?_
  refine W_region ?_
  refine L_move rfl rfl ?_
  refine L_move rfl rfl ?_
  refine L_len rfl Try.underlying27 rfl ?_
  refine L_callV rfl Try.fun21 rfl rfl (check_ok a k cp lp rows rvs w1 (hr.old hs Own.nil) hk (by omega) hlen (by omega)) ?_
  rintro _ w1 ⟨rfl, hs'⟩
  replace hs := hs.nil hs'
  clear hs'
  rw [hc2]
  refine L_assign rfl rfl ?_
  refine RL_then ?_
  refine W_seq ?_
  refine W_region ?_
  refine L_move rfl rfl ?_
  first | refine L_neq rfl rfl rfl (dtrue (by omega)) ?_ | refine L_neq rfl rfl rfl (dfalse (by omega)) ?_ | refine L_neq rfl rfl rfl rfl ?_
  refine L_move rfl rfl ?_
  first | (refine RL_want rfl rfl ?_; refine L_move rfl rfl ?_) | refine RL_skip rfl rfl rfl rfl ?_ | refine RL_skipU rfl rfl rfl ?_
  first | (refine RL_want rfl rfl ?_; refine L_len rfl Try.underlying27 rfl ?_) | refine RL_skip rfl rfl rfl rfl ?_ | refine RL_skipU rfl rfl rfl ?_
  first | (refine RL_want rfl rfl ?_; (first | refine L_gtr rfl rfl rfl (dtrue (by omega)) ?_ | refine L_gtr rfl rfl rfl (dfalse (by omega)) ?_ | refine L_gtr rfl rfl rfl rfl ?_)) | refine RL_skip rfl rfl rfl rfl ?_ | refine RL_skipU rfl rfl rfl ?_
  first | refine L_pick_t rfl rfl rfl ?_ | refine L_pick_f rfl rfl rfl ?_
  refine RL_then ?_
  refine W_if_false rfl ?_
  refine W_skip' ?_
  refine Nx_then ?_
  refine W_seq ?_
  refine W_region ?_
  refine L_move rfl rfl ?_
  refine L_len rfl Try.underlying39 rfl ?_
  refine L_make1 (l := k) (c := k) rfl hs Try.underlying39 Try.ti27 rfl rfl rfl rfl (Nat.le_refl _) (by omega) (by omega) rfl ?_
  intro Bo w hBo hnBo hs
  replace hs : HS w0 w [(Bo, Row 27 (List.replicate k (.slice none 0 0)))] := hs
  refine L_assign rfl rfl ?_
  refine RL_then ?_
  refine W_seq ?_
  refine W_seq ?_
  refine W_region ?_
  refine L_move rfl rfl ?_
  refine L_len rfl Try.underlying39 rfl ?_
  refine L_move rfl rfl ?_
  refine RL_then ?_
  refine W_block ?_
  refine W_loop4 (fun (i : Nat) (vs : List Value) (Ms : List (Nat × Obj)) (w : World) => [(1, .slice b lp cq), (9, .slice (some ⟨Bo, 0, none⟩) k k), (36, .slice a k cp), (37, .int .i64 k), (38, .int .i64 i)]) (fun (i : Nat) (vs : List Value) (Ms : List (Nat × Obj)) (w : World) => w) (fun (i : Nat) (vs : List Value) (Ms : List (Nat × Obj)) (w : World) => (i ≤ k) ∧ (vs.length = k) ∧ (Own w0 Ms) ∧ (∀ q, q < i → ∃ g os, vs[q]? = some (.slice (some ⟨g, 0, none⟩) n n) ∧ (g, Row 28 (cl os)) ∈ Ms ∧ os.length = n ∧ ∀ d, d < n → MatchR (rows.getD q []) ts os d) ∧ (HS w0 w ((Bo, Row 27 vs) :: Ms))) (fun (i : Nat) (vs : List Value) (Ms : List (Nat × Obj)) (w : World) => k - i) (0) (List.replicate k (.slice none 0 0)) ([]) (w) (is := [1, 9, 36, 37, 38]) rfl rfl ?_ ?_
  · exact ⟨Nat.zero_le _, by simp, Own.nil, fun _ h => absurd h (Nat.not_lt_zero _), hs⟩
  · clear hs
    intro i vs Ms w hI
    show W _ _ _ _ [(1, .slice b lp cq), (9, .slice (some ⟨Bo, 0, none⟩) k k), (36, .slice a k cp), (37, .int .i64 k), (38, .int .i64 i)] w
    obtain ⟨hi, hvl, hOM, hv, hs⟩ := hI
    have hO : Own w0 ((Bo, Row 27 vs) :: Ms) := Own.cons hBo hOM
    by_cases hlt : i < k
    · obtain ⟨ai, ci, g1, g2, g3⟩ := hr.row i (by omega)
      have hri := hun i hlt
      rw [hri] at g1 g2
      have ha1 := hr.sl.ao (by rw [hr.len]; omega)
      refine W_seq ?_
      refine W_region ?_
      first | refine L_lss rfl rfl rfl (dtrue (by omega)) ?_ | refine L_lss rfl rfl rfl (dfalse (by omega)) ?_ | refine L_lss rfl rfl rfl rfl ?_
      refine RL_then ?_
      refine W_seq ?_
      refine W_if_true rfl ?_
      refine W_skip' ?_
      refine Nx_then ?_
      refine W_seq ?_
      refine W_block ?_
      refine W_seq ?_
      refine W_region ?_
      refine L_move rfl rfl ?_
      refine L_idx1 rfl Try.underlying39 Try.ti27 rfl rfl (by with_reducible first | exact natc_k _ | exact natc_a1 _ | exact natc_0 | exact natc_1 | exact natc_2 | exact natc_s1 _ (by omega) | exact natc_a2 _ | exact natc_add _ _ | exact natc_mul _ _ | exact natc (by omega)) (by omega) ha1 ?_
      refine L_load rfl Try.one27 rfl (by exact (hr.sl.old hs hO).get g1) ?_
      refine L_assign rfl rfl ?_
      refine L_assign rfl rfl ?_
      refine RL_then ?_
      refine W_region ?_
      refine L_move rfl rfl ?_
      refine L_move rfl rfl ?_
      refine L_move rfl rfl ?_
      refine L_move rfl rfl ?_
      refine L_call rfl Try.fun24 rfl (match_ok ai b n lp ci cq (rows.getD i []) ts w (g3.old hs hO) hri g2 (ht.old hs hO) htl (by omega) (by omega) (by omega) (hnl (by omega))) ?_
      rintro _ w1 ⟨go, os, N, rfl, hs', hgo, hN, hol, hM⟩
      have hgo0 := Nat.le_trans hs.size hgo
      have hN0 := hN.le hs.size
      replace hs := hs.call hs' (Own.cons hgo hN)
      clear hs'
      replace hs : HS w0 w1 (((Bo, Row 27 vs) :: ((go, Row 28 (cl os)) :: Ms)) ++ N) := hs.mem_perm (perm_by fun c => by simp only [List.map_append, List.map_cons, List.map_nil, List.sum_append, List.sum_cons, List.sum_nil] <;> omega)
      replace hs := hs.dropR hN0
      refine L_move rfl rfl ?_
      refine L_extract rfl rfl rfl ?_
      refine L_extract rfl rfl rfl ?_
      refine L_idx1 rfl Try.underlying39 Try.ti27 rfl rfl (by with_reducible first | exact natc_k _ | exact natc_a1 _ | exact natc_0 | exact natc_1 | exact natc_2 | exact natc_s1 _ (by omega) | exact natc_a2 _ | exact natc_add _ _ | exact natc_mul _ _ | exact natc (by omega)) (by omega) rfl ?_
      refine L_store hs (i := 0) rfl Try.ti27 rfl rfl (by first | rfl | exact add_lit0 _ _ | exact Addr.add_lit ..) (by omega) rfl ?_
      intro w hs
      try dsimp only [List.set_cons_succ, List.set_cons_zero, List.cons_append, List.nil_append] at hs
      refine RL_nil' ?_
      refine Nx_block ?_
      refine Nx_then ?_
      refine W_region ?_
      first | refine L_add rfl rfl rfl (wrp_i64 (by omega)) ?_ | refine L_add rfl rfl rfl rfl ?_
      refine L_move rfl rfl ?_
      refine RL_nil' ?_
      refine Nx_loopP (i + 1, vs.set i (.slice (some ⟨go, 0, none⟩) n n), (go, Row 28 (cl os)) :: Ms, _) (is := [1, 9, 36, 37, 38]) (I' := (fun (i : Nat) (vs : List Value) (Ms : List (Nat × Obj)) (w : World) => (i ≤ k) ∧ (vs.length = k) ∧ (Own w0 Ms) ∧ (∀ q, q < i → ∃ g os, vs[q]? = some (.slice (some ⟨g, 0, none⟩) n n) ∧ (g, Row 28 (cl os)) ∈ Ms ∧ os.length = n ∧ ∀ d, d < n → MatchR (rows.getD q []) ts os d) ∧ (HS w0 w ((Bo, Row 27 vs) :: Ms))) (i + 1) (vs.set i (.slice (some ⟨go, 0, none⟩) n n)) ((go, Row 28 (cl os)) :: Ms) (_)) rfl rfl rfl ?_ ?_
      · refine ⟨by omega, by simp [hvl], Own.cons hgo0 hOM, fun q hq => ?_, hs⟩
        by_cases hqi : q = i
        · subst hqi
          exact ⟨go, os, List.getElem?_set_self (by omega), List.mem_cons_self .., hol, hM⟩
        · obtain ⟨g, os', e1, e2, e3, e4⟩ := hv q (by omega)
          exact ⟨g, os', by rw [List.getElem?_set_ne (Ne.symm hqi)]; exact e1, List.mem_cons_of_mem _ e2, e3, e4⟩
      · omega
    · obtain rfl : k = i := by omega
      refine W_seq ?_
      refine W_region ?_
      first | refine L_lss rfl rfl rfl (dtrue (by omega)) ?_ | refine L_lss rfl rfl rfl (dfalse (by omega)) ?_ | refine L_lss rfl rfl rfl rfl ?_
      refine RL_then ?_
      refine W_seq ?_
      refine W_if_false rfl ?_
      refine W_exit' ?_
      refine Ex_then_exit ?_
      refine Ex_loop_exit ?_
      refine Ex_block_hit ?_
      refine Nx_then ?_
      refine W_seq ?_
      refine W_region ?_
      refine L_move rfl rfl ?_
      refine L_assign rfl rfl ?_
      refine L_assign rfl rfl ?_
      refine RL_then ?_
      refine W_ret' ?_
      refine Ex_done2 rfl rfl rfl ?_
      exact ⟨_, rfl, Bo, vs, Ms, rfl, hs, hBo, hOM, hvl, hv⟩
end Go.Proofs.Ytihhloeakenfgaa
