/-
  A part of the proof: what functions that the statement reaches do, or a plain law on what they do. Each theorem holds under its own premises alone.
-/
import Derived.Test.YtihhloeakenfgaaTD3
namespace Go.Proofs.Ytihhloeakenfgaa
open Go Go.Lk
theorem cl_drop (zs : CL) (d : Nat) : (cl zs).drop d = cl (zs.drop d) := by simp [cl, List.map_drop]
def MatchR (zs ts os : CL) (d : Nat) : Prop := cn (os.getD d (0, 0)).1 = cn (sumN (atL (zs.drop d) (ts.map cjF)) (min (zs.length - d) ts.length - 1)).1 ∧ cn (os.getD d (0, 0)).2 = cn (sumN (atL (zs.drop d) (ts.map cjF)) (min (zs.length - d) ts.length - 1)).2
theorem match_ok (a b : Option Addr) (k l c d : Nat) (zs ts : CL) (w0 : World) (hz : SlC w0 a (cl zs)) (hk : zs.length = k) (hkc : k ≤ c) (ht : SlC w0 b (cl ts)) (hl : ts.length = l) (h1 : 1 ≤ l) (hk2 : k ≤ 16384) (hl2 : l ≤ 16384) (hkl : k * l ≤ 16777216) :
    Ret Try.prog 24 [.slice a k c, .slice b l d] w0 fun v w' => ∃ go os N, v = .tuple #[.slice (some ⟨go, 0, none⟩) k k, .int .i64 0] ∧ HS w0 w' ((go, Row 28 (cl os)) :: N) ∧ w0.heap.size ≤ go ∧ Own w0 N ∧ os.length = k ∧ ∀ d, d < k → MatchR zs ts os d := by
  refine Ret.start fun w hs => ?_
  refine calls_of_W Try.func24 rfl rfl rfl ?_
  refine W_seq ?_
  refine W_region ?_
  refine L_assign rfl rfl ?_
  refine L_assign rfl rfl ?_
  refine RL_then ?_
  refine W_seq ?_
  refine W_block ?_
  refine W_seq ?_
  refine W_region ?_
  refine L_move rfl rfl ?_
  refine L_len rfl Try.underlying27 rfl ?_
  first | refine L_eql rfl rfl rfl (dtrue (by omega)) ?_ | refine L_eql rfl rfl rfl (dfalse (by omega)) ?_ | refine L_eql rfl rfl rfl rfl ?_
  refine L_assign rfl rfl ?_
  refine RL_then ?_
  refine W_if_false rfl ?_
  refine W_seq ?_
  refine W_region ?_
  refine L_move rfl rfl ?_
  refine L_move rfl rfl ?_
  refine L_call rfl Try.fun31 rfl (long_ok a b k l c d (by omega) (by omega) w) ?_
  rintro _ w ⟨rfl, rfl⟩
  rw [decide_eq_false (by omega)]
  refine L_assign rfl rfl ?_
  refine RL_then ?_
  refine W_if_false rfl ?_
  refine W_skip' ?_
  refine Nx_block ?_
  refine Nx_then ?_
  refine W_seq ?_
  refine W_sg Try.mixed ?_
  replace hs := hs.drewN 1
  refine SG_stage [0, 1, 3] [] [] (fun _ _ _ => False) (g' := 4) (by kernel_rfl) (by kernel_rfl) (fun _ _ _ _ _ h => h) hs ?_
  refine PL_val rfl (fun w => R_move rfl) ?_
  refine PL_val rfl (fun w => R_len Try.underlying27 rfl) ?_
  refine PL_val rfl (fun w => R_move rfl) ?_
  refine PL_end ?_
  refine HL_tail ?_
  intro w hs
  refine RL_sg ?_
  refine SG_join (g' := 2) (l' := #[true, true, true, true, true, false, false]) (fun S => ∀ (g : Nat) (go : Nat) (w : World), (HS w0 w [(go, Row 28 (List.replicate k (.complex .f64 0 0))), (g, Row 28 (cl (ts.map cjF)))]) ∧ (w0.heap.size ≤ g ∧ w0.heap.size ≤ go) → S [(0, .slice a k c), (19, .slice (some ⟨go, 0, none⟩) k k), (21, .slice (some ⟨g, 0, none⟩) l l)] w) ?_ ?_
  · intro fin
    refine SG_pick2 (i := 2) (l1 := #[true, true, true, true, false, false, false]) (j := 4) (l2 := #[true, true, false, true, true, false, false]) (by kernel_rfl) (by kernel_rfl) (by kernel_rfl) (by kernel_rfl) ?_ ?_
    · refine L_make1 (l := k) (c := k) rfl hs Try.underlying27 Try.ti28 rfl rfl rfl rfl (Nat.le_refl _) (by omega) (by omega) rfl ?_; intro b19 w hb19 hnb19 hs
      refine RL_sg ?_
      refine SG_pick1 (i := 4) (l1 := #[true, true, true, true, true, false, false]) (by kernel_rfl) (by kernel_rfl) (by kernel_rfl) ?_
      refine L_call rfl Try.fun32 rfl (turned_ok b l d ts _ (by first | exact ht.old hs Own.nil | exact ht.old hs (Own.cons hb19 Own.nil)) hl (by omega)) ?_; rintro _ w ⟨g, rfl, hs', hg⟩; have hg2 := Nat.le_trans hs.size hg; replace hs := hs.call hs' (Own.cons hg Own.nil)
      refine RL_sg ?_
      refine SG_env (fin g b19 w ⟨by first | exact hs | exact hs.mem_perm (List.Perm.swap _ _ _), hg2, hb19⟩) (looks_cons rfl (looks_cons rfl (looks_cons rfl looks_nil)))
    · refine L_call rfl Try.fun32 rfl (turned_ok b l d ts _ (by first | exact ht.old hs Own.nil | exact ht.old hs (Own.cons hb19 Own.nil)) hl (by omega)) ?_; rintro _ w ⟨g, rfl, hs', hg⟩; have hg2 := Nat.le_trans hs.size hg; replace hs := hs.call hs' (Own.cons hg Own.nil)
      refine RL_sg ?_
      refine SG_pick1 (i := 2) (l1 := #[true, true, true, true, true, false, false]) (by kernel_rfl) (by kernel_rfl) (by kernel_rfl) ?_
      refine L_make1 (l := k) (c := k) rfl hs Try.underlying27 Try.ti28 rfl rfl rfl rfl (Nat.le_refl _) (by omega) (by omega) rfl ?_; intro b19 w hb19 hnb19 hs
      refine RL_sg ?_
      refine SG_env (fin g b19 w ⟨by first | exact hs | exact hs.mem_perm (List.Perm.swap _ _ _), hg2, hb19⟩) (looks_cons rfl (looks_cons rfl (looks_cons rfl looks_nil)))
  · clear hs
    intro g go w hI
    show SG _ _ _ _ _ _ [(0, .slice a k c), (19, .slice (some ⟨go, 0, none⟩) k k), (21, .slice (some ⟨g, 0, none⟩) l l)] w
    obtain ⟨hs, hg, hgo⟩ := hI
    have hO : ∀ {o o' : Obj}, Own w0 [(go, o), (g, o')] := Own.cons hgo (Own.cons hg Own.nil)
    replace hs : HS w0 w [(go, Row 28 (cl (List.replicate k (0, 0)))), (g, Row 28 (cl (ts.map cjF)))] := by simpa [cl] using hs
    refine SG_pick1 (i := 5) (l1 := #[true, true, true, true, true, true, false]) (by kernel_rfl) (by kernel_rfl) (by kernel_rfl) ?_
    refine L_assign rfl rfl ?_
    refine RL_sg ?_
    refine SG_pick1 (i := 6) (l1 := #[true, true, true, true, true, true, true]) (by kernel_rfl) (by kernel_rfl) (by kernel_rfl) ?_
    refine L_assign rfl rfl ?_
    refine RL_sg ?_
    refine SG_end (by kernel_rfl) ?_
    refine Nx_then ?_
    refine W_seq ?_
    refine W_seq ?_
    refine W_region ?_
    refine L_move rfl rfl ?_
    refine L_len rfl Try.underlying27 rfl ?_
    refine L_move rfl rfl ?_
    refine RL_then ?_
    refine W_block ?_
    refine W_loop3 (fun (i : Nat) (os : CL) (w : World) => [(0, .slice a k c), (6, .slice (some ⟨go, 0, none⟩) k k), (7, .slice (some ⟨g, 0, none⟩) l l), (23, .int .i64 k), (24, .int .i64 i)]) (fun (i : Nat) (os : CL) (w : World) => w) (fun (i : Nat) (os : CL) (w : World) => (i ≤ k) ∧ (os.length = k) ∧ (∀ q, q < i → MatchR zs ts os q) ∧ (HS w0 w [(go, Row 28 (cl os)), (g, Row 28 (cl (ts.map cjF)))])) (fun (i : Nat) (os : CL) (w : World) => k - i) (0) (List.replicate k (0, 0)) (w) (is := [0, 6, 7, 23, 24]) rfl rfl ?_ ?_
    · exact ⟨Nat.zero_le _, by simp, fun _ h => absurd h (Nat.not_lt_zero _), hs⟩
    · clear hs
      intro i os w hI
      show W _ _ _ _ [(0, .slice a k c), (6, .slice (some ⟨go, 0, none⟩) k k), (7, .slice (some ⟨g, 0, none⟩) l l), (23, .int .i64 k), (24, .int .i64 i)] w
      obtain ⟨hi, hol, hM, hs⟩ := hI
      by_cases hlt : i < k
      · refine W_seq ?_
        refine W_region ?_
        first | refine L_lss rfl rfl rfl (dtrue (by omega)) ?_ | refine L_lss rfl rfl rfl (dfalse (by omega)) ?_ | refine L_lss rfl rfl rfl rfl ?_
        refine RL_then ?_
        refine W_seq ?_
        refine W_if_true rfl ?_
        refine W_skip' ?_
        refine Nx_then ?_
        refine W_seq ?_
        refine W_block ?_
        refine W_seq ?_
        refine W_region ?_
        refine L_move rfl rfl ?_
        refine L_assign rfl rfl ?_
        refine RL_then ?_
        refine W_region ?_
        refine L_move rfl rfl ?_
        refine L_move rfl rfl ?_
        refine L_move rfl rfl ?_
        refine L_move rfl rfl ?_
        refine RL_val rfl (R_slice100 (l := i) Try.underlying27 Try.ti28 rfl rfl rfl (by omega)) ?_
        refine L_move rfl rfl ?_
        have hsd := SlC.drop (l := i) (c := c) (hz.old hs hO) (by rw [cl_length]; omega)
        rw [cl_drop] at hsd
        refine L_call rfl Try.fun33 rfl (at2_ok (slA a i c 1) (some ⟨g, 0, none⟩) (k - i) l (c - i) l (zs.drop i) (ts.map cjF) w hsd (by rw [List.length_drop, hk]) (SlC.of_row (sp := []) (by rw [List.append_nil]; exact hs.get (i := 1) rfl)) (by rw [List.length_map, hl]) (by omega) (by omega)) ?_
        rintro _ w1 ⟨re, im, rfl, hs', hsum⟩
        replace hs := hs.nil hs'
        clear hs'
        obtain ⟨s1, s2⟩ := hsum (by omega)
        refine L_idx1 rfl Try.underlying27 Try.ti28 rfl rfl (by with_reducible first | exact natc_k _ | exact natc_a1 _ | exact natc_0 | exact natc_1 | exact natc_2 | exact natc_s1 _ (by omega) | exact natc_a2 _ | exact natc_add _ _ | exact natc_mul _ _ | exact natc (by omega)) (by omega) rfl ?_
        refine L_store hs (i := 0) rfl Try.ti28 rfl rfl (by first | rfl | exact add_lit0 _ _ | exact Addr.add_lit ..) (by simp; omega) rfl ?_
        intro w hs
        try dsimp only [List.set_cons_succ, List.set_cons_zero, List.cons_append, List.nil_append] at hs
        refine RL_nil' ?_
        refine Nx_block ?_
        refine Nx_then ?_
        refine W_region ?_
        first | refine L_add rfl rfl rfl (wrp_i64 (by omega)) ?_ | refine L_add rfl rfl rfl rfl ?_
        refine L_move rfl rfl ?_
        refine RL_nil' ?_
        rw [cl_set1] at hs
        refine Nx_loopP (i + 1, os.set i (re, im), _) (is := [0, 6, 7, 23, 24]) (I' := (fun (i : Nat) (os : CL) (w : World) => (i ≤ k) ∧ (os.length = k) ∧ (∀ q, q < i → MatchR zs ts os q) ∧ (HS w0 w [(go, Row 28 (cl os)), (g, Row 28 (cl (ts.map cjF)))])) (i + 1) (os.set i (re, im)) (_)) rfl rfl rfl ?_ ?_
        · refine ⟨by omega, by simp [hol], fun q hq => ?_, hs⟩
          unfold MatchR
          rw [czset (by omega)]
          by_cases hqi : q = i
          · subst hqi
            rw [if_pos rfl, hk, hl]
            exact ⟨s1, s2⟩
          · rw [if_neg hqi]
            exact hM q (by omega)
        · omega
      · obtain rfl : k = i := by omega
        refine W_seq ?_
        refine W_region ?_
        first | refine L_lss rfl rfl rfl (dtrue (by omega)) ?_ | refine L_lss rfl rfl rfl (dfalse (by omega)) ?_ | refine L_lss rfl rfl rfl rfl ?_
        refine RL_then ?_
        refine W_seq ?_
        refine W_if_false rfl ?_
        refine W_exit' ?_
        refine Ex_then_exit ?_
        refine Ex_loop_exit ?_
        refine Ex_block_hit ?_
        refine Nx_then ?_
        refine W_seq ?_
        refine W_region ?_
        refine L_move rfl rfl ?_
        refine L_assign rfl rfl ?_
        refine L_assign rfl rfl ?_
        refine RL_then ?_
        refine W_ret' ?_
        refine Ex_done2 rfl rfl rfl ?_
        exact ⟨_, rfl, go, os, _, rfl, hs, hgo, Own.cons hg Own.nil, hol, hM⟩
end Go.Proofs.Ytihhloeakenfgaa
