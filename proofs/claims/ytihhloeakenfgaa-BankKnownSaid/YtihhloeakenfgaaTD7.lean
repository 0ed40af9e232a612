/-
  A part of the proof: what functions that the statement reaches do, or a plain law on what they do. Each theorem holds under its own premises alone.
-/
import Derived.Test.YtihhloeakenfgaaTD6
namespace Go.Proofs.Ytihhloeakenfgaa
open Go Go.Lk
theorem across_bad (a : Option Addr) (k cp : Nat) (rows : List CL) (rvs : List Value) (w0 : World) (hr : RowsC w0 a rows rvs) (hk : rows.length = k) (hk2 : k ≤ 1000000) (hl : ∀ i, i < k → (rows.getD i []).length ≤ 1000000) (hc : chkF rows 0 ≠ 0) :
    Ret Try.prog 12 [.slice a k cp] w0 fun v w' => v = .tuple #[.slice none 0 0, .int .i64 (chkF rows 0)] ∧ HS w0 w' [] := by
  refine Ret.start fun w hs => ?_
  refine calls_of_W Try.func12 rfl rfl rfl ?_
  refine W_seq ?_
  refine W_region ?_
  refine L_assign rfl rfl ?_
  refine L_assign rfl rfl ?_
  refine RL_then ?_
  refine W_seq ?_
  refine W_seq ?_
  refine W_region ?_
  refine L_move rfl rfl ?_
  refine L_call rfl Try.fun21 rfl (check_ok a k cp 0 rows rvs w (hr.old hs Own.nil) hk hk2 hl (by decide)) ?_
  rintro _ w1 ⟨rfl, hs'⟩
  replace hs := hs.nil hs'
  clear hs'
  refine L_assign rfl rfl ?_
  refine RL_then ?_
  refine W_seq ?_
  refine W_region ?_
  refine L_move rfl rfl ?_
  first | refine L_neq rfl rfl rfl (dtrue (by omega)) ?_ | refine L_neq rfl rfl rfl (dfalse (by omega)) ?_ | refine L_neq rfl rfl rfl rfl ?_
  refine RL_then ?_
  refine W_if_true rfl ?_
  refine W_seq ?_
  refine W_region ?_
  refine L_move rfl rfl ?_
  refine L_assign rfl rfl ?_
  refine L_assign rfl rfl ?_
  refine RL_then ?_
  refine W_ret' ?_
  refine Ex_then_ret ?_
  refine Ex_done2 rfl rfl rfl ?_
  exact ⟨_, rfl, rfl, hs⟩
set_option maxHeartbeats 1000000 in
theorem across_ok (a : Option Addr) (k cp n : Nat) (rows : List CL) (rvs : List Value) (w0 : World) (hr : RowsC w0 a rows rvs) (hk : rows.length = k) (hn : widC rows = n) (hc : chkF rows 0 = 0) :
    Ret Try.prog 12 [.slice a k cp] w0 fun v w' => ∃ A Bk vs zs, v = .tuple #[.slice (some ⟨Bk, 0, none⟩) n n, .int .i64 0] ∧ HS w0 w' [(A, Row 28 (cl zs)), (Bk, Row 27 vs)] ∧ w0.heap.size ≤ A ∧ w0.heap.size ≤ Bk ∧ vs.length = n ∧ (∀ q, q < n → vs[q]? = some (bval A k q)) ∧ zs.length = n * k ∧ ∀ g p, g < n → p < k → zs.getD (g * k + p) (0, 0) = (rows.getD p []).getD g (0, 0) := by
  refine Ret.start fun w hs => ?_
  obtain ⟨hun, hk256, hn16, hkn⟩ := chk_zero hc
  rw [hk] at hun hk256 hkn
  rw [hn] at hun hn16 hkn
  have hkn' : (k : Int) * (n : Int) = ((n * k : Nat) : Int) := by rw [Nat.mul_comm]; simp
  rw [hkn'] at hkn
  have hlen : ∀ i, i < k → (rows.getD i []).length ≤ 1000000 := fun i hi => by rw [hun i hi]; omega
  refine calls_of_W Try.func12 rfl rfl rfl ?_
  refine W_seq ?_
  refine W_region ?_
  refine L_assign rfl rfl ?_
  refine L_assign rfl rfl ?_
  refine RL_then ?_
  refine W_seq ?_
  refine W_seq ?_
  refine W_region ?_
  refine L_move rfl rfl ?_
  refine L_call rfl Try.fun21 rfl (check_ok a k cp 0 rows rvs w (hr.old hs Own.nil) hk (by omega) hlen (by decide)) ?_
  rintro _ w1 ⟨rfl, hs'⟩
  replace hs := hs.nil hs'
  clear hs'
  rw [hc]
  refine L_assign rfl rfl ?_
  refine RL_then ?_
  refine W_seq ?_
  refine W_region ?_
  refine L_move rfl rfl ?_
  first | refine L_neq rfl rfl rfl (dtrue (by omega)) ?_ | refine L_neq rfl rfl rfl (dfalse (by omega)) ?_ | refine L_neq rfl rfl rfl rfl ?_
  refine RL_then ?_
  refine W_if_false rfl ?_
  refine W_skip' ?_
  refine Nx_then ?_
  refine W_seq ?_
  refine W_region ?_
  refine L_move rfl rfl ?_
  refine L_call rfl Try.fun20 rfl (columns_ok a k cp rows rvs w1 (hr.old hs Own.nil) hk (by omega) hlen) ?_
  rintro _ w2 ⟨n', ok, rfl, hs', hC⟩
  obtain ⟨rfl, rfl, _⟩ := hC.resolve_right (fun h => by obtain ⟨_, _, i, hi, hne⟩ := h; exact hne (by rw [hn]; exact hun i (by omega)))
  replace hs := hs.nil hs'
  clear hs'
  rw [hn]
  refine L_move rfl rfl ?_
  refine L_extract rfl rfl rfl ?_
  refine L_extract rfl rfl rfl ?_
  refine L_assign rfl rfl ?_
  refine L_assign rfl rfl ?_
  refine RL_then ?_
  refine W_seq ?_
  refine W_region ?_
  refine L_move rfl rfl ?_
  refine L_move rfl rfl ?_
  refine L_len rfl Try.underlying39 rfl ?_
  refine L_call rfl Try.fun22 rfl (blank_ok n k (by omega) (by omega) (by omega) w2) ?_
  rintro _ w3 ⟨A, Bk, vs, rfl, hs', hA, hB, hvl, hv⟩
  have hA0 := Nat.le_trans hs.size hA
  have hB0 := Nat.le_trans hs.size hB
  replace hs := hs.call hs' (Own.cons hA (Own.cons hB Own.nil))
  replace hs : HS w0 w3 [(A, Row 28 (cl (List.replicate (n * k) (0, 0)))), (Bk, Row 27 vs)] := hs
  clear hs' hA hB
  have hO : ∀ {o1 o2 : Obj}, Own w0 [(A, o1), (Bk, o2)] := Own.cons hA0 (Own.cons hB0 Own.nil)
  refine L_assign rfl rfl ?_
  refine RL_then ?_
  refine W_seq ?_
  refine W_seq ?_
  refine W_region ?_
  refine L_move rfl rfl ?_
  refine L_len rfl Try.underlying39 rfl ?_
  refine L_move rfl rfl ?_
  refine RL_then ?_
  refine W_block ?_
  refine W_loop3 (fun (p : Nat) (zs : CL) (w : World) => [(7, .slice (some ⟨Bk, 0, none⟩) n n), (26, .slice a k cp), (27, .int .i64 k), (28, .int .i64 p)]) (fun (p : Nat) (zs : CL) (w : World) => w) (fun (p : Nat) (zs : CL) (w : World) => (p ≤ k) ∧ (zs.length = n * k) ∧ (∀ g q, g < n → q < p → zs.getD (g * k + q) (0, 0) = (rows.getD q []).getD g (0, 0)) ∧ (HS w0 w [(A, Row 28 (cl zs)), (Bk, Row 27 vs)])) (fun (p : Nat) (zs : CL) (w : World) => k - p) (0) (List.replicate (n * k) (0, 0)) (w3) (is := [7, 26, 27, 28]) rfl rfl ?_ ?_
  · exact ⟨Nat.zero_le _, by simp, fun _ _ _ h => absurd h (Nat.not_lt_zero _), hs⟩
  · clear hs
    intro p zs w hI
    show W _ _ _ _ [(7, .slice (some ⟨Bk, 0, none⟩) n n), (26, .slice a k cp), (27, .int .i64 k), (28, .int .i64 p)] w
    obtain ⟨hp, hzl, hz, hs⟩ := hI
    by_cases hlt : p < k
    · obtain ⟨ai, ci, g1, g2, g3⟩ := hr.row p (by omega)
      have hrp := hun p hlt
      rw [hrp] at g1 g2
      have ha1 := hr.sl.ao (by rw [hr.len]; omega)
      refine W_seq ?_
      refine W_region ?_
      first | refine L_lss rfl rfl rfl (dtrue (by omega)) ?_ | refine L_lss rfl rfl rfl (dfalse (by omega)) ?_ | refine L_lss rfl rfl rfl rfl ?_
      refine RL_then ?_
      refine W_seq ?_
      refine W_if_true rfl ?_
      refine W_skip' ?_
      refine Nx_then ?_
      refine W_seq ?_
      refine W_block ?_
      refine W_seq ?_
      refine W_region ?_
      refine L_move rfl rfl ?_
      refine L_idx1 rfl Try.underlying39 Try.ti27 rfl rfl (by with_reducible first | exact natc_k _ | exact natc_a1 _ | exact natc_0 | exact natc_1 | exact natc_2 | exact natc_s1 _ (by omega) | exact natc_a2 _ | exact natc_add _ _ | exact natc_mul _ _ | exact natc (by omega)) (by omega) ha1 ?_
      refine L_load rfl Try.one27 rfl (by exact (hr.sl.old hs hO).get g1) ?_
      refine L_assign rfl rfl ?_
      refine L_assign rfl rfl ?_
      refine RL_then ?_
      refine W_seq ?_
      refine W_region ?_
      refine L_move rfl rfl ?_
      refine L_len rfl Try.underlying27 rfl ?_
      refine L_move rfl rfl ?_
      refine RL_then ?_
      refine W_block ?_
      refine W_loop3 (fun (g : Nat) (zs' : CL) (w : World) => [(7, .slice (some ⟨Bk, 0, none⟩) n n), (8, .int .i64 p), (26, .slice a k cp), (27, .int .i64 k), (28, .int .i64 p), (33, .slice ai n ci), (34, .int .i64 n), (35, .int .i64 g)]) (fun (g : Nat) (zs' : CL) (w : World) => w) (fun (g : Nat) (zs' : CL) (w : World) => (g ≤ n) ∧ (zs'.length = n * k) ∧ (∀ h q, h < n → q < k → zs'.getD (h * k + q) (0, 0) = if q = p ∧ h < g then (rows.getD q []).getD h (0, 0) else zs.getD (h * k + q) (0, 0)) ∧ (HS w0 w [(A, Row 28 (cl zs')), (Bk, Row 27 vs)])) (fun (g : Nat) (zs' : CL) (w : World) => n - g) (0) (zs) (w) (is := [7, 8, 26, 27, 28, 33, 34, 35]) rfl rfl ?_ ?_
      · exact ⟨Nat.zero_le _, hzl, fun h q _ _ => by rw [if_neg (fun h => absurd h.2 (Nat.not_lt_zero _))], hs⟩
      · clear hs
        intro g zs' w hI
        show W _ _ _ _ [(7, .slice (some ⟨Bk, 0, none⟩) n n), (8, .int .i64 p), (26, .slice a k cp), (27, .int .i64 k), (28, .int .i64 p), (33, .slice ai n ci), (34, .int .i64 n), (35, .int .i64 g)] w
        obtain ⟨hg, hzl', hz', hs⟩ := hI
        by_cases hlt2 : g < n
        · have ha2 := g3.ao (by rw [cl_length]; omega)
          have hgp := idx_lt hlt2 hlt
          have hb2 : vs[g]? = some (.slice (some ⟨A, g * k, none⟩) k k) := by rw [hv g hlt2]; unfold bval; rw [slA_at (by omega)]
          refine W_seq ?_
          refine W_region ?_
          first | refine L_lss rfl rfl rfl (dtrue (by omega)) ?_ | refine L_lss rfl rfl rfl (dfalse (by omega)) ?_ | refine L_lss rfl rfl rfl rfl ?_
          refine RL_then ?_
          refine W_seq ?_
          refine W_if_true rfl ?_
          refine W_skip' ?_
          refine Nx_then ?_
          refine W_seq ?_
          refine W_block ?_
          refine W_seq ?_
          refine W_region ?_
          refine L_move rfl rfl ?_
          refine L_idx1 rfl Try.underlying27 Try.ti28 rfl rfl (by with_reducible first | exact natc_k _ | exact natc_a1 _ | exact natc_0 | exact natc_1 | exact natc_2 | exact natc_s1 _ (by omega) | exact natc_a2 _ | exact natc_add _ _ | exact natc_mul _ _ | exact natc (by omega)) (by omega) ha2 ?_
          refine L_load rfl Try.one28 rfl (by exact (g3.old hs hO).get (cl_get (by omega))) ?_
          refine L_assign rfl rfl ?_
          refine L_assign rfl rfl ?_
          refine RL_then ?_
          refine W_region ?_
          refine L_move rfl rfl ?_
          refine L_move rfl rfl ?_
          refine L_idx1 rfl Try.underlying39 Try.ti27 rfl rfl (by with_reducible first | exact natc_k _ | exact natc_a1 _ | exact natc_0 | exact natc_1 | exact natc_2 | exact natc_s1 _ (by omega) | exact natc_a2 _ | exact natc_add _ _ | exact natc_mul _ _ | exact natc (by omega)) (by omega) rfl ?_
          refine L_load rfl Try.one27 rfl (by exact hs.cellA (i := 1) rfl hb2) ?_
          refine L_move rfl rfl ?_
          refine L_move rfl rfl ?_
          refine L_idx1 rfl Try.underlying27 Try.ti28 rfl rfl (by with_reducible first | exact natc_k _ | exact natc_a1 _ | exact natc_0 | exact natc_1 | exact natc_2 | exact natc_s1 _ (by omega) | exact natc_a2 _ | exact natc_add _ _ | exact natc_mul _ _ | exact natc (by omega)) (by omega) rfl ?_
          refine L_store hs (i := 0) rfl Try.ti28 rfl rfl (by first | rfl | exact add_lit0 _ _ | exact Addr.add_lit ..) (by rw [cl_length]; omega) rfl ?_
          intro w hs
          try dsimp only [List.set_cons_succ, List.set_cons_zero, List.cons_append, List.nil_append] at hs
          refine RL_nil' ?_
          refine Nx_block ?_
          refine Nx_then ?_
          refine W_region ?_
          first | refine L_add rfl rfl rfl (wrp_i64 (by omega)) ?_ | refine L_add rfl rfl rfl rfl ?_
          refine L_move rfl rfl ?_
          refine RL_nil' ?_
          rw [cl_set1] at hs
          refine Nx_loopP (g + 1, zs'.set (g * k + p) ((rows.getD p []).getD g (0, 0)), _) (is := [7, 8, 26, 27, 28, 33, 34, 35]) (I' := (fun (g : Nat) (zs' : CL) (w : World) => (g ≤ n) ∧ (zs'.length = n * k) ∧ (∀ h q, h < n → q < k → zs'.getD (h * k + q) (0, 0) = if q = p ∧ h < g then (rows.getD q []).getD h (0, 0) else zs.getD (h * k + q) (0, 0)) ∧ (HS w0 w [(A, Row 28 (cl zs')), (Bk, Row 27 vs)])) (g + 1) (zs'.set (g * k + p) ((rows.getD p []).getD g (0, 0))) (_)) rfl rfl rfl ?_ ?_
          · refine ⟨by omega, by simp [hzl'], fun h q hh hq => ?_, hs⟩
            rw [czset (by omega)]
            by_cases he : h * k + q = g * k + p
            · obtain ⟨rfl, rfl⟩ := idx_inj hq hlt he
              rw [if_pos rfl, if_pos ⟨rfl, by omega⟩]
            · rw [if_neg he, hz' h q hh hq]
              by_cases hqp : q = p
              · subst hqp
                have hhg : h ≠ g := fun hhg => he (by rw [hhg])
                by_cases hh2 : h < g
                · rw [if_pos ⟨rfl, hh2⟩, if_pos ⟨rfl, by omega⟩]
                · rw [if_neg (fun h => hh2 h.2), if_neg (fun h => by have := h.2; omega)]
              · rw [if_neg (fun h => hqp h.1), if_neg (fun h => hqp h.1)]
          · omega
        · obtain rfl : n = g := by omega
          refine W_seq ?_
          refine W_region ?_
          first | refine L_lss rfl rfl rfl (dtrue (by omega)) ?_ | refine L_lss rfl rfl rfl (dfalse (by omega)) ?_ | refine L_lss rfl rfl rfl rfl ?_
          refine RL_then ?_
          refine W_seq ?_
          refine W_if_false rfl ?_
          refine W_exit' ?_
          refine Ex_then_exit ?_
          refine Ex_loop_exit ?_
          refine Ex_block_hit ?_
          refine Nx_block ?_
          refine Nx_then ?_
          refine W_region ?_
          first | refine L_add rfl rfl rfl (wrp_i64 (by omega)) ?_ | refine L_add rfl rfl rfl rfl ?_
          refine L_move rfl rfl ?_
          refine RL_nil' ?_
          refine Nx_loopP (p + 1, zs', _) (is := [7, 26, 27, 28]) (I' := (fun (p : Nat) (zs : CL) (w : World) => (p ≤ k) ∧ (zs.length = n * k) ∧ (∀ g q, g < n → q < p → zs.getD (g * k + q) (0, 0) = (rows.getD q []).getD g (0, 0)) ∧ (HS w0 w [(A, Row 28 (cl zs)), (Bk, Row 27 vs)])) (p + 1) (zs') (_)) rfl rfl rfl ?_ ?_
          · refine ⟨by omega, hzl', fun h q hh hq => ?_, hs⟩
            rw [hz' h q hh (by omega)]
            by_cases hqp : q = p
            · rw [if_pos ⟨hqp, hh⟩]
            · rw [if_neg (fun h => hqp h.1)]
              exact hz h q hh (by omega)
          · omega
    · obtain rfl : k = p := by omega
      refine W_seq ?_
      refine W_region ?_
      first | refine L_lss rfl rfl rfl (dtrue (by omega)) ?_ | refine L_lss rfl rfl rfl (dfalse (by omega)) ?_ | refine L_lss rfl rfl rfl rfl ?_
      refine RL_then ?_
      refine W_seq ?_
      refine W_if_false rfl ?_
      refine W_exit' ?_
      refine Ex_then_exit ?_
      refine Ex_loop_exit ?_
      refine Ex_block_hit ?_
      refine Nx_then ?_
      refine W_seq ?_
      refine W_region ?_
      refine L_move rfl rfl ?_
      refine L_assign rfl rfl ?_
      refine L_assign rfl rfl ?_
      refine RL_then ?_
      refine W_ret' ?_
      refine Ex_done2 rfl rfl rfl ?_
      exact ⟨_, rfl, A, Bk, vs, zs, rfl, hs, hA0, hB0, hvl, hv, hzl, hz⟩
end Go.Proofs.Ytihhloeakenfgaa
