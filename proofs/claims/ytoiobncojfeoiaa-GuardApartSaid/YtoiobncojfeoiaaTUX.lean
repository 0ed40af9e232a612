/-
  A part of the proof: what functions that the statement reaches do, or a plain law on what they do. Each theorem holds under its own premises alone.
-/
import Derived.Test.YtoiobncojfeoiaaTUV2
import Derived.Test.YtoiobncojfeoiaaTUW1
namespace Go.Proofs.Ytoiobncojfeoiaa
open Go Go.Lk
/-! ### Lists of pairs; held, great -/
abbrev PP := Int × Int
def tkS (ls : List LK) (i : Nat) : Nat := ((ls.take i).map (·.ts.length)).sum
def crS (zs : List AZ) (i : Nat) : Nat := ((zs.take i).map (·.ps.length / 4)).sum
theorem tkS_succ {ls : List LK} {i : Nat} (h : i < ls.length) : tkS ls (i + 1) = tkS ls i + (ls.getD i lk0).ts.length := by
  unfold tkS
  rw [List.take_add_one, List.getElem?_eq_getElem h, List.getD_eq_getElem?_getD, List.getElem?_eq_getElem h, List.map_append, List.sum_append]
  rfl
theorem crS_succ {zs : List AZ} {i : Nat} (h : i < zs.length) : crS zs (i + 1) = crS zs i + (zs.getD i az0).ps.length / 4 := by
  unfold crS
  rw [List.take_add_one, List.getElem?_eq_getElem h, List.getD_eq_getElem?_getD, List.getElem?_eq_getElem h, List.map_append, List.sum_append]
  rfl
theorem great_ok (a b : Option Addr) (c d : Nat) (zs : List AZ) (ls : List LK) (w0 : World) (hz : SlC w0 a (azs zs)) (hl : SlC w0 b (lks ls)) (hz1 : zs.length ≤ 1000000000000000) (hl1 : ls.length ≤ 1000000000000000)
    (hz2 : ∀ i, i < zs.length → (zs.getD i az0).ps.length ≤ 1000000000000000) (hl2 : ∀ i, i < ls.length → (ls.getD i lk0).ts.length ≤ 1000000000000000) :
    Ret Try.prog 12 [.slice a zs.length c, .slice b ls.length d] w0 fun v w' => ∃ g, v = .bool g ∧ HS w0 w' [] ∧ (g = false → ls.length + zs.length + tkS ls ls.length + crS zs zs.length ≤ 2048) := by
  refine Ret.start fun w hs => ?_
  obtain ⟨k, hk⟩ : ∃ k, k = ls.length := ⟨_, rfl⟩
  obtain ⟨m, hm⟩ : ∃ m, m = zs.length := ⟨_, rfl⟩
  rw [← hk, ← hm]
  refine calls_of_W Try.func12 rfl rfl rfl ?_
  refine W_seq ?_
  refine W_region ?_
  refine L_assign rfl rfl ?_
  refine RL_then ?_
  refine W_seq ?_
  refine W_region ?_
  refine L_move rfl rfl ?_
  refine L_len rfl Try.underlying32 rfl ?_
  refine L_move rfl rfl ?_
  refine L_len rfl Try.underlying31 rfl ?_
  first | refine L_add rfl rfl rfl (wrp_i64 (by omega)) ?_ | refine L_add rfl rfl rfl rfl ?_
  refine L_assign rfl rfl ?_
  refine RL_then ?_
  refine W_seq ?_
  refine W_seq ?_
  refine W_region ?_
  refine L_assign rfl rfl ?_
  refine RL_then ?_
  refine W_cut2 (fun (n : Nat) (w : World) => [(0, .slice a m c), (1, .slice b k d), (5, .int .i64 n)]) (fun (n : Nat) (w : World) => w) (fun (n : Nat) (w : World) => (n ≤ 3000000000000000) ∧ (n ≤ 2048 → n = k + m + tkS ls k) ∧ (HS w0 w [])) ?_ ?_
  · refine W_block ?_
    refine W_loop3 (fun (i : Nat) (n : Nat) (w : World) => [(0, .slice a m c), (1, .slice b k d), (5, .int .i64 n), (6, .int .i64 i)]) (fun (i : Nat) (n : Nat) (w : World) => w) (fun (i : Nat) (n : Nat) (w : World) => (i ≤ k) ∧ (n ≤ 3000000000000000) ∧ (n = k + m + tkS ls i) ∧ (HS w0 w [])) (fun (i : Nat) (n : Nat) (w : World) => k - i) (0) (k + m) (w) (is := [0, 1, 5, 6]) rfl rfl ?_ ?_
    · exact ⟨Nat.zero_le _, by omega, by simp [tkS], hs⟩
    · clear hs
      intro i n w hI
      show W _ _ _ _ [(0, .slice a m c), (1, .slice b k d), (5, .int .i64 n), (6, .int .i64 i)] w
      obtain ⟨hi, hn, hne, hs⟩ := hI
      by_cases hlt : i < k ∧ n ≤ 2048
      · obtain ⟨hlt, hn6⟩ := hlt
        have h2 := hl2 i (by omega)
        refine W_seq ?_
        refine W_seq ?_
        refine W_region ?_
        refine L_move rfl rfl ?_
        refine L_move rfl rfl ?_
        refine L_len rfl Try.underlying32 rfl ?_
        first | refine L_lss rfl rfl rfl (dtrue (by omega)) ?_ | refine L_lss rfl rfl rfl (dfalse (by omega)) ?_ | refine L_lss rfl rfl rfl rfl ?_
        refine L_move rfl rfl ?_
        first | (refine RL_want rfl rfl ?_; refine L_move rfl rfl ?_) | refine RL_skip rfl rfl rfl rfl ?_ | refine RL_skipU rfl rfl rfl ?_
        first | (refine RL_want rfl rfl ?_; (first | refine L_leq rfl rfl rfl (dtrue (by omega)) ?_ | refine L_leq rfl rfl rfl (dfalse (by omega)) ?_ | refine L_leq rfl rfl rfl rfl ?_)) | refine RL_skip rfl rfl rfl rfl ?_ | refine RL_skipU rfl rfl rfl ?_
        first | refine L_pick_t rfl rfl rfl ?_ | refine L_pick_f rfl rfl rfl ?_
        refine RL_then ?_
        refine W_if_true rfl ?_
        refine W_skip' ?_
        refine Nx_then ?_
        refine W_seq ?_
        refine W_block ?_
        refine W_region ?_
        refine L_move rfl rfl ?_
        refine L_move rfl rfl ?_
        refine L_move rfl rfl ?_
        refine L_idxN rfl Try.underlying32 Try.ti46 rfl rfl (by with_reducible first | exact natc_k _ | exact natc_a1 _ | exact natc_0 | exact natc_1 | exact natc_2 | exact natc_s1 _ (by omega) | exact natc_a2 _ | exact natc_add _ _ | exact natc_mul _ _ | exact natc (by omega)) (by omega) (hl.ao (by rw [lks_len]; omega)) ?_
        refine L_fieldAddr rfl (off := 1) Try.underlying46 rfl rfl Try.ti44 rfl ?_
        refine L_load rfl Try.one44 rfl (by exact lks_at (hl.old hs Own.nil) (show i < ls.length by omega) 1 _ rfl) ?_
        refine L_len rfl Try.underlying44 rfl ?_
        first | refine L_add rfl rfl rfl (wrp_i64 (by omega)) ?_ | refine L_add rfl rfl rfl rfl ?_
        refine L_assign rfl rfl ?_
        refine RL_nil' ?_
        refine Nx_block ?_
        refine Nx_then ?_
        refine W_region ?_
        refine L_move rfl rfl ?_
        first | refine L_add rfl rfl rfl (wrp_i64 (by omega)) ?_ | refine L_add rfl rfl rfl rfl ?_
        refine L_assign rfl rfl ?_
        refine RL_nil' ?_
        refine Nx_loopP (i + 1, n + (ls.getD i lk0).ts.length, w) (is := [0, 1, 5, 6]) (I' := (fun (i : Nat) (n : Nat) (w : World) => (i ≤ k) ∧ (n ≤ 3000000000000000) ∧ (n = k + m + tkS ls i) ∧ (HS w0 w [])) (i + 1) (n + (ls.getD i lk0).ts.length) (w)) rfl rfl rfl ?_ ?_
        · exact ⟨by omega, by omega, by rw [tkS_succ (by omega)]; omega, hs⟩
        · omega
      · rcases (show k ≤ i ∨ (i < k ∧ 2048 < n) by omega) with h5 | h5
        · refine W_seq ?_
          refine W_seq ?_
          refine W_region ?_
          refine L_move rfl rfl ?_
          refine L_move rfl rfl ?_
          refine L_len rfl Try.underlying32 rfl ?_
          first | refine L_lss rfl rfl rfl (dtrue (by omega)) ?_ | refine L_lss rfl rfl rfl (dfalse (by omega)) ?_ | refine L_lss rfl rfl rfl rfl ?_
          refine L_move rfl rfl ?_
          first | (refine RL_want rfl rfl ?_; refine L_move rfl rfl ?_) | refine RL_skip rfl rfl rfl rfl ?_ | refine RL_skipU rfl rfl rfl ?_
          first | (refine RL_want rfl rfl ?_; (first | refine L_leq rfl rfl rfl (dtrue (by omega)) ?_ | refine L_leq rfl rfl rfl (dfalse (by omega)) ?_ | refine L_leq rfl rfl rfl rfl ?_)) | refine RL_skip rfl rfl rfl rfl ?_ | refine RL_skipU rfl rfl rfl ?_
          first | refine L_pick_t rfl rfl rfl ?_ | refine L_pick_f rfl rfl rfl ?_
          refine RL_then ?_
          refine W_if_false rfl ?_
          refine W_exit' ?_
          refine Ex_then_exit ?_
          refine Ex_loop_exit ?_
          refine Ex_block_hit ?_
          refine Nx_cutP (n, w) (is := [0, 1, 5]) (I' := (fun (n : Nat) (w : World) => (n ≤ 3000000000000000) ∧ (n ≤ 2048 → n = k + m + tkS ls k) ∧ (HS w0 w [])) (n) (w)) rfl rfl rfl ?_
          exact ⟨hn, fun _ => by rw [hne, show i = k by omega], hs⟩
        · refine W_seq ?_
          refine W_seq ?_
          refine W_region ?_
          refine L_move rfl rfl ?_
          refine L_move rfl rfl ?_
          refine L_len rfl Try.underlying32 rfl ?_
          first | refine L_lss rfl rfl rfl (dtrue (by omega)) ?_ | refine L_lss rfl rfl rfl (dfalse (by omega)) ?_ | refine L_lss rfl rfl rfl rfl ?_
          refine L_move rfl rfl ?_
          first | (refine RL_want rfl rfl ?_; refine L_move rfl rfl ?_) | refine RL_skip rfl rfl rfl rfl ?_ | refine RL_skipU rfl rfl rfl ?_
          first | (refine RL_want rfl rfl ?_; (first | refine L_leq rfl rfl rfl (dtrue (by omega)) ?_ | refine L_leq rfl rfl rfl (dfalse (by omega)) ?_ | refine L_leq rfl rfl rfl rfl ?_)) | refine RL_skip rfl rfl rfl rfl ?_ | refine RL_skipU rfl rfl rfl ?_
          first | refine L_pick_t rfl rfl rfl ?_ | refine L_pick_f rfl rfl rfl ?_
          refine RL_then ?_
          refine W_if_false rfl ?_
          refine W_exit' ?_
          refine Ex_then_exit ?_
          refine Ex_loop_exit ?_
          refine Ex_block_hit ?_
          refine Nx_cutP (n, w) (is := [0, 1, 5]) (I' := (fun (n : Nat) (w : World) => (n ≤ 3000000000000000) ∧ (n ≤ 2048 → n = k + m + tkS ls k) ∧ (HS w0 w [])) (n) (w)) rfl rfl rfl ?_
          exact ⟨hn, fun h => by omega, hs⟩
  · clear hs
    intro n w hI
    show W _ _ _ _ [(0, .slice a m c), (1, .slice b k d), (5, .int .i64 n)] w
    obtain ⟨hn, hne, hs⟩ := hI
    refine W_seq ?_
    refine W_seq ?_
    refine W_region ?_
    refine L_assign rfl rfl ?_
    refine RL_then ?_
    refine W_cut2 (fun (n2 : Nat) (w : World) => [(5, .int .i64 n2)]) (fun (n2 : Nat) (w : World) => w) (fun (n2 : Nat) (w : World) => (n2 ≤ 6000000000000000) ∧ (n2 ≤ 2048 → n2 = k + m + tkS ls k + crS zs m) ∧ (HS w0 w [])) ?_ ?_
    · refine W_block ?_
      refine W_loop3 (fun (i : Nat) (n2 : Nat) (w : World) => [(0, .slice a m c), (1, .slice b k d), (5, .int .i64 n2), (7, .int .i64 i)]) (fun (i : Nat) (n2 : Nat) (w : World) => w) (fun (i : Nat) (n2 : Nat) (w : World) => (i ≤ m) ∧ (n2 ≤ 6000000000000000) ∧ (n2 = n + crS zs i) ∧ (HS w0 w [])) (fun (i : Nat) (n2 : Nat) (w : World) => m - i) (0) (n) (w) (is := [0, 1, 5, 7]) rfl rfl ?_ ?_
      · exact ⟨Nat.zero_le _, by omega, by simp [crS], hs⟩
      · clear hs
        intro i n2 w hI
        show W _ _ _ _ [(0, .slice a m c), (1, .slice b k d), (5, .int .i64 n2), (7, .int .i64 i)] w
        obtain ⟨hi, hn2, hne2, hs⟩ := hI
        by_cases hlt : i < m ∧ n2 ≤ 2048
        · obtain ⟨hlt, hn6⟩ := hlt
          have h2 := hz2 i (by omega)
          refine W_seq ?_
          refine W_seq ?_
          refine W_region ?_
          refine L_move rfl rfl ?_
          refine L_move rfl rfl ?_
          refine L_len rfl Try.underlying31 rfl ?_
          first | refine L_lss rfl rfl rfl (dtrue (by omega)) ?_ | refine L_lss rfl rfl rfl (dfalse (by omega)) ?_ | refine L_lss rfl rfl rfl rfl ?_
          refine L_move rfl rfl ?_
          first | (refine RL_want rfl rfl ?_; refine L_move rfl rfl ?_) | refine RL_skip rfl rfl rfl rfl ?_ | refine RL_skipU rfl rfl rfl ?_
          first | (refine RL_want rfl rfl ?_; (first | refine L_leq rfl rfl rfl (dtrue (by omega)) ?_ | refine L_leq rfl rfl rfl (dfalse (by omega)) ?_ | refine L_leq rfl rfl rfl rfl ?_)) | refine RL_skip rfl rfl rfl rfl ?_ | refine RL_skipU rfl rfl rfl ?_
          first | refine L_pick_t rfl rfl rfl ?_ | refine L_pick_f rfl rfl rfl ?_
          refine RL_then ?_
          refine W_if_true rfl ?_
          refine W_skip' ?_
          refine Nx_then ?_
          refine W_seq ?_
          refine W_block ?_
          refine W_region ?_
          refine L_move rfl rfl ?_
          refine L_move rfl rfl ?_
          refine L_move rfl rfl ?_
          refine L_idxN rfl Try.underlying31 Try.ti40 rfl rfl (by with_reducible first | exact natc_k _ | exact natc_a1 _ | exact natc_0 | exact natc_1 | exact natc_2 | exact natc_s1 _ (by omega) | exact natc_a2 _ | exact natc_add _ _ | exact natc_mul _ _ | exact natc (by omega)) (by omega) (hz.ao (by rw [azs_len]; omega)) ?_
          refine L_fieldAddr rfl (off := 1) Try.underlying40 rfl rfl Try.ti22 rfl ?_
          refine L_load rfl Try.one22 rfl (by exact azs_at (hz.old hs Own.nil) (show i < zs.length by omega) 1 _ rfl) ?_
          refine L_len rfl Try.underlying22 rfl ?_
          refine L_quo (c := (((zs.getD i az0).ps.length / 4 : Nat) : Int)) rfl rfl rfl (by decide) (show IntKind.i64.wrap (((zs.getD i az0).ps.length / 4 : Nat) : Int) = _ from wrp_i64 (by omega)) ?_
          first | refine L_add rfl rfl rfl (wrp_i64 (by omega)) ?_ | refine L_add rfl rfl rfl rfl ?_
          refine L_assign rfl rfl ?_
          refine RL_nil' ?_
          refine Nx_block ?_
          refine Nx_then ?_
          refine W_region ?_
          refine L_move rfl rfl ?_
          first | refine L_add rfl rfl rfl (wrp_i64 (by omega)) ?_ | refine L_add rfl rfl rfl rfl ?_
          refine L_assign rfl rfl ?_
          refine RL_nil' ?_
          refine Nx_loopP (i + 1, n2 + (zs.getD i az0).ps.length / 4, w) (is := [0, 1, 5, 7]) (I' := (fun (i : Nat) (n2 : Nat) (w : World) => (i ≤ m) ∧ (n2 ≤ 6000000000000000) ∧ (n2 = n + crS zs i) ∧ (HS w0 w [])) (i + 1) (n2 + (zs.getD i az0).ps.length / 4) (w)) rfl rfl rfl ?_ ?_
          · exact ⟨by omega, by omega, by rw [crS_succ (by omega)]; omega, hs⟩
          · omega
        · rcases (show m ≤ i ∨ (i < m ∧ 2048 < n2) by omega) with h5 | h5
          · refine W_seq ?_
            refine W_seq ?_
            refine W_region ?_
            refine L_move rfl rfl ?_
            refine L_move rfl rfl ?_
            refine L_len rfl Try.underlying31 rfl ?_
            first | refine L_lss rfl rfl rfl (dtrue (by omega)) ?_ | refine L_lss rfl rfl rfl (dfalse (by omega)) ?_ | refine L_lss rfl rfl rfl rfl ?_
            refine L_move rfl rfl ?_
            first | (refine RL_want rfl rfl ?_; refine L_move rfl rfl ?_) | refine RL_skip rfl rfl rfl rfl ?_ | refine RL_skipU rfl rfl rfl ?_
            first | (refine RL_want rfl rfl ?_; (first | refine L_leq rfl rfl rfl (dtrue (by omega)) ?_ | refine L_leq rfl rfl rfl (dfalse (by omega)) ?_ | refine L_leq rfl rfl rfl rfl ?_)) | refine RL_skip rfl rfl rfl rfl ?_ | refine RL_skipU rfl rfl rfl ?_
            first | refine L_pick_t rfl rfl rfl ?_ | refine L_pick_f rfl rfl rfl ?_
            refine RL_then ?_
            refine W_if_false rfl ?_
            refine W_exit' ?_
            refine Ex_then_exit ?_
            refine Ex_loop_exit ?_
            refine Ex_block_hit ?_
            refine Nx_cutP (n2, w) (is := [5]) (I' := (fun (n2 : Nat) (w : World) => (n2 ≤ 6000000000000000) ∧ (n2 ≤ 2048 → n2 = k + m + tkS ls k + crS zs m) ∧ (HS w0 w [])) (n2) (w)) rfl rfl rfl ?_
            exact ⟨hn2, fun h => by have := hne (by omega); rw [hne2, this, show i = m by omega], hs⟩
          · refine W_seq ?_
            refine W_seq ?_
            refine W_region ?_
            refine L_move rfl rfl ?_
            refine L_move rfl rfl ?_
            refine L_len rfl Try.underlying31 rfl ?_
            first | refine L_lss rfl rfl rfl (dtrue (by omega)) ?_ | refine L_lss rfl rfl rfl (dfalse (by omega)) ?_ | refine L_lss rfl rfl rfl rfl ?_
            refine L_move rfl rfl ?_
            first | (refine RL_want rfl rfl ?_; refine L_move rfl rfl ?_) | refine RL_skip rfl rfl rfl rfl ?_ | refine RL_skipU rfl rfl rfl ?_
            first | (refine RL_want rfl rfl ?_; (first | refine L_leq rfl rfl rfl (dtrue (by omega)) ?_ | refine L_leq rfl rfl rfl (dfalse (by omega)) ?_ | refine L_leq rfl rfl rfl rfl ?_)) | refine RL_skip rfl rfl rfl rfl ?_ | refine RL_skipU rfl rfl rfl ?_
            first | refine L_pick_t rfl rfl rfl ?_ | refine L_pick_f rfl rfl rfl ?_
            refine RL_then ?_
            refine W_if_false rfl ?_
            refine W_exit' ?_
            refine Ex_then_exit ?_
            refine Ex_loop_exit ?_
            refine Ex_block_hit ?_
            refine Nx_cutP (n2, w) (is := [5]) (I' := (fun (n2 : Nat) (w : World) => (n2 ≤ 6000000000000000) ∧ (n2 ≤ 2048 → n2 = k + m + tkS ls k + crS zs m) ∧ (HS w0 w [])) (n2) (w)) rfl rfl rfl ?_
            exact ⟨hn2, fun h => by omega, hs⟩
    · clear hs
      intro n2 w hI
      show W _ _ _ _ [(5, .int .i64 n2)] w
      obtain ⟨hn2, hne2, hs⟩ := hI
      refine W_seq ?_
      refine W_region ?_
      refine L_move rfl rfl ?_
      first | refine L_gtr rfl rfl rfl (dtrue (by omega)) ?_ | refine L_gtr rfl rfl rfl (dfalse (by omega)) ?_ | refine L_gtr rfl rfl rfl rfl ?_
      refine L_assign rfl rfl ?_
      refine RL_then ?_
      refine W_ret' ?_
      refine Ex_done1 rfl rfl ?_
      exact ⟨_, rfl, _, rfl, hs, fun h => by have := of_decide_eq_false h; have := hne2 (by omega); omega⟩
end Go.Proofs.Ytoiobncojfeoiaa
