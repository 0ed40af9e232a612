/-
  A part of the proof: what functions that the statement reaches do, or a plain law on what they do. Each theorem holds under its own premises alone.
-/
import Derived.Test.YtfehgelggjpaaaaTM6
namespace Go.Proofs.Ytfehgelggjpaaaa
open Go Go.Lk
/-- What a map says of a gate. -/
def lv (k : Nat) (fed : Bool) (ls : List Nat) (gate : Int) : Nat × Bool := if fed = true ∧ 0 ≤ gate ∧ gate < k then (ls.getD gate.toNat 0, true) else (0, false)
theorem level_any (b g k s : Nat) (fed : Bool) (ls : List Nat) (gate : Int) (w : World) (hm : IsMap w 60 b g k s fed ls) : Ret Try.prog 18 [.pointer (some ⟨b, 0, none⟩), .int .i64 gate] w fun v w' => ∃ x ok, v = .tuple #[.float .f64 x, .bool ok] ∧ w' = w ∧ (cn x, ok) = lv k fed (ls.map cn) gate := by
  by_cases h : fed = true ∧ 0 ≤ gate ∧ gate < k
  · obtain ⟨rfl, h1, h2⟩ := h
    obtain ⟨j, rfl⟩ : ∃ j : Nat, gate = (j : Int) := ⟨gate.toNat, by omega⟩
    refine Calls.mono (level_yes b g k s ls j w hm (by omega)) fun e w' hR => ?_
    obtain ⟨v, rfl, rfl, rfl⟩ := hR
    refine ⟨_, rfl, _, _, rfl, rfl, ?_⟩
    rw [lv, if_pos ⟨rfl, h1, h2⟩, getD_map_cn]
    simp
  · refine Calls.mono (level_no b g k s fed ls gate w hm (by cases fed <;> simp at h ⊢; omega)) fun e w' hR => ?_
    obtain ⟨v, rfl, rfl, rfl⟩ := hR
    exact ⟨_, rfl, _, _, rfl, rfl, by rw [lv, if_neg h, cn_zero]⟩
theorem rlevel_any (b g k s : Nat) (fed : Bool) (ls : List Nat) (gate : Int) (w : World) (hm : IsMap w 62 b g k s fed ls) : Ret Try.prog 19 [.pointer (some ⟨b, 0, none⟩), .int .i64 gate] w fun v w' => ∃ x ok, v = .tuple #[.float .f64 x, .bool ok] ∧ w' = w ∧ (cn x, ok) = lv k fed (ls.map cn) gate := by
  by_cases h : fed = true ∧ 0 ≤ gate ∧ gate < k
  · obtain ⟨rfl, h1, h2⟩ := h
    obtain ⟨j, rfl⟩ : ∃ j : Nat, gate = (j : Int) := ⟨gate.toNat, by omega⟩
    refine Calls.mono (rlevel_yes b g k s ls j w hm (by omega)) fun e w' hR => ?_
    obtain ⟨v, rfl, rfl, rfl⟩ := hR
    refine ⟨_, rfl, _, _, rfl, rfl, ?_⟩
    rw [lv, if_pos ⟨rfl, h1, h2⟩, getD_map_cn]
    simp
  · refine Calls.mono (rlevel_no b g k s fed ls gate w hm (by cases fed <;> simp at h ⊢; omega)) fun e w' hR => ?_
    obtain ⟨v, rfl, rfl, rfl⟩ := hR
    exact ⟨_, rfl, _, _, rfl, rfl, by rw [lv, if_neg h, cn_zero]⟩
theorem stp_len (k s : Nat) (fed : Bool) (ls row : List Nat) : (stp k s fed ls row).2.2.1.length ≤ k := by
  unfold stp; split <;> simp
theorem maps_ok (gk : Nat) (s : Nat) (a : Option Addr) (c : Nat) (rows : List (List Nat)) (rvs : List Value) (w0 : World) (hr : RowsF w0 a rows rvs) (hk63 : rows.length ≤ 5864062014634) (hg1 : 1 ≤ gk) (hg2 : gk ≤ 16384) (hsh : shOk s = true) :
    Ret Try.prog 5 [.int .i64 gk, .float .f64 s, .slice a rows.length c] w0 fun v w' => v = .bool true ∧ HS w0 w' [] := by
  refine Ret.start fun w hs => ?_
  obtain ⟨k, hkk⟩ : ∃ k, k = rows.length := ⟨_, rfl⟩
  have hrl := hr.len
  rw [← hkk] at hk63 hrl ⊢
  refine calls_of_W Try.func5 rfl rfl rfl ?_
  refine W_seq ?_
  refine W_region ?_
  refine L_assign rfl rfl ?_
  refine RL_then ?_
  refine W_seq ?_
  refine W_region ?_
  refine L_assign rfl rfl ?_
  refine RL_then ?_
  refine W_seq ?_
  refine W_seq ?_
  refine W_region ?_
  refine L_assign rfl rfl ?_
  refine RL_then ?_
  refine W_cut2 (fun (n : Nat) (w : World) => [(0, .int .i64 gk), (1, .float .f64 s), (2, .slice a k c), (7, .int .i64 n)]) (fun (n : Nat) (w : World) => w) (fun (n : Nat) (w : World) => (n ≤ 65536 + 17592186043904) ∧ (HS w0 w [])) ?_ ?_
  · refine W_block ?_
    refine W_loop3 (fun (i : Nat) (n : Nat) (w : World) => [(0, .int .i64 gk), (1, .float .f64 s), (2, .slice a k c), (7, .int .i64 n), (8, .int .i64 i)]) (fun (i : Nat) (n : Nat) (w : World) => w) (fun (i : Nat) (n : Nat) (w : World) => (i ≤ k) ∧ (n ≤ 65536 + 17592186043904) ∧ (HS w0 w [])) (fun (i : Nat) (n : Nat) (w : World) => k - i) (0) (0) (w) (is := [0, 1, 2, 7, 8]) rfl rfl ?_ ?_
    · exact ⟨Nat.zero_le _, by omega, hs⟩
    · intro i n w hI
      show W _ _ _ _ [(0, .int .i64 gk), (1, .float .f64 s), (2, .slice a k c), (7, .int .i64 n), (8, .int .i64 i)] w
      obtain ⟨hi, hn, hs⟩ := hI
      by_cases hlt : i < k ∧ i ≤ 512 ∧ n ≤ 65536
      · obtain ⟨hlt, hi5, hn6⟩ := hlt
        obtain ⟨ai, ci, h1, h3, h4, h2⟩ := hr.row i (by omega)
        refine W_seq ?_
        refine W_seq ?_
        refine W_region ?_
        refine L_move rfl rfl ?_
        refine L_move rfl rfl ?_
        refine L_len rfl Try.underlying38 rfl ?_
        first | refine L_lss rfl rfl rfl (dtrue (by omega)) ?_ | refine L_lss rfl rfl rfl (dfalse (by omega)) ?_ | refine L_lss rfl rfl rfl rfl ?_
        refine L_move rfl rfl ?_
        first | (refine RL_want rfl rfl ?_; refine L_move rfl rfl ?_) | refine RL_skip rfl rfl rfl rfl ?_ | refine RL_skipU rfl rfl rfl ?_
        first | (refine RL_want rfl rfl ?_; (first | refine L_leq rfl rfl rfl (dtrue (by omega)) ?_ | refine L_leq rfl rfl rfl (dfalse (by omega)) ?_ | refine L_leq rfl rfl rfl rfl ?_)) | refine RL_skip rfl rfl rfl rfl ?_ | refine RL_skipU rfl rfl rfl ?_
        first | refine L_pick_t rfl rfl rfl ?_ | refine L_pick_f rfl rfl rfl ?_
        refine L_move rfl rfl ?_
        first | (refine RL_want rfl rfl ?_; refine L_move rfl rfl ?_) | refine RL_skip rfl rfl rfl rfl ?_ | refine RL_skipU rfl rfl rfl ?_
        first | (refine RL_want rfl rfl ?_; (first | refine L_leq rfl rfl rfl (dtrue (by omega)) ?_ | refine L_leq rfl rfl rfl (dfalse (by omega)) ?_ | refine L_leq rfl rfl rfl rfl ?_)) | refine RL_skip rfl rfl rfl rfl ?_ | refine RL_skipU rfl rfl rfl ?_
        first | refine L_pick_t rfl rfl rfl ?_ | refine L_pick_f rfl rfl rfl ?_
        refine RL_then ?_
        refine W_if_true rfl ?_
        refine W_skip' ?_
        refine Nx_then ?_
        refine W_seq ?_
        refine W_block ?_
        refine W_region ?_
        refine L_move rfl rfl ?_
        refine L_move rfl rfl ?_
        refine L_move rfl rfl ?_
        refine L_idx1 rfl Try.underlying38 Try.ti39 rfl rfl (by with_reducible first | exact natc_k _ | exact natc_a1 _ | exact natc_0 | exact natc_1 | exact natc_2 | exact natc_s1 _ (by omega) | exact natc_a2 _ | exact natc_add _ _ | exact natc_mul _ _ | exact natc (by omega)) (by omega) (hr.sl.ao (by omega)) ?_
        refine L_load rfl Try.one39 rfl (by exact (hr.sl.old hs Own.nil).get h1) ?_
        refine L_len rfl Try.underlying39 rfl ?_
        first | refine L_add rfl rfl rfl (wrp_i64 (by omega)) ?_ | refine L_add rfl rfl rfl rfl ?_
        refine L_assign rfl rfl ?_
        refine RL_nil' ?_
        refine Nx_block ?_
        refine Nx_then ?_
        refine W_region ?_
        refine L_move rfl rfl ?_
        first | refine L_add rfl rfl rfl (wrp_i64 (by omega)) ?_ | refine L_add rfl rfl rfl rfl ?_
        refine L_assign rfl rfl ?_
        refine RL_nil' ?_
        refine Nx_loopP (i + 1, n + (rows.getD i []).length, w) (is := [0, 1, 2, 7, 8]) (I' := (fun (i : Nat) (n : Nat) (w : World) => (i ≤ k) ∧ (n ≤ 65536 + 17592186043904) ∧ (HS w0 w [])) (i + 1) (n + (rows.getD i []).length) (w)) rfl rfl rfl ?_ ?_
        · exact ⟨by omega, by omega, hs⟩
        · omega
      · rcases (show k ≤ i ∨ (i < k ∧ 512 < i) ∨ (i < k ∧ i ≤ 512 ∧ 65536 < n) by omega) with h5 | h5 | h5
        · refine W_seq ?_
          refine W_seq ?_
          refine W_region ?_
          refine L_move rfl rfl ?_
          refine L_move rfl rfl ?_
          refine L_len rfl Try.underlying38 rfl ?_
          first | refine L_lss rfl rfl rfl (dtrue (by omega)) ?_ | refine L_lss rfl rfl rfl (dfalse (by omega)) ?_ | refine L_lss rfl rfl rfl rfl ?_
          refine L_move rfl rfl ?_
          first | (refine RL_want rfl rfl ?_; refine L_move rfl rfl ?_) | refine RL_skip rfl rfl rfl rfl ?_ | refine RL_skipU rfl rfl rfl ?_
          first | (refine RL_want rfl rfl ?_; (first | refine L_leq rfl rfl rfl (dtrue (by omega)) ?_ | refine L_leq rfl rfl rfl (dfalse (by omega)) ?_ | refine L_leq rfl rfl rfl rfl ?_)) | refine RL_skip rfl rfl rfl rfl ?_ | refine RL_skipU rfl rfl rfl ?_
          first | refine L_pick_t rfl rfl rfl ?_ | refine L_pick_f rfl rfl rfl ?_
          refine L_move rfl rfl ?_
          first | (refine RL_want rfl rfl ?_; refine L_move rfl rfl ?_) | refine RL_skip rfl rfl rfl rfl ?_ | refine RL_skipU rfl rfl rfl ?_
          first | (refine RL_want rfl rfl ?_; (first | refine L_leq rfl rfl rfl (dtrue (by omega)) ?_ | refine L_leq rfl rfl rfl (dfalse (by omega)) ?_ | refine L_leq rfl rfl rfl rfl ?_)) | refine RL_skip rfl rfl rfl rfl ?_ | refine RL_skipU rfl rfl rfl ?_
          first | refine L_pick_t rfl rfl rfl ?_ | refine L_pick_f rfl rfl rfl ?_
          refine RL_then ?_
          refine W_if_false rfl ?_
          refine W_exit' ?_
          refine Ex_then_exit ?_
          refine Ex_loop_exit ?_
          refine Ex_block_hit ?_
          refine Nx_cutP (n, w) (is := [0, 1, 2, 7]) (I' := (fun (n : Nat) (w : World) => (n ≤ 65536 + 17592186043904) ∧ (HS w0 w [])) (n) (w)) rfl rfl rfl ?_
          exact ⟨hn, hs⟩
        · refine W_seq ?_
          refine W_seq ?_
          refine W_region ?_
          refine L_move rfl rfl ?_
          refine L_move rfl rfl ?_
          refine L_len rfl Try.underlying38 rfl ?_
          first | refine L_lss rfl rfl rfl (dtrue (by omega)) ?_ | refine L_lss rfl rfl rfl (dfalse (by omega)) ?_ | refine L_lss rfl rfl rfl rfl ?_
          refine L_move rfl rfl ?_
          first | (refine RL_want rfl rfl ?_; refine L_move rfl rfl ?_) | refine RL_skip rfl rfl rfl rfl ?_ | refine RL_skipU rfl rfl rfl ?_
          first | (refine RL_want rfl rfl ?_; (first | refine L_leq rfl rfl rfl (dtrue (by omega)) ?_ | refine L_leq rfl rfl rfl (dfalse (by omega)) ?_ | refine L_leq rfl rfl rfl rfl ?_)) | refine RL_skip rfl rfl rfl rfl ?_ | refine RL_skipU rfl rfl rfl ?_
          first | refine L_pick_t rfl rfl rfl ?_ | refine L_pick_f rfl rfl rfl ?_
          refine L_move rfl rfl ?_
          first | (refine RL_want rfl rfl ?_; refine L_move rfl rfl ?_) | refine RL_skip rfl rfl rfl rfl ?_ | refine RL_skipU rfl rfl rfl ?_
          first | (refine RL_want rfl rfl ?_; (first | refine L_leq rfl rfl rfl (dtrue (by omega)) ?_ | refine L_leq rfl rfl rfl (dfalse (by omega)) ?_ | refine L_leq rfl rfl rfl rfl ?_)) | refine RL_skip rfl rfl rfl rfl ?_ | refine RL_skipU rfl rfl rfl ?_
          first | refine L_pick_t rfl rfl rfl ?_ | refine L_pick_f rfl rfl rfl ?_
          refine RL_then ?_
          refine W_if_false rfl ?_
          refine W_exit' ?_
          refine Ex_then_exit ?_
          refine Ex_loop_exit ?_
          refine Ex_block_hit ?_
          refine Nx_cutP (n, w) (is := [0, 1, 2, 7]) (I' := (fun (n : Nat) (w : World) => (n ≤ 65536 + 17592186043904) ∧ (HS w0 w [])) (n) (w)) rfl rfl rfl ?_
          exact ⟨hn, hs⟩
        · refine W_seq ?_
          refine W_seq ?_
          refine W_region ?_
          refine L_move rfl rfl ?_
          refine L_move rfl rfl ?_
          refine L_len rfl Try.underlying38 rfl ?_
          first | refine L_lss rfl rfl rfl (dtrue (by omega)) ?_ | refine L_lss rfl rfl rfl (dfalse (by omega)) ?_ | refine L_lss rfl rfl rfl rfl ?_
          refine L_move rfl rfl ?_
          first | (refine RL_want rfl rfl ?_; refine L_move rfl rfl ?_) | refine RL_skip rfl rfl rfl rfl ?_ | refine RL_skipU rfl rfl rfl ?_
          first | (refine RL_want rfl rfl ?_; (first | refine L_leq rfl rfl rfl (dtrue (by omega)) ?_ | refine L_leq rfl rfl rfl (dfalse (by omega)) ?_ | refine L_leq rfl rfl rfl rfl ?_)) | refine RL_skip rfl rfl rfl rfl ?_ | refine RL_skipU rfl rfl rfl ?_
          first | refine L_pick_t rfl rfl rfl ?_ | refine L_pick_f rfl rfl rfl ?_
          refine L_move rfl rfl ?_
          first | (refine RL_want rfl rfl ?_; refine L_move rfl rfl ?_) | refine RL_skip rfl rfl rfl rfl ?_ | refine RL_skipU rfl rfl rfl ?_
          first | (refine RL_want rfl rfl ?_; (first | refine L_leq rfl rfl rfl (dtrue (by omega)) ?_ | refine L_leq rfl rfl rfl (dfalse (by omega)) ?_ | refine L_leq rfl rfl rfl rfl ?_)) | refine RL_skip rfl rfl rfl rfl ?_ | refine RL_skipU rfl rfl rfl ?_
          first | refine L_pick_t rfl rfl rfl ?_ | refine L_pick_f rfl rfl rfl ?_
          refine RL_then ?_
          refine W_if_false rfl ?_
          refine W_exit' ?_
          refine Ex_then_exit ?_
          refine Ex_loop_exit ?_
          refine Ex_block_hit ?_
          refine Nx_cutP (n, w) (is := [0, 1, 2, 7]) (I' := (fun (n : Nat) (w : World) => (n ≤ 65536 + 17592186043904) ∧ (HS w0 w [])) (n) (w)) rfl rfl rfl ?_
          exact ⟨hn, hs⟩
  · clear hs
    intro n w hI
    show W _ _ _ _ [(0, .int .i64 gk), (1, .float .f64 s), (2, .slice a k c), (7, .int .i64 n)] w
    obtain ⟨hn, hs⟩ := hI
    by_cases hbig : 65536 < n ∨ 512 < k
    · by_cases hb6 : 65536 < n
      · refine W_seq ?_
        refine W_seq ?_
        refine W_region ?_
        refine L_move rfl rfl ?_
        first | refine L_gtr rfl rfl rfl (dtrue (by omega)) ?_ | refine L_gtr rfl rfl rfl (dfalse (by omega)) ?_ | refine L_gtr rfl rfl rfl rfl ?_
        refine L_move rfl rfl ?_
        first | (refine RL_want rfl rfl ?_; refine L_move rfl rfl ?_) | refine RL_skip rfl rfl rfl rfl ?_ | refine RL_skipU rfl rfl rfl ?_
        first | (refine RL_want rfl rfl ?_; refine L_len rfl Try.underlying38 rfl ?_) | refine RL_skip rfl rfl rfl rfl ?_ | refine RL_skipU rfl rfl rfl ?_
        first | (refine RL_want rfl rfl ?_; (first | refine L_gtr rfl rfl rfl (dtrue (by omega)) ?_ | refine L_gtr rfl rfl rfl (dfalse (by omega)) ?_ | refine L_gtr rfl rfl rfl rfl ?_)) | refine RL_skip rfl rfl rfl rfl ?_ | refine RL_skipU rfl rfl rfl ?_
        first | refine L_pick_t rfl rfl rfl ?_ | refine L_pick_f rfl rfl rfl ?_
        refine RL_then ?_
        refine W_if_true rfl ?_
        refine W_seq ?_
        refine W_region ?_
        refine L_call rfl Try.fun10 rfl (wakes_ok w) ?_
        rintro _ w' ⟨rfl, hs'⟩
        replace hs := hs.nil hs'
        refine L_assign rfl rfl ?_
        refine RL_then ?_
        refine W_ret' ?_
        refine Ex_then_ret ?_
        refine Ex_done1 rfl rfl ?_
        exact ⟨_, rfl, rfl, hs⟩
      · have hb5 : 512 < k := by omega
        refine W_seq ?_
        refine W_seq ?_
        refine W_region ?_
        refine L_move rfl rfl ?_
        first | refine L_gtr rfl rfl rfl (dtrue (by omega)) ?_ | refine L_gtr rfl rfl rfl (dfalse (by omega)) ?_ | refine L_gtr rfl rfl rfl rfl ?_
        refine L_move rfl rfl ?_
        first | (refine RL_want rfl rfl ?_; refine L_move rfl rfl ?_) | refine RL_skip rfl rfl rfl rfl ?_ | refine RL_skipU rfl rfl rfl ?_
        first | (refine RL_want rfl rfl ?_; refine L_len rfl Try.underlying38 rfl ?_) | refine RL_skip rfl rfl rfl rfl ?_ | refine RL_skipU rfl rfl rfl ?_
        first | (refine RL_want rfl rfl ?_; (first | refine L_gtr rfl rfl rfl (dtrue (by omega)) ?_ | refine L_gtr rfl rfl rfl (dfalse (by omega)) ?_ | refine L_gtr rfl rfl rfl rfl ?_)) | refine RL_skip rfl rfl rfl rfl ?_ | refine RL_skipU rfl rfl rfl ?_
        first | refine L_pick_t rfl rfl rfl ?_ | refine L_pick_f rfl rfl rfl ?_
        refine RL_then ?_
        refine W_if_true rfl ?_
        refine W_seq ?_
        refine W_region ?_
        refine L_call rfl Try.fun10 rfl (wakes_ok w) ?_
        rintro _ w' ⟨rfl, hs'⟩
        replace hs := hs.nil hs'
        refine L_assign rfl rfl ?_
        refine RL_then ?_
        refine W_ret' ?_
        refine Ex_then_ret ?_
        refine Ex_done1 rfl rfl ?_
        exact ⟨_, rfl, rfl, hs⟩
    · have hb5 : k ≤ 512 := by omega
      have hb6 : n ≤ 65536 := by omega
      clear hbig hn
      refine W_seq ?_
      refine W_seq ?_
      refine W_region ?_
      refine L_move rfl rfl ?_
      first | refine L_gtr rfl rfl rfl (dtrue (by omega)) ?_ | refine L_gtr rfl rfl rfl (dfalse (by omega)) ?_ | refine L_gtr rfl rfl rfl rfl ?_
      refine L_move rfl rfl ?_
      first | (refine RL_want rfl rfl ?_; refine L_move rfl rfl ?_) | refine RL_skip rfl rfl rfl rfl ?_ | refine RL_skipU rfl rfl rfl ?_
      first | (refine RL_want rfl rfl ?_; refine L_len rfl Try.underlying38 rfl ?_) | refine RL_skip rfl rfl rfl rfl ?_ | refine RL_skipU rfl rfl rfl ?_
      first | (refine RL_want rfl rfl ?_; (first | refine L_gtr rfl rfl rfl (dtrue (by omega)) ?_ | refine L_gtr rfl rfl rfl (dfalse (by omega)) ?_ | refine L_gtr rfl rfl rfl rfl ?_)) | refine RL_skip rfl rfl rfl rfl ?_ | refine RL_skipU rfl rfl rfl ?_
      first | refine L_pick_t rfl rfl rfl ?_ | refine L_pick_f rfl rfl rfl ?_
      refine RL_then ?_
      refine W_if_false rfl ?_
      refine W_skip' ?_
      refine Nx_then ?_
      refine W_seq ?_
      refine W_region ?_
      refine L_move rfl rfl ?_
      refine L_move rfl rfl ?_
      refine L_call rfl Try.fun13 rfl (new_ok gk s w hg1 hg2 hsh) ?_
      rintro _ w1 ⟨g, b, rfl, hs1, hg, hb⟩
      have hsz := hs.size
      replace hs := hs.call hs1 (Own.cons hg (Own.cons hb Own.nil))
      replace hg := Nat.le_trans hsz hg
      replace hb := Nat.le_trans hsz hb
      refine L_move rfl rfl ?_
      refine L_extract rfl rfl rfl ?_
      refine L_extract rfl rfl rfl ?_
      refine L_assign rfl rfl ?_
      refine L_assign rfl rfl ?_
      refine RL_then ?_
      refine W_seq ?_
      refine W_region ?_
      refine L_move rfl rfl ?_
      refine L_move rfl rfl ?_
      refine L_call rfl Try.fun14 rfl (rnew_ok gk s w1 hg1 hg2 hsh) ?_
      rintro _ w2 ⟨g', b', rfl, hs2, hg', hb'⟩
      replace hsz := hs.size
      replace hs := hs.call hs2 (Own.cons hg' (Own.cons hb' Own.nil))
      replace hg' := Nat.le_trans hsz hg'
      replace hb' := Nat.le_trans hsz hb'
      refine L_move rfl rfl ?_
      refine L_extract rfl rfl rfl ?_
      refine L_extract rfl rfl rfl ?_
      refine L_assign rfl rfl ?_
      refine L_assign rfl rfl ?_
      refine RL_then ?_
      refine W_seq ?_
      refine W_region ?_
      refine L_move rfl rfl ?_
      refine L_call rfl Try.fun13 rfl (new_ok gk 4607182418800017408 w2 hg1 hg2 (by decide +kernel)) ?_
      rintro _ w3 ⟨go, bo, rfl, hs3, hgo, hbo⟩
      replace hsz := hs.size
      replace hs := hs.call hs3 (Own.cons hgo (Own.cons hbo Own.nil))
      replace hgo := Nat.le_trans hsz hgo
      replace hbo := Nat.le_trans hsz hbo
      clear hs1 hs2 hs3 hsz
      simp only [List.nil_append, List.append_assoc] at hs
      refine L_move rfl rfl ?_
      refine L_extract rfl rfl rfl ?_
      refine L_extract rfl rfl rfl ?_
      refine L_assign rfl rfl ?_
      refine L_assign rfl rfl ?_
      refine RL_then ?_
      refine W_seq ?_
      refine W_seq ?_
      refine W_region ?_
      refine L_move rfl rfl ?_
      refine L_move rfl rfl ?_
      first | refine L_neq rfl rfl rfl (dtrue (by omega)) ?_ | refine L_neq rfl rfl rfl (dfalse (by omega)) ?_ | refine L_neq rfl rfl rfl rfl ?_
      refine L_move rfl rfl ?_
      first | (refine RL_want rfl rfl ?_; refine L_move rfl rfl ?_) | refine RL_skip rfl rfl rfl rfl ?_ | refine RL_skipU rfl rfl rfl ?_
      first | (refine RL_want rfl rfl ?_; refine L_ptrNil rfl Try.underlying40 rfl rfl ?_) | refine RL_skip rfl rfl rfl rfl ?_ | refine RL_skipU rfl rfl rfl ?_
      first | (refine RL_want rfl rfl ?_; refine L_move rfl rfl ?_) | refine RL_skip rfl rfl rfl rfl ?_ | refine RL_skipU rfl rfl rfl ?_
      first | (refine RL_want rfl rfl ?_; refine L_ptrNil rfl Try.underlying43 rfl rfl ?_) | refine RL_skip rfl rfl rfl rfl ?_ | refine RL_skipU rfl rfl rfl ?_
      first | (refine RL_want rfl rfl ?_; refine RL_val rfl (R_bneq Try.underlying4 rfl rfl) ?_) | refine RL_skip rfl rfl rfl rfl ?_ | refine RL_skipU rfl rfl rfl ?_
      first | refine L_pick_t rfl rfl rfl ?_ | refine L_pick_f rfl rfl rfl ?_
      refine L_move rfl rfl ?_
      first | (refine RL_want rfl rfl ?_; refine L_move rfl rfl ?_) | refine RL_skip rfl rfl rfl rfl ?_ | refine RL_skipU rfl rfl rfl ?_
      first | (refine RL_want rfl rfl ?_; refine L_ptrNotNil rfl Try.underlying40 rfl rfl ?_) | refine RL_skip rfl rfl rfl rfl ?_ | refine RL_skipU rfl rfl rfl ?_
      first | (refine RL_want rfl rfl ?_; refine L_move rfl rfl ?_) | refine RL_skip rfl rfl rfl rfl ?_ | refine RL_skipU rfl rfl rfl ?_
      first | (refine RL_want rfl rfl ?_; refine L_move rfl rfl ?_) | refine RL_skip rfl rfl rfl rfl ?_ | refine RL_skipU rfl rfl rfl ?_
      first | (refine RL_want rfl rfl ?_; refine L_ptrNil rfl Try.underlying40 rfl rfl ?_) | refine RL_skip rfl rfl rfl rfl ?_ | refine RL_skipU rfl rfl rfl ?_
      first | (refine RL_want rfl rfl ?_; (first | refine L_pick_t rfl rfl rfl ?_ | refine L_pick_f rfl rfl rfl ?_)) | refine RL_skip rfl rfl rfl rfl ?_ | refine RL_skipU rfl rfl rfl ?_
      first | refine L_pick_t rfl rfl rfl ?_ | refine L_pick_f rfl rfl rfl ?_
      refine RL_then ?_
      refine W_if_false rfl ?_
      refine W_skip' ?_
      refine Nx_then ?_
      refine W_seq ?_
      refine W_seq ?_
      refine W_region ?_
      refine L_assign rfl rfl ?_
      refine RL_then ?_
      refine W_block ?_
      refine W_loop7 (fun (i : Nat) (fed : Bool) (fedo : Bool) (lm : List Nat) (lf : List Nat) (lo : List Nat) (w : World) => [(0, .int .i64 gk), (2, .slice a k c), (9, .pointer (some ⟨b, 0, none⟩)), (11, .pointer (some ⟨b', 0, none⟩)), (13, .pointer (some ⟨bo, 0, none⟩)), (15, .int .i64 i)]) (fun (i : Nat) (fed : Bool) (fedo : Bool) (lm : List Nat) (lf : List Nat) (lo : List Nat) (w : World) => w) (fun (i : Nat) (fed : Bool) (fedo : Bool) (lm : List Nat) (lf : List Nat) (lo : List Nat) (w : World) => (i ≤ k) ∧ (lm.length = gk) ∧ (lf.length = gk) ∧ (lo.length = gk) ∧ (lm.map cn = lf.map cn) ∧ (HS w0 w (MapL 60 g b gk s fed lm ++ (MapL 62 g' b' gk s fed lf ++ MapL 60 go bo gk 4607182418800017408 fedo lo)))) (fun (i : Nat) (fed : Bool) (fedo : Bool) (lm : List Nat) (lf : List Nat) (lo : List Nat) (w : World) => k - i) (0) (false) (false) (List.replicate gk 0) (List.replicate gk 0) (List.replicate gk 0) (w3) (is := [0, 2, 9, 11, 13, 15]) rfl rfl ?_ ?_
      · exact ⟨Nat.zero_le _, by simp, by simp, by simp, rfl, hs⟩
      · clear hs
        intro i fed fedo lm lf lo w hI
        show W _ _ _ _ [(0, .int .i64 gk), (2, .slice a k c), (9, .pointer (some ⟨b, 0, none⟩)), (11, .pointer (some ⟨b', 0, none⟩)), (13, .pointer (some ⟨bo, 0, none⟩)), (15, .int .i64 i)] w
        obtain ⟨hi, hlm, hlf, hlo, hcn, hs⟩ := hI
        by_cases hlt : i < k
        · obtain ⟨ai, ci, h1, h3, h4, h2⟩ := hr.row i (by omega)
          obtain ⟨row, hrow⟩ : ∃ row, row = rows.getD i [] := ⟨_, rfl⟩
          rw [← hrow] at h1 h3 h4 h2
          obtain ⟨n2, hn2⟩ : ∃ n2, n2 = row.length := ⟨_, rfl⟩
          rw [← hn2] at h1 h3 h4
          have hO : Own w0 (MapL 60 g b gk s fed lm ++ (MapL 62 g' b' gk s fed lf ++ MapL 60 go bo gk 4607182418800017408 fedo lo)) := Own.cons hg (Own.cons hb (Own.cons hg' (Own.cons hb' (Own.cons hgo (Own.cons hbo Own.nil)))))
          have hO' : ∀ {fm ff fo : Bool} {xm xf xo : List Nat}, Own w0 (MapL 60 g b gk s fm xm ++ (MapL 62 g' b' gk s ff xf ++ MapL 60 go bo gk 4607182418800017408 fo xo)) := Own.cons hg (Own.cons hb (Own.cons hg' (Own.cons hb' (Own.cons hgo (Own.cons hbo Own.nil)))))
          have hla : a = some (aD a) := hr.sl.ao (by omega)
          refine W_seq ?_
          refine W_seq ?_
          refine W_region ?_
          refine L_move rfl rfl ?_
          refine L_move rfl rfl ?_
          refine L_len rfl Try.underlying38 rfl ?_
          first | refine L_lss rfl rfl rfl (dtrue (by omega)) ?_ | refine L_lss rfl rfl rfl (dfalse (by omega)) ?_ | refine L_lss rfl rfl rfl rfl ?_
          refine L_move rfl rfl ?_
          first | (refine RL_want rfl rfl ?_; refine L_move rfl rfl ?_) | refine RL_skip rfl rfl rfl rfl ?_ | refine RL_skipU rfl rfl rfl ?_
          first | (refine RL_want rfl rfl ?_; refine L_ptrNotNil rfl Try.underlying40 rfl rfl ?_) | refine RL_skip rfl rfl rfl rfl ?_ | refine RL_skipU rfl rfl rfl ?_
          first | refine L_pick_t rfl rfl rfl ?_ | refine L_pick_f rfl rfl rfl ?_
          refine RL_then ?_
          refine W_if_true rfl ?_
          refine W_skip' ?_
          refine Nx_then ?_
          refine W_seq ?_
          refine W_block ?_
          refine W_seq ?_
          refine W_any (minePhi w0 a ai k c n2 ci i row) (fun i => ([[], [], [], [1, 2], [3], [0, 4], [], [5, 6], [], [], [8, 9], [10], [11], [7, 12], [13]] : List (List Nat)).getD i []) (fun i => ([[], [], [], [], [], [0], [], [5, 6], [], [], [], [], [], [7], [13]] : List (List Nat)).getD i []) Try.mixed (by kernel_rfl) hs ?_ ?_
          · intro o oo d ho hd V M E R w Q' hdep hlook hold hR hs hc
            have old0 : ∀ {m : List (Nat × Obj)}, Own w0 m → Own w0 ((MapL 60 g b gk s fed lm ++ (MapL 62 g' b' gk s fed lf ++ MapL 60 go bo gk 4607182418800017408 fedo lo) ++ R) ++ m) := fun h => (hO.app hR).app h
            match o, ho with
            | 0, ho =>
              cases ho; cases hd
              replace hs : HS w0 w (_ ++ []) := hs
              rw [List.append_nil] at hs
              refine L_buildSlice rfl hs Try.underlying39 Try.ti35 (l := []) rfl (by decide) rfl (by simp) ?_
              intro b0 w hb0 _ hs
              exact hc _ _ _ (show Bl w0 35 1 _ 0 [] _ from .row (sp := []) hb0 rfl rfl (Nat.le_refl _)) (Own.cons hb0 Own.nil) hs
            | 1, ho | 8, ho =>
              cases ho; cases hd
              refine L_move rfl (hold 2 _ rfl (nd (by kernel_rfl))) ?_
              exact hc _ [] w ⟨rfl, rfl⟩ Own.nil hs
            | 2, ho | 9, ho =>
              cases ho; cases hd
              refine L_move rfl (hold 15 _ rfl (nd (by kernel_rfl))) ?_
              exact hc _ [] w ⟨rfl, rfl⟩ Own.nil hs
            | 3, ho =>
              cases ho; cases hd
              have e1 : Lk.look E 107 = some (.slice a k c) := by rw [hlook 1 (by decide) _ _ rfl rfl, (hdep 1 (by decide)).1.1]
              have e2 : Lk.look E 108 = some (.int .i64 i) := by rw [hlook 2 (by decide) _ _ rfl rfl, (hdep 2 (by decide)).1.1]
              refine L_idx1 rfl Try.underlying38 Try.ti39 e1 e2 rfl hlt hla ?_
              exact hc _ [] w ⟨rfl, rfl⟩ Own.nil hs
            | 10, ho =>
              cases ho; cases hd
              have e1 : Lk.look E 114 = some (.slice a k c) := by rw [hlook 8 (by decide) _ _ rfl rfl, (hdep 8 (by decide)).1.1]
              have e2 : Lk.look E 115 = some (.int .i64 i) := by rw [hlook 9 (by decide) _ _ rfl rfl, (hdep 9 (by decide)).1.1]
              refine L_idx1 rfl Try.underlying38 Try.ti39 e1 e2 rfl hlt hla ?_
              exact hc _ [] w ⟨rfl, rfl⟩ Own.nil hs
            | 4, ho =>
              cases ho; cases hd
              have e1 : Lk.look E 109 = some (.pointer (some ((aD a).add i))) := by rw [hlook 3 (by decide) _ _ rfl rfl, (hdep 3 (by decide)).1.1]
              refine L_load rfl Try.one39 e1 ((hr.sl.old hs (old0 Own.nil)).get h1) ?_
              exact hc _ [] w ⟨rfl, rfl⟩ Own.nil hs
            | 11, ho =>
              cases ho; cases hd
              have e1 : Lk.look E 116 = some (.pointer (some ((aD a).add i))) := by rw [hlook 10 (by decide) _ _ rfl rfl, (hdep 10 (by decide)).1.1]
              refine L_load rfl Try.one39 e1 ((hr.sl.old hs (old0 Own.nil)).get h1) ?_
              exact hc _ [] w ⟨rfl, rfl⟩ Own.nil hs
            | 5, ho =>
              cases ho; cases hd
              have hb0 : Bl w0 35 1 (V 0) 0 [] (M 0) := (hdep 0 (by decide)).1
              have e0 : Lk.look E 106 = some (V 0) := hlook 0 (by decide) _ _ rfl rfl
              have e4 : Lk.look E 110 = some (.slice ai n2 ci) := by rw [hlook 4 (by decide) _ _ rfl rfl, (hdep 4 (by decide)).1.1]
              replace hs : HS w0 w (_ ++ (M 0 ++ [])) := hs
              rw [List.append_nil] at hs
              refine L_appendS rfl Try.underlying39 Try.ti35 rfl (by decide) hs hb0 e0 e4 (by rw [fl_length, hn2, Nat.mul_one]) (h2.old hs (old0 hb0.own)) (fl_one _) (by omega) (by omega) ?_
              intro v' w M' hs hbl
              rw [List.nil_append, Nat.zero_add] at hbl
              exact hc _ _ _ hbl hbl.own hs
            | 6, ho =>
              cases ho; cases hd
              replace hs : HS w0 w (_ ++ []) := hs
              rw [List.append_nil] at hs
              refine L_buildSlice rfl hs Try.underlying39 Try.ti35 rfl (by decide) rfl (by simp [Value.cells]) ?_
              intro b0 w hb0 _ hs
              exact hc _ _ _ ⟨b0, rfl, rfl⟩ (Own.cons hb0 Own.nil) hs
            | 7, ho =>
              cases ho; cases hd
              have hb5' : Bl w0 35 1 (V 5) n2 (fl row) (M 5) := (hdep 5 (by decide)).1
              obtain ⟨b6, hv6, hm6⟩ : ∃ b, V 6 = .slice (some ⟨b, 0, none⟩) 1 1 ∧ M 6 = [(b, Row 35 (fl [XB]))] := (hdep 6 (by decide)).1
              have ho6 := (hdep 6 (by decide)).2
              rw [hm6] at ho6
              have e5 : Lk.look E 111 = some (V 5) := hlook 5 (by decide) _ _ rfl rfl
              have e6 : Lk.look E 112 = some (.slice (some ⟨b6, 0, none⟩) 1 1) := by rw [hlook 6 (by decide) _ _ rfl rfl, hv6]
              replace hs : HS w0 w (_ ++ (M 5 ++ (M 6 ++ []))) := hs
              rw [List.append_nil, hm6, ← List.append_assoc] at hs
              refine L_appendT rfl Try.underlying39 Try.ti35 rfl hs ho6.head hb5' e5 e6 rfl (fl_one _) (by omega) (by omega) ?_
              intro v' w M' hs hbl
              exact hc _ _ _ hbl hbl.own hs
            | 12, ho =>
              cases ho; cases hd
              have e1 : Lk.look E 117 = some (.slice ai n2 ci) := by rw [hlook 11 (by decide) _ _ rfl rfl, (hdep 11 (by decide)).1.1]
              refine L_len rfl Try.underlying39 e1 ?_
              exact hc _ [] w ⟨rfl, rfl⟩ Own.nil hs
            | 13, ho =>
              cases ho; cases hd
              have hb7 : Bl w0 35 1 (V 7) (n2 + 1) (fl row ++ fl [XB]) (M 7) := (hdep 7 (by decide)).1
              have ho7 := (hdep 7 (by decide)).2
              obtain ⟨g7, cap7, sp7, hv7, hm7, hg7, hc7, hn7⟩ := hb7.own_row (by omega)
              have e7 : Lk.look E 113 = some (.slice (some ⟨g7, 0, none⟩) (n2 + 1) cap7) := by rw [hlook 7 (by decide) _ _ rfl rfl, hv7]
              have e12 : Lk.look E 118 = some (.int .i64 n2) := by rw [hlook 12 (by decide) _ _ rfl rfl, (hdep 12 (by decide)).1.1]
              replace hs : HS w0 w (_ ++ (M 7 ++ [])) := hs
              rw [List.append_nil] at hs
              refine RL_val rfl (R_slice010 Try.underlying39 Try.ti35 e7 e12 rfl (by omega)) ?_
              exact hc _ (M 7) w ⟨g7, cap7, sp7, rfl, hn7, hm7⟩ ho7 hs
            | 14, ho =>
              cases ho; cases hd
              have ho13 := (hdep 13 (by decide)).2
              have e13 : Lk.look E 119 = some (V 13) := hlook 13 (by decide) _ _ rfl rfl
              replace hs : HS w0 w (_ ++ (M 13 ++ [])) := hs
              rw [List.append_nil] at hs
              refine L_assign rfl e13 ?_
              exact hc _ (M 13) w (hdep 13 (by decide)).1 ho13 hs
          · intro V M own w hΦ hs hown hnd E hold hlook
            replace hs := hs.pickOwn (k := 14) ((hown 14).2 ⟨by decide, by decide⟩) (fun j hj => (hΦ j ((hown j).1 hj).1).2)
            have hoM := (hΦ 14 (by decide)).2
            obtain ⟨gm, capm, spm, hvm, hcapm, hmm⟩ : ∃ g cap sp, V 14 = .slice (some ⟨g, 0, none⟩) n2 cap ∧ n2 + 1 ≤ cap ∧ M 14 = [(g, Row 35 (fl row ++ fl [XB] ++ sp))] := (hΦ 14 (by decide)).1
            rw [hmm] at hs hoM
            have hgm := hoM.head
            have e16 : Lk.look E 16 = some (.slice (some ⟨gm, 0, none⟩) n2 capm) := by rw [hlook 14 _ _ rfl rfl, hvm]
            refine Nx_env (e := [(0, .int .i64 gk), (2, .slice a k c), (9, .pointer (some ⟨b, 0, none⟩)), (11, .pointer (some ⟨b', 0, none⟩)), (13, .pointer (some ⟨bo, 0, none⟩)), (15, .int .i64 i), (16, .slice (some ⟨gm, 0, none⟩) n2 capm)]) ?_ (looks_cons (hold 0 _ rfl (nd (by kernel_rfl))) (looks_cons (hold 2 _ rfl (nd (by kernel_rfl))) (looks_cons (hold 9 _ rfl (nd (by kernel_rfl))) (looks_cons (hold 11 _ rfl (nd (by kernel_rfl))) (looks_cons (hold 13 _ rfl (nd (by kernel_rfl))) (looks_cons (hold 15 _ rfl (nd (by kernel_rfl))) (looks_cons e16 looks_nil)))))))
            clear hΦ hown hold hlook hnd hmm hvm e16 hoM
            subst hn2
            have hltr : 0 < row.length → (aD ai).block < w0.heap.size := fun h => by
              have := World.block_lt_of_cell? w0 _ (h2.2 0 _ (fl_get h))
              rwa [Lk.block_add] at this
            have hOm := hO.app (Own.cons (o := Row 35 (fl row ++ fl [XB] ++ spm)) hgm Own.nil)
            refine Nx_then ?_
            refine W_seq ?_
            refine W_region ?_
            refine L_move rfl rfl ?_
            refine L_move rfl rfl ?_
            refine L_move rfl rfl ?_
            refine L_idx1 rfl Try.underlying38 Try.ti39 rfl rfl (by with_reducible first | exact natc_k _ | exact natc_a1 _ | exact natc_0 | exact natc_1 | exact natc_2 | exact natc_s1 _ (by omega) | exact natc_a2 _ | exact natc_add _ _ | exact natc_mul _ _ | exact natc (by omega)) (by omega) hla ?_
            refine L_load rfl Try.one39 rfl (by exact (hr.sl.old hs hOm).get h1) ?_
            refine L_call rfl Try.fun15 rfl (rfeed_any b' g' gk s fed lf row ai ci w ⟨hs.get (i := 3) rfl, hs.get (i := 2) rfl, hlf⟩ (by have := hs.nodup; simp at this; exact this.2.2.1.1) (h2.old hs hOm) hg1 hg2 (fun h => by have := hltr h; omega)) ?_
            rintro _ w1 ⟨v1, N1, out1, lf1, fed1, e1, rfl, hs1, hbl1, hlf1, hst1⟩
            have hN1 := hbl1.own
            replace hbl1 : Bl w0 35 1 v1 out1.length (fl out1) N1 := hbl1.mono hs.size
            replace hs := hs.callB (B' := MapL 62 g' b' gk s fed1 lf1) rfl hs1 hN1
            replace hN1 := hbl1.own
            refine L_move rfl rfl ?_
            refine L_extract rfl rfl rfl ?_
            refine L_extract rfl rfl rfl ?_
            refine L_assign rfl rfl ?_
            refine L_assign rfl rfl ?_
            refine RL_then ?_
            refine W_seq ?_
            refine W_region ?_
            refine L_move rfl rfl ?_
            refine L_move rfl rfl ?_
            have hmine : SlC w1 (some ⟨gm, 0, none⟩) (fl row) := SlC.of_row (sp := fl [XB] ++ spm) (by rw [← List.append_assoc]; exact hs.get (i := 6) rfl)
            have hgmne : gm ≠ g ∧ gm ≠ b := by
              have := hs.nodup
              simp at this
              exact ⟨fun h => this.1.2.2.2.2.2.1 h.symm, fun h => this.2.1.2.2.2.2.1 h.symm⟩
            refine L_call rfl Try.fun16 rfl (feed_any b g gk s fed lm row (some ⟨gm, 0, none⟩) capm w1 ⟨hs.get (i := 1) rfl, hs.get (i := 0) rfl, hlm⟩ (by have := hs.nodup; simp at this; exact this.1.1) hmine hg1 hg2 (fun _ => hgmne)) ?_
            rintro _ w2 ⟨v2, N2, out2, lm2, fed2, e2, rfl, hs2, hbl2, hlm2, hst2⟩
            have hN2 := hbl2.own
            replace hbl2 : Bl w0 35 1 v2 out2.length (fl out2) N2 := hbl2.mono hs.size
            replace hs := hs.callA (A' := MapL 60 g b gk s fed2 lm2) rfl hs2 hN2
            replace hN2 := hbl2.own
            rw [hcn] at hst2
            have hsteq := hst2.trans hst1.symm
            have hee : e2 = e1 := congrArg (·.1) hsteq
            have hff : fed2 = fed1 := congrArg (·.2.1) hsteq
            have hoo : out2.map cn = out1.map cn := congrArg (·.2.2.1) hsteq
            have hll : lm2.map cn = lf1.map cn := congrArg (·.2.2.2) hsteq
            subst hee hff
            have hool : out2.length = out1.length := by have := congrArg List.length hoo; simpa using this
            have hooc : ∀ j, j < out2.length → cn (out2.getD j 0) = cn (out1.getD j 0) := fun j _ => by rw [← getD_map_cn, hoo, getD_map_cn]
            have hol2 : out2.length ≤ gk := by
              have h5 : out2.map cn = (stp gk s fed (lf.map cn) (row.map cn)).2.2.1 := congrArg (·.2.2.1) hst2
              have h6 := stp_len gk s fed (lf.map cn) (row.map cn)
              rw [← h5] at h6
              simpa using h6
            clear hst1 hst2 hsteq hs1 hs2 hcn hmine hOm
            obtain ⟨wa, wc, rfl, _⟩ := hbl1.slice
            obtain ⟨qa, qc, rfl, _⟩ := hbl2.slice
            obtain ⟨G, hG⟩ : ∃ G, G = [(gm, Row 35 (fl row ++ fl [XB] ++ spm))] := ⟨_, rfl⟩
            have hOG : Own w0 ((G ++ N1) ++ N2) := ((hG ▸ Own.cons hgm Own.nil : Own w0 G).app hN1).app hN2
            replace hs : HS w0 w2 ((MapL 60 g b gk s fed2 lm2 ++ (MapL 62 g' b' gk s fed2 lf1 ++ MapL 60 go bo gk 4607182418800017408 fedo lo)) ++ ((G ++ N1) ++ N2)) := by rw [hG]; exact hs
            have hsl1 : ∀ {w : World} {A : List (Nat × Obj)}, HS w0 w (A ++ ((G ++ N1) ++ N2)) → SlC w wa (fl out1) := fun {w A} hs => hbl1.slc (L := A ++ (G ++ N2)) (hs.mem_perm (by
              rw [List.append_assoc, List.append_assoc, List.append_assoc]
              exact List.Perm.append_left _ (List.Perm.append_left _ List.perm_append_comm)))
            have hsl2 : ∀ {w : World} {A : List (Nat × Obj)}, HS w0 w (A ++ ((G ++ N1) ++ N2)) → SlC w qa (fl out2) := fun {w A} hs => hbl2.slc (L := A ++ (G ++ N1)) (by rw [List.append_assoc]; exact hs)
            have hslm : ∀ {w : World} {A : List (Nat × Obj)}, HS w0 w (A ++ ((G ++ N1) ++ N2)) → w.heap[gm]? = some (Row 35 (fl row ++ (fl [XB] ++ spm))) := fun {w A} hs => by
              rw [hG] at hs
              rw [← List.append_assoc]
              exact hs.has (gm, _) (by simp)
            have hXB : (fl row ++ (fl [XB] ++ spm))[row.length]? = some (.float .f64 XB) := by simp [fl]
            refine L_move rfl rfl ?_
            refine L_extract rfl rfl rfl ?_
            refine L_extract rfl rfl rfl ?_
            refine L_assign rfl rfl ?_
            refine L_assign rfl rfl ?_
            refine RL_then ?_
            refine W_seq ?_
            refine W_seq ?_
            refine W_sg Try.mixed ?_
            replace hs := hs.drewN 1
            refine SG_stage [0, 1, 2, 3, 4, 5] [] [6, 7, 8, 9] (fun _ _ _ => False) (g' := 26) (by kernel_rfl) (by kernel_rfl) (fun _ _ _ _ _ h => h) hs ?_
            refine PL_val rfl (fun w => R_move rfl) ?_
            refine PL_val rfl (fun w => R_move rfl) ?_
            first | refine PL_val rfl (fun w => R_neq rfl rfl (dtrue (by omega))) ?_ | refine PL_val rfl (fun w => R_neq rfl rfl (dfalse (by omega))) ?_ | refine PL_val rfl (fun w => R_neq rfl rfl rfl) ?_
            refine PL_val rfl (fun w => R_move rfl) ?_
            first | refine PL_want rfl rfl rfl (fun w => R_move rfl) ?_ | refine PL_skip rfl rfl rfl rfl ?_ | refine PL_skipU rfl rfl rfl ?_
            first | refine PL_want rfl rfl rfl (fun w => R_move rfl) ?_ | refine PL_skip rfl rfl rfl rfl ?_ | refine PL_skipU rfl rfl rfl ?_
            refine PL_end ?_
            refine HL_tail ?_
            intro w hs
            refine RL_want rfl rfl ?_
            refine L_call rfl Try.fun17 rfl (same_floats qa wa qc wc out2 out1 w (hsl2 hs) (hsl1 hs) hool hooc (by omega)) ?_
            rintro _ w ⟨rfl, hs'⟩
            replace hs := hs.nil hs'
            first | (refine RL_want rfl rfl ?_; refine L_not rfl rfl ?_) | refine RL_skip rfl rfl rfl rfl ?_ | refine RL_skipU rfl rfl rfl ?_
            first | refine L_pick_t rfl rfl rfl ?_ | refine L_pick_f rfl rfl rfl ?_
            refine L_move rfl rfl ?_
            refine RL_sg ?_
            refine SG_stage [10, 11, 12, 13] [14] [15, 16, 17, 18] (fun _ _ _ => False) (g' := 17) (by kernel_rfl) (by kernel_rfl) (fun _ _ _ _ _ h => h) hs ?_
            first | refine PL_want rfl rfl rfl (fun w => R_move rfl) ?_ | refine PL_skip rfl rfl rfl rfl ?_ | refine PL_skipU rfl rfl rfl ?_
            first | refine PL_want rfl rfl rfl (fun w => R_move rfl) ?_ | refine PL_skip rfl rfl rfl rfl ?_ | refine PL_skipU rfl rfl rfl ?_
            first | refine PL_want rfl rfl rfl (fun w => R_move rfl) ?_ | refine PL_skip rfl rfl rfl rfl ?_ | refine PL_skipU rfl rfl rfl ?_
            first | refine PL_want rfl rfl rfl (fun w => R_idx1 Try.underlying38 Try.ti39 rfl rfl (by with_reducible first | exact natc_k _ | exact natc_a1 _ | exact natc_0 | exact natc_1 | exact natc_2 | exact natc_s1 _ (by omega) | exact natc_a2 _ | exact natc_add _ _ | exact natc_mul _ _ | exact natc (by omega)) (by omega) (by first | rfl | exact hla)) ?_ | refine PL_skip rfl rfl rfl rfl ?_ | refine PL_skipU rfl rfl rfl ?_
            refine PL_end ?_
            first | (refine HL_want rfl rfl ?_; refine HL_val rfl (fun w hs => R_load Try.one39 rfl (by first | exact (hr.sl.old hs (hO'.app hOG)).get h1 | (rw [add_lit0]; exact Lk.cell_of_row (hslm hs) hXB))) ?_) | refine HL_skip rfl rfl rfl rfl ?_ | refine HL_skipU rfl rfl rfl ?_
            refine HL_tail ?_
            intro w hs
            refine RL_want rfl rfl ?_
            refine L_call rfl Try.fun17 rfl (same_floats (some ⟨gm, 0, none⟩) ai capm ci row row w (SlC.of_row (hslm hs)) (h2.old hs (hO'.app hOG)) rfl (fun _ _ => rfl) (by omega)) ?_
            rintro _ w ⟨rfl, hs'⟩
            replace hs := hs.nil hs'
            first | (refine RL_want rfl rfl ?_; refine L_not rfl rfl ?_) | refine RL_skip rfl rfl rfl rfl ?_ | refine RL_skipU rfl rfl rfl ?_
            first | refine L_pick_t rfl rfl rfl ?_ | refine L_pick_f rfl rfl rfl ?_
            refine L_move rfl rfl ?_
            refine RL_sg ?_
            refine SG_stage [19, 20, 21, 22, 27, 28, 29] [23, 24, 25, 26, 30, 31, 32, 33, 34, 35] [] (fun _ _ _ => False) (g' := 0) (by kernel_rfl) (by kernel_rfl) (fun _ _ _ _ _ h => h) hs ?_
            first | refine PL_want rfl rfl rfl (fun w => R_move rfl) ?_ | refine PL_skip rfl rfl rfl rfl ?_ | refine PL_skipU rfl rfl rfl ?_
            first | refine PL_want rfl rfl rfl (fun w => R_move rfl) ?_ | refine PL_skip rfl rfl rfl rfl ?_ | refine PL_skipU rfl rfl rfl ?_
            first | refine PL_want rfl rfl rfl (fun w => R_move rfl) ?_ | refine PL_skip rfl rfl rfl rfl ?_ | refine PL_skipU rfl rfl rfl ?_
            first | refine PL_want rfl rfl rfl (fun w => R_idx1 Try.underlying38 Try.ti39 rfl rfl (by with_reducible first | exact natc_k _ | exact natc_a1 _ | exact natc_0 | exact natc_1 | exact natc_2 | exact natc_s1 _ (by omega) | exact natc_a2 _ | exact natc_add _ _ | exact natc_mul _ _ | exact natc (by omega)) (by omega) (by first | rfl | exact hla)) ?_ | refine PL_skip rfl rfl rfl rfl ?_ | refine PL_skipU rfl rfl rfl ?_
            first | refine PL_want rfl rfl rfl (fun w => R_move rfl) ?_ | refine PL_skip rfl rfl rfl rfl ?_ | refine PL_skipU rfl rfl rfl ?_
            first | refine PL_want rfl rfl rfl (fun w => R_move rfl) ?_ | refine PL_skip rfl rfl rfl rfl ?_ | refine PL_skipU rfl rfl rfl ?_
            first | refine PL_want rfl rfl rfl (fun w => R_idx1 Try.underlying38 Try.ti39 rfl rfl (by with_reducible first | exact natc_k _ | exact natc_a1 _ | exact natc_0 | exact natc_1 | exact natc_2 | exact natc_s1 _ (by omega) | exact natc_a2 _ | exact natc_add _ _ | exact natc_mul _ _ | exact natc (by omega)) (by omega) (by first | rfl | exact hla)) ?_ | refine PL_skip rfl rfl rfl rfl ?_ | refine PL_skipU rfl rfl rfl ?_
            refine PL_end ?_
            first | (refine HL_want rfl rfl ?_; refine HL_val rfl (fun w hs => R_load Try.one39 rfl (by first | exact (hr.sl.old hs (hO'.app hOG)).get h1 | (rw [add_lit0]; exact Lk.cell_of_row (hslm hs) hXB))) ?_) | refine HL_skip rfl rfl rfl rfl ?_ | refine HL_skipU rfl rfl rfl ?_
            first | (refine HL_want rfl rfl ?_; refine HL_val rfl (fun w hs => R_len Try.underlying39 rfl) ?_) | refine HL_skip rfl rfl rfl rfl ?_ | refine HL_skipU rfl rfl rfl ?_
            first | (refine HL_want rfl rfl ?_; (first | refine HL_val rfl (fun w hs => R_add rfl rfl (wrp_i64 (by omega))) ?_ | refine HL_val rfl (fun w hs => R_add rfl rfl rfl) ?_)) | refine HL_skip rfl rfl rfl rfl ?_ | refine HL_skipU rfl rfl rfl ?_
            first | (refine HL_want rfl rfl ?_; refine HL_val rfl (fun w hs => R_slice010 Try.underlying39 Try.ti35 rfl rfl (by with_reducible first | exact natc_k _ | exact natc_a1 _ | exact natc_0 | exact natc_1 | exact natc_2 | exact natc_s1 _ (by omega) | exact natc_a2 _ | exact natc_add _ _ | exact natc_mul _ _ | exact natc (by omega)) (by omega)) ?_) | refine HL_skip rfl rfl rfl rfl ?_ | refine HL_skipU rfl rfl rfl ?_
            first | (refine HL_want rfl rfl ?_; refine HL_val rfl (fun w hs => R_load Try.one39 rfl (by first | exact (hr.sl.old hs (hO'.app hOG)).get h1 | (rw [add_lit0]; exact Lk.cell_of_row (hslm hs) hXB))) ?_) | refine HL_skip rfl rfl rfl rfl ?_ | refine HL_skipU rfl rfl rfl ?_
            first | (refine HL_want rfl rfl ?_; refine HL_val rfl (fun w hs => R_len Try.underlying39 rfl) ?_) | refine HL_skip rfl rfl rfl rfl ?_ | refine HL_skipU rfl rfl rfl ?_
            first | (refine HL_want rfl rfl ?_; refine HL_val rfl (fun w hs => R_idx1 Try.underlying39 Try.ti35 rfl rfl (by with_reducible first | exact natc_k _ | exact natc_a1 _ | exact natc_0 | exact natc_1 | exact natc_2 | exact natc_s1 _ (by omega) | exact natc_a2 _ | exact natc_add _ _ | exact natc_mul _ _ | exact natc (by omega)) (by omega) (by first | rfl | exact hla)) ?_) | refine HL_skip rfl rfl rfl rfl ?_ | refine HL_skipU rfl rfl rfl ?_
            first | (refine HL_want rfl rfl ?_; refine HL_val rfl (fun w hs => R_load Try.one35 rfl (by first | exact (hr.sl.old hs (hO'.app hOG)).get h1 | (rw [add_lit0]; exact Lk.cell_of_row (hslm hs) hXB))) ?_) | refine HL_skip rfl rfl rfl rfl ?_ | refine HL_skipU rfl rfl rfl ?_
            first | (refine HL_want rfl rfl ?_; refine HL_val rfl (fun w hs => R_fcmp rfl rfl (fun _ => by rw [binOp_float_cmp_neq]; rfl)) ?_) | refine HL_skip rfl rfl rfl rfl ?_ | refine HL_skipU rfl rfl rfl ?_
            rw [show (FloatKind.f64.format.order XB 4635118810238550016 != some .eq) = false from fneq_num (x := XB) (by decide +kernel)]
            first | refine HL_val rfl (fun w hs => R_pick_t rfl rfl) ?_ | refine HL_val rfl (fun w hs => R_pick_f rfl rfl) ?_
            refine HL_tail ?_
            intro w hs
            refine RL_sg ?_
            refine SG_end (by kernel_rfl) ?_
            refine Nx_then ?_
            refine W_if_false rfl ?_
            refine W_skip' ?_
            refine Nx_then ?_
            refine W_seq ?_
            refine W_seq ?_
            refine W_region ?_
            refine L_assign rfl rfl ?_
            refine RL_then ?_
            refine W_block ?_
            obtain ⟨A6, hA6⟩ : ∃ A6, A6 = MapL 60 g b gk s fed2 lm2 ++ (MapL 62 g' b' gk s fed2 lf1 ++ MapL 60 go bo gk 4607182418800017408 fedo lo) := ⟨_, rfl⟩
            have hOA : Own w0 A6 := by rw [hA6]; exact hO'
            rw [← hA6] at hs
            replace hs : HS w0 w (A6 ++ (gm, Row 35 (fl row ++ (fl [XB] ++ spm))) :: N2) := by
              have h5 : HS w0 w ((A6 ++ (G ++ N2)) ++ N1) := hs.mem_perm (by
                rw [List.append_assoc, List.append_assoc, List.append_assoc]
                exact List.Perm.append_left _ (List.Perm.append_left _ List.perm_append_comm))
              have h6 := h5.dropR hN1
              rw [hG, List.append_assoc] at h6
              exact h6
            refine W_loop3 (fun (p : Nat) (xs : List Nat) (w : World) => [(0, .int .i64 gk), (2, .slice a k c), (9, .pointer (some ⟨b, 0, none⟩)), (11, .pointer (some ⟨b', 0, none⟩)), (13, .pointer (some ⟨bo, 0, none⟩)), (15, .int .i64 i), (16, .slice (some ⟨gm, 0, none⟩) row.length capm), (19, .slice qa out2.length qc), (21, .int .i64 p)]) (fun (p : Nat) (xs : List Nat) (w : World) => w) (fun (p : Nat) (xs : List Nat) (w : World) => (p ≤ row.length) ∧ (xs.length = row.length) ∧ (HS w0 w (A6 ++ (gm, Row 35 (fl xs ++ (fl [XB] ++ spm))) :: N2))) (fun (p : Nat) (xs : List Nat) (w : World) => row.length - p) (0) (row) (w) (is := [0, 2, 9, 11, 13, 15, 16, 19, 21]) rfl rfl ?_ ?_
            · exact ⟨Nat.zero_le _, rfl, hs⟩
            · clear hs hs' hslm hXB hsl1 hsl2
              intro p xs w hI
              show W _ _ _ _ [(0, .int .i64 gk), (2, .slice a k c), (9, .pointer (some ⟨b, 0, none⟩)), (11, .pointer (some ⟨b', 0, none⟩)), (13, .pointer (some ⟨bo, 0, none⟩)), (15, .int .i64 i), (16, .slice (some ⟨gm, 0, none⟩) row.length capm), (19, .slice qa out2.length qc), (21, .int .i64 p)] w
              obtain ⟨hp, hxs, hs⟩ := hI
              by_cases hlt2 : p < row.length
              · have hL6 : (A6 ++ (gm, Row 35 (fl xs ++ (fl [XB] ++ spm))) :: N2)[A6.length]? = some (gm, Row 35 (fl xs ++ (fl [XB] ++ spm))) := by simp
                refine W_seq ?_
                refine W_seq ?_
                refine W_region ?_
                refine L_move rfl rfl ?_
                refine L_move rfl rfl ?_
                refine L_len rfl Try.underlying39 rfl ?_
                first | refine L_lss rfl rfl rfl (dtrue (by omega)) ?_ | refine L_lss rfl rfl rfl (dfalse (by omega)) ?_ | refine L_lss rfl rfl rfl rfl ?_
                refine RL_then ?_
                refine W_if_true rfl ?_
                refine W_skip' ?_
                refine Nx_then ?_
                refine W_seq ?_
                refine W_block ?_
                refine W_region ?_
                refine L_move rfl rfl ?_
                refine L_move rfl rfl ?_
                refine L_idx1 rfl Try.underlying39 Try.ti35 rfl rfl (by with_reducible first | exact natc_k _ | exact natc_a1 _ | exact natc_0 | exact natc_1 | exact natc_2 | exact natc_s1 _ (by omega) | exact natc_a2 _ | exact natc_add _ _ | exact natc_mul _ _ | exact natc (by omega)) (by omega) rfl ?_
                refine L_store hs (i := A6.length) hL6 Try.ti35 rfl rfl (by first | rfl | exact add_lit0 _ _) (by simp; omega) rfl ?_
                intro w hs
                try dsimp only [List.set_cons_succ, List.set_cons_zero, List.cons_append, List.nil_append] at hs
                refine RL_nil' ?_
                refine Nx_block ?_
                refine Nx_then ?_
                refine W_region ?_
                refine L_move rfl rfl ?_
                first | refine L_add rfl rfl rfl (wrp_i64 (by omega)) ?_ | refine L_add rfl rfl rfl rfl ?_
                refine L_assign rfl rfl ?_
                refine RL_nil' ?_
                rw [set_mid, fl_set' _ _ _ _ (by omega)] at hs
                refine Nx_loopP (p + 1, xs.set p 13840687554816376832, w) (is := [0, 2, 9, 11, 13, 15, 16, 19, 21]) (I' := (fun (p : Nat) (xs : List Nat) (w : World) => (p ≤ row.length) ∧ (xs.length = row.length) ∧ (HS w0 w (A6 ++ (gm, Row 35 (fl xs ++ (fl [XB] ++ spm))) :: N2))) (p + 1) (xs.set p 13840687554816376832) (w)) rfl rfl rfl ?_ ?_
                · exact ⟨by omega, by simp [hxs], hs⟩
                · omega
              · refine W_seq ?_
                refine W_seq ?_
                refine W_region ?_
                refine L_move rfl rfl ?_
                refine L_move rfl rfl ?_
                refine L_len rfl Try.underlying39 rfl ?_
                first | refine L_lss rfl rfl rfl (dtrue (by omega)) ?_ | refine L_lss rfl rfl rfl (dfalse (by omega)) ?_ | refine L_lss rfl rfl rfl rfl ?_
                refine RL_then ?_
                refine W_if_false rfl ?_
                refine W_exit' ?_
                refine Ex_then_exit ?_
                refine Ex_loop_exit ?_
                refine Ex_block_hit ?_
                refine Nx_then ?_
                refine W_seq ?_
                refine W_seq ?_
                refine W_region ?_
                refine L_assign rfl rfl ?_
                refine RL_then ?_
                refine W_block ?_
                replace hs : HS w0 w (A6 ++ N2) := by
                  have h5 : HS w0 w ((A6 ++ N2) ++ [(gm, Row 35 (fl xs ++ (fl [XB] ++ spm)))]) := hs.mem_perm (by
                    rw [List.append_assoc]
                    exact List.Perm.append_left _ (by simpa using (List.perm_append_comm (l₁ := [(gm, Row 35 (fl xs ++ (fl [XB] ++ spm)))]) (l₂ := N2))))
                  exact h5.dropR (Own.cons hgm Own.nil)
                clear hxs hp hlt2
                obtain ⟨n3, hn3⟩ : ∃ n3, n3 = out2.length := ⟨_, rfl⟩
                rw [← hn3] at hbl2 hol2 ⊢
                refine W_loop4 (fun (p : Nat) (xs : List Nat) (N : List (Nat × Obj)) (w : World) => [(0, .int .i64 gk), (2, .slice a k c), (9, .pointer (some ⟨b, 0, none⟩)), (11, .pointer (some ⟨b', 0, none⟩)), (13, .pointer (some ⟨bo, 0, none⟩)), (15, .int .i64 i), (19, .slice qa n3 qc), (22, .int .i64 p)]) (fun (p : Nat) (xs : List Nat) (N : List (Nat × Obj)) (w : World) => w) (fun (p : Nat) (xs : List Nat) (N : List (Nat × Obj)) (w : World) => (p ≤ n3) ∧ (Bl w0 35 1 (.slice qa n3 qc) n3 (fl xs) N) ∧ (HS w0 w (A6 ++ N))) (fun (p : Nat) (xs : List Nat) (N : List (Nat × Obj)) (w : World) => n3 - p) (0) (out2) (N2) (w) (is := [0, 2, 9, 11, 13, 15, 19, 22]) rfl rfl ?_ ?_
                · exact ⟨Nat.zero_le _, hbl2, hs⟩
                · clear hs hbl2 hN2 hOG
                  intro p xs N w hI
                  show W _ _ _ _ [(0, .int .i64 gk), (2, .slice a k c), (9, .pointer (some ⟨b, 0, none⟩)), (11, .pointer (some ⟨b', 0, none⟩)), (13, .pointer (some ⟨bo, 0, none⟩)), (15, .int .i64 i), (19, .slice qa n3 qc), (22, .int .i64 p)] w
                  obtain ⟨hp, hbl, hs⟩ := hI
                  by_cases hlt2 : p < n3
                  · obtain ⟨q, cap, sp, h5, rfl, h6, h7, h8⟩ := hbl.own_row (by omega)
                    injection h5 with h5 _ h9
                    have hxl := hbl.len
                    simp at hxl
                    have hL6 : (A6 ++ [(q, Row 35 (fl xs ++ sp))])[A6.length]? = some (q, Row 35 (fl xs ++ sp)) := by simp
                    refine W_seq ?_
                    refine W_seq ?_
                    refine W_region ?_
                    refine L_move rfl rfl ?_
                    refine L_move rfl rfl ?_
                    refine L_len rfl Try.underlying39 rfl ?_
                    first | refine L_lss rfl rfl rfl (dtrue (by omega)) ?_ | refine L_lss rfl rfl rfl (dfalse (by omega)) ?_ | refine L_lss rfl rfl rfl rfl ?_
                    refine RL_then ?_
                    refine W_if_true rfl ?_
                    refine W_skip' ?_
                    refine Nx_then ?_
                    refine W_seq ?_
                    refine W_block ?_
                    refine W_region ?_
                    refine L_move rfl rfl ?_
                    refine L_move rfl rfl ?_
                    refine L_idx1 rfl Try.underlying39 Try.ti35 rfl rfl (by with_reducible first | exact natc_k _ | exact natc_a1 _ | exact natc_0 | exact natc_1 | exact natc_2 | exact natc_s1 _ (by omega) | exact natc_a2 _ | exact natc_add _ _ | exact natc_mul _ _ | exact natc (by omega)) (by omega) h5 ?_
                    refine L_store hs (i := A6.length) hL6 Try.ti35 rfl rfl (by first | rfl | exact add_lit0 _ _) (by simp; omega) rfl ?_
                    intro w hs
                    try dsimp only [List.set_cons_succ, List.set_cons_zero, List.cons_append, List.nil_append] at hs
                    refine RL_nil' ?_
                    refine Nx_block ?_
                    refine Nx_then ?_
                    refine W_region ?_
                    refine L_move rfl rfl ?_
                    first | refine L_add rfl rfl rfl (wrp_i64 (by omega)) ?_ | refine L_add rfl rfl rfl rfl ?_
                    refine L_assign rfl rfl ?_
                    refine RL_nil' ?_
                    rw [set_mid, fl_set' _ _ _ _ (by omega)] at hs
                    refine Nx_loopP (p + 1, xs.set p 13841813454723219456, [(q, Row 35 (fl (xs.set p 13841813454723219456) ++ sp))], w) (is := [0, 2, 9, 11, 13, 15, 19, 22]) (I' := (fun (p : Nat) (xs : List Nat) (N : List (Nat × Obj)) (w : World) => (p ≤ n3) ∧ (Bl w0 35 1 (.slice qa n3 qc) n3 (fl xs) N) ∧ (HS w0 w (A6 ++ N))) (p + 1) (xs.set p 13841813454723219456) ([(q, Row 35 (fl (xs.set p 13841813454723219456) ++ sp))]) (w)) rfl rfl rfl ?_ ?_
                    · exact ⟨by omega, by rw [h5, h9]; exact .row h6 (by simp [hxl]) (by simpa using h7) h8, hs⟩
                    · omega
                  · refine W_seq ?_
                    refine W_seq ?_
                    refine W_region ?_
                    refine L_move rfl rfl ?_
                    refine L_move rfl rfl ?_
                    refine L_len rfl Try.underlying39 rfl ?_
                    first | refine L_lss rfl rfl rfl (dtrue (by omega)) ?_ | refine L_lss rfl rfl rfl (dfalse (by omega)) ?_ | refine L_lss rfl rfl rfl rfl ?_
                    refine RL_then ?_
                    refine W_if_false rfl ?_
                    replace hs := hs.dropR hbl.own
                    rw [hA6] at hs
                    refine W_exit' ?_
                    refine Ex_then_exit ?_
                    refine Ex_loop_exit ?_
                    refine Ex_block_hit ?_
                    refine Nx_then ?_
                    refine W_seq ?_
                    refine W_region ?_
                    refine L_move rfl rfl ?_
                    refine L_move rfl rfl ?_
                    refine L_move rfl rfl ?_
                    refine L_idx1 rfl Try.underlying38 Try.ti39 rfl rfl (by with_reducible first | exact natc_k _ | exact natc_a1 _ | exact natc_0 | exact natc_1 | exact natc_2 | exact natc_s1 _ (by omega) | exact natc_a2 _ | exact natc_add _ _ | exact natc_mul _ _ | exact natc (by omega)) (by omega) hla ?_
                    refine L_load rfl Try.one39 rfl (by exact (hr.sl.old hs hO').get h1) ?_
                    refine L_call rfl Try.fun16 rfl (feed_any bo go gk 4607182418800017408 fedo lo row ai ci w ⟨hs.get (i := 5) rfl, hs.get (i := 4) rfl, hlo⟩ (by have := hs.nodup; simp at this; exact this.2.2.2.2) (h2.old hs hO') hg1 hg2 (fun h => by have := hltr h; omega)) ?_
                    rintro _ w' ⟨v3, N3, out3, lo3, fedo3, e3, rfl, hs3, hbl3, hlo3, _⟩
                    have hN3 := hbl3.own
                    replace hbl3 : Bl w0 35 1 v3 out3.length (fl out3) N3 := hbl3.mono hs.size
                    rw [← List.append_nil (MapL 60 g b gk s fed2 lm2 ++ _)] at hs
                    replace hs := (hs.callC (C' := MapL 60 go bo gk 4607182418800017408 fedo3 lo3) rfl hs3 hN3).dropR (Own.nil.app hbl3.own)
                    obtain ⟨mn, hmn, hmn4⟩ : ∃ mn : Int, (if (40 : Int) < (gk : Int) then 40 else (gk : Int)) = mn ∧ mn ≤ 40 := ⟨_, rfl, by split <;> omega⟩
                    replace hs : HS w0 w' (MapL 60 g b gk s fed2 lm2 ++ (MapL 62 g' b' gk s fed2 lf1 ++ MapL 60 go bo gk 4607182418800017408 fedo3 lo3)) := hs
                    clear hs3 hbl3 hN3
                    refine RL_then ?_
                    refine W_seq ?_
                    refine W_seq ?_
                    refine W_region ?_
                    refine L_assign rfl rfl ?_
                    refine RL_then ?_
                    refine W_block ?_
                    refine W_loop2 (fun (j : Int) (w : World) => [(0, .int .i64 gk), (2, .slice a k c), (9, .pointer (some ⟨b, 0, none⟩)), (11, .pointer (some ⟨b', 0, none⟩)), (13, .pointer (some ⟨bo, 0, none⟩)), (15, .int .i64 i), (23, .int .i64 j)]) (fun (j : Int) (w : World) => w) (fun (j : Int) (w : World) => (-1 ≤ j) ∧ (HS w0 w (MapL 60 g b gk s fed2 lm2 ++ (MapL 62 g' b' gk s fed2 lf1 ++ MapL 60 go bo gk 4607182418800017408 fedo3 lo3)))) (fun (j : Int) (w : World) => (42 - j).toNat) (-1) (w') (is := [0, 2, 9, 11, 13, 15, 23]) rfl rfl ?_ ?_
                    · exact ⟨by omega, hs⟩
                    · clear hs
                      intro j w hI
                      show W _ _ _ _ [(0, .int .i64 gk), (2, .slice a k c), (9, .pointer (some ⟨b, 0, none⟩)), (11, .pointer (some ⟨b', 0, none⟩)), (13, .pointer (some ⟨bo, 0, none⟩)), (15, .int .i64 i), (23, .int .i64 j)] w
                      obtain ⟨hj, hs⟩ := hI
                      by_cases hlt3 : j ≤ mn
                      · refine W_seq ?_
                        refine W_seq ?_
                        refine W_region ?_
                        refine L_move rfl rfl ?_
                        refine L_move rfl rfl ?_
                        refine RL_val rfl (R_minI rfl rfl hmn) ?_
                        first | refine L_leq rfl rfl rfl (dtrue (by omega)) ?_ | refine L_leq rfl rfl rfl (dfalse (by omega)) ?_ | refine L_leq rfl rfl rfl rfl ?_
                        refine RL_then ?_
                        refine W_if_true rfl ?_
                        refine W_skip' ?_
                        refine Nx_then ?_
                        refine W_seq ?_
                        refine W_block ?_
                        refine W_seq ?_
                        refine W_region ?_
                        refine L_move rfl rfl ?_
                        refine L_move rfl rfl ?_
                        refine L_call rfl Try.fun18 rfl (level_any b g gk s fed2 lm2 j w ⟨hs.get (i := 1) rfl, hs.get (i := 0) rfl, hlm2⟩) ?_
                        rintro _ w ⟨x1, ok1, rfl, rfl, hx1⟩
                        refine L_move rfl rfl ?_
                        refine L_extract rfl rfl rfl ?_
                        refine L_extract rfl rfl rfl ?_
                        refine L_assign rfl rfl ?_
                        refine L_assign rfl rfl ?_
                        refine RL_then ?_
                        refine W_seq ?_
                        refine W_region ?_
                        refine L_move rfl rfl ?_
                        refine L_move rfl rfl ?_
                        refine L_call rfl Try.fun19 rfl (rlevel_any b' g' gk s fed2 lf1 j w ⟨hs.get (i := 3) rfl, hs.get (i := 2) rfl, hlf1⟩) ?_
                        rintro _ w ⟨x2, ok2, rfl, rfl, hx2⟩
                        rw [hll] at hx1
                        have hx := hx1.trans hx2.symm
                        injection hx with hxc hxo
                        subst hxo
                        refine L_move rfl rfl ?_
                        refine L_extract rfl rfl rfl ?_
                        refine L_extract rfl rfl rfl ?_
                        refine L_assign rfl rfl ?_
                        refine L_assign rfl rfl ?_
                        refine RL_then ?_
                        refine W_seq ?_
                        refine W_region ?_
                        refine L_move rfl rfl ?_
                        refine L_move rfl rfl ?_
                        refine RL_val rfl (R_bneq Try.underlying4 rfl rfl) ?_
                        refine L_move rfl rfl ?_
                        refine RL_set 216 (v' := .bool false) rfl (by cases ok1 <;> rfl) ?_
                        first | (refine RL_want rfl rfl ?_; refine L_move rfl rfl ?_) | refine RL_skip rfl rfl rfl rfl ?_ | refine RL_skipU rfl rfl rfl ?_
                        first | (refine RL_want rfl rfl ?_; refine L_move rfl rfl ?_) | refine RL_skip rfl rfl rfl rfl ?_ | refine RL_skipU rfl rfl rfl ?_
                        refine RL_want rfl rfl ?_
                        refine L_call rfl Try.fun20 rfl (same_float x1 x2 w hxc) ?_
                        rintro _ w ⟨rfl, rfl⟩
                        first | (refine RL_want rfl rfl ?_; refine L_not rfl rfl ?_) | refine RL_skip rfl rfl rfl rfl ?_ | refine RL_skipU rfl rfl rfl ?_
                        first | refine L_pick_t rfl rfl rfl ?_ | refine L_pick_f rfl rfl rfl ?_
                        refine RL_then ?_
                        refine W_if_false rfl ?_
                        refine W_skip' ?_
                        refine Nx_block ?_
                        refine Nx_then ?_
                        refine W_region ?_
                        refine L_move rfl rfl ?_
                        first | refine L_add rfl rfl rfl (wrp_i64 (by omega)) ?_ | refine L_add rfl rfl rfl rfl ?_
                        refine L_assign rfl rfl ?_
                        refine RL_nil' ?_
                        refine Nx_loopP (j + 1, w) (is := [0, 2, 9, 11, 13, 15, 23]) (I' := (fun (j : Int) (w : World) => (-1 ≤ j) ∧ (HS w0 w (MapL 60 g b gk s fed2 lm2 ++ (MapL 62 g' b' gk s fed2 lf1 ++ MapL 60 go bo gk 4607182418800017408 fedo3 lo3)))) (j + 1) (w)) rfl rfl rfl ?_ ?_
                        · exact ⟨by omega, hs⟩
                        · omega
                      · refine W_seq ?_
                        refine W_seq ?_
                        refine W_region ?_
                        refine L_move rfl rfl ?_
                        refine L_move rfl rfl ?_
                        refine RL_val rfl (R_minI rfl rfl hmn) ?_
                        first | refine L_leq rfl rfl rfl (dtrue (by omega)) ?_ | refine L_leq rfl rfl rfl (dfalse (by omega)) ?_ | refine L_leq rfl rfl rfl rfl ?_
                        refine RL_then ?_
                        refine W_if_false rfl ?_
                        refine W_exit' ?_
                        refine Ex_then_exit ?_
                        refine Ex_loop_exit ?_
                        refine Ex_block_hit ?_
                        refine Nx_then ?_
                        refine W_seq ?_
                        refine W_region ?_
                        refine L_move rfl rfl ?_
                        refine L_move rfl rfl ?_
                        first | refine L_sub rfl rfl rfl (wrp_i64 (by omega)) ?_ | refine L_sub rfl rfl rfl rfl ?_
                        refine L_call rfl Try.fun18 rfl (level_any b g gk s fed2 lm2 (gk - 1) w ⟨hs.get (i := 1) rfl, hs.get (i := 0) rfl, hlm2⟩) ?_
                        rintro _ w ⟨x1, ok1, rfl, rfl, hx1⟩
                        refine L_move rfl rfl ?_
                        refine L_extract rfl rfl rfl ?_
                        refine L_extract rfl rfl rfl ?_
                        refine L_assign rfl rfl ?_
                        refine L_assign rfl rfl ?_
                        refine RL_then ?_
                        refine W_seq ?_
                        refine W_region ?_
                        refine L_move rfl rfl ?_
                        refine L_move rfl rfl ?_
                        first | refine L_sub rfl rfl rfl (wrp_i64 (by omega)) ?_ | refine L_sub rfl rfl rfl rfl ?_
                        refine L_call rfl Try.fun19 rfl (rlevel_any b' g' gk s fed2 lf1 (gk - 1) w ⟨hs.get (i := 3) rfl, hs.get (i := 2) rfl, hlf1⟩) ?_
                        rintro _ w ⟨x2, ok2, rfl, rfl, hx2⟩
                        rw [hll] at hx1
                        have hx := hx1.trans hx2.symm
                        injection hx with hxc hxo
                        subst hxo
                        refine L_move rfl rfl ?_
                        refine L_extract rfl rfl rfl ?_
                        refine L_extract rfl rfl rfl ?_
                        refine L_assign rfl rfl ?_
                        refine L_assign rfl rfl ?_
                        refine RL_then ?_
                        refine W_seq ?_
                        refine W_region ?_
                        refine L_move rfl rfl ?_
                        refine L_move rfl rfl ?_
                        refine RL_val rfl (R_bneq Try.underlying4 rfl rfl) ?_
                        refine L_move rfl rfl ?_
                        refine RL_set 239 (v' := .bool false) rfl (by cases ok1 <;> rfl) ?_
                        first | (refine RL_want rfl rfl ?_; refine L_move rfl rfl ?_) | refine RL_skip rfl rfl rfl rfl ?_ | refine RL_skipU rfl rfl rfl ?_
                        first | (refine RL_want rfl rfl ?_; refine L_move rfl rfl ?_) | refine RL_skip rfl rfl rfl rfl ?_ | refine RL_skipU rfl rfl rfl ?_
                        refine RL_want rfl rfl ?_
                        refine L_call rfl Try.fun20 rfl (same_float x1 x2 w hxc) ?_
                        rintro _ w ⟨rfl, rfl⟩
                        first | (refine RL_want rfl rfl ?_; refine L_not rfl rfl ?_) | refine RL_skip rfl rfl rfl rfl ?_ | refine RL_skipU rfl rfl rfl ?_
                        first | refine L_pick_t rfl rfl rfl ?_ | refine L_pick_f rfl rfl rfl ?_
                        refine RL_then ?_
                        refine W_if_false rfl ?_
                        refine W_skip' ?_
                        refine Nx_block ?_
                        refine Nx_then ?_
                        refine W_region ?_
                        refine L_move rfl rfl ?_
                        first | refine L_add rfl rfl rfl (wrp_i64 (by omega)) ?_ | refine L_add rfl rfl rfl rfl ?_
                        refine L_assign rfl rfl ?_
                        refine RL_nil' ?_
                        refine Nx_loopP (i + 1, fed2, fedo3, lm2, lf1, lo3, w) (is := [0, 2, 9, 11, 13, 15]) (I' := (fun (i : Nat) (fed : Bool) (fedo : Bool) (lm : List Nat) (lf : List Nat) (lo : List Nat) (w : World) => (i ≤ k) ∧ (lm.length = gk) ∧ (lf.length = gk) ∧ (lo.length = gk) ∧ (lm.map cn = lf.map cn) ∧ (HS w0 w (MapL 60 g b gk s fed lm ++ (MapL 62 g' b' gk s fed lf ++ MapL 60 go bo gk 4607182418800017408 fedo lo)))) (i + 1) (fed2) (fedo3) (lm2) (lf1) (lo3) (w)) rfl rfl rfl ?_ ?_
                        · exact ⟨by omega, hlm2, hlf1, hlo3, hll, hs⟩
                        · omega
        · refine W_seq ?_
          refine W_seq ?_
          refine W_region ?_
          refine L_move rfl rfl ?_
          refine L_move rfl rfl ?_
          refine L_len rfl Try.underlying38 rfl ?_
          first | refine L_lss rfl rfl rfl (dtrue (by omega)) ?_ | refine L_lss rfl rfl rfl (dfalse (by omega)) ?_ | refine L_lss rfl rfl rfl rfl ?_
          refine L_move rfl rfl ?_
          first | (refine RL_want rfl rfl ?_; refine L_move rfl rfl ?_) | refine RL_skip rfl rfl rfl rfl ?_ | refine RL_skipU rfl rfl rfl ?_
          first | (refine RL_want rfl rfl ?_; refine L_ptrNotNil rfl Try.underlying40 rfl rfl ?_) | refine RL_skip rfl rfl rfl rfl ?_ | refine RL_skipU rfl rfl rfl ?_
          first | refine L_pick_t rfl rfl rfl ?_ | refine L_pick_f rfl rfl rfl ?_
          refine RL_then ?_
          refine W_if_false rfl ?_
          refine W_exit' ?_
          refine Ex_then_exit ?_
          refine Ex_loop_exit ?_
          refine Ex_block_hit ?_
          refine Nx_then ?_
          refine W_seq ?_
          refine W_region ?_
          refine L_call rfl Try.fun10 rfl (wakes_ok w) ?_
          rintro _ w' ⟨rfl, hs'⟩
          replace hs := (hs.forget (Own.cons hg (Own.cons hb (Own.cons hg' (Own.cons hb' (Own.cons hgo (Own.cons hbo Own.nil))))))).nil hs'
          refine L_assign rfl rfl ?_
          refine RL_then ?_
          refine W_ret' ?_
          refine Ex_done1 rfl rfl ?_
          exact ⟨_, rfl, rfl, hs⟩
end Go.Proofs.Ytfehgelggjpaaaa
