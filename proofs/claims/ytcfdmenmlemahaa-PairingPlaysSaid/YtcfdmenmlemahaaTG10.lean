/-
  A part of the proof: what functions that the statement reaches do, or a plain law on what they do. Each theorem holds under its own premises alone.
-/
import Derived.Test.YtcfdmenmlemahaaTG9
namespace Go.Proofs.Ytcfdmenmlemahaa
open Go Go.Lk Go.Pr
theorem same_ok (a b : Option Addr) (k l c d : Nat) (xs ys : List Int) (w0 : World) (hx : SlC w0 a (il xs)) (hy : SlC w0 b (il ys)) (hk : xs.length = k) (hl : ys.length = l) (h63 : k ≤ 9223372036854775806) :
    Ret Try.prog 12 [.slice a k c, .slice b l d] w0 fun v w' => v = .bool (decide (xs = ys)) ∧ HS w0 w' [] := by
  refine Ret.start fun w hs => ?_
  refine calls_of_W Try.func12 rfl rfl rfl ?_
  by_cases hkl : k = l
  · subst hkl
    refine W_seq ?_
    refine W_region ?_
    refine L_assign rfl rfl ?_
    refine RL_then ?_
    refine W_seq ?_
    refine W_seq ?_
    refine W_region ?_
    refine L_move rfl rfl ?_
    refine L_len rfl Try.underlying25 rfl ?_
    refine L_move rfl rfl ?_
    refine L_len rfl Try.underlying25 rfl ?_
    first | refine L_neq rfl rfl rfl (dtrue (by omega)) ?_ | refine L_neq rfl rfl rfl (dfalse (by omega)) ?_ | refine L_neq rfl rfl rfl rfl ?_
    refine RL_then ?_
    refine W_if_false rfl ?_
    refine W_skip' ?_
    refine Nx_then ?_
    refine W_seq ?_
    refine W_seq ?_
    refine W_region ?_
    refine L_move rfl rfl ?_
    refine L_len rfl Try.underlying25 rfl ?_
    refine L_move rfl rfl ?_
    refine RL_then ?_
    refine W_block ?_
    refine W_loop2 (fun (i : Nat) (w : World) => [(0, .slice a k c), (1, .slice b k d), (12, .int .i64 k), (13, .int .i64 i)]) (fun (i : Nat) (w : World) => w) (fun (i : Nat) (w : World) => (i ≤ k) ∧ (∀ q, q < i → xs.getD q 0 = ys.getD q 0) ∧ (HS w0 w [])) (fun (i : Nat) (w : World) => k - i) (0) (w) (is := [0, 1, 12, 13]) rfl rfl ?_ ?_
    · exact ⟨Nat.zero_le _, fun _ h => absurd h (Nat.not_lt_zero _), hs⟩
    · clear hs
      intro i w hI
      show W _ _ _ _ [(0, .slice a k c), (1, .slice b k d), (12, .int .i64 k), (13, .int .i64 i)] w
      obtain ⟨hi, hE, hs⟩ := hI
      by_cases hlt : i < k
      · have hxa := hx.ao (by rw [il_length]; omega)
        have hya := hy.ao (by rw [il_length]; omega)
        by_cases he : xs.getD i 0 = ys.getD i 0
        · refine W_seq ?_
          refine W_region ?_
          first | refine L_lss rfl rfl rfl (dtrue (by omega)) ?_ | refine L_lss rfl rfl rfl (dfalse (by omega)) ?_ | refine L_lss rfl rfl rfl rfl ?_
          refine RL_then ?_
          refine W_seq ?_
          refine W_if_true rfl ?_
          refine W_skip' ?_
          refine Nx_then ?_
          refine W_seq ?_
          refine W_block ?_
          refine W_seq ?_
          refine W_region ?_
          refine L_move rfl rfl ?_
          refine L_assign rfl rfl ?_
          refine RL_then ?_
          refine W_seq ?_
          refine W_pht [0, 1, 2, 4, 5, 6] [3, 7, 8] [] (fun _ _ _ => False) Try.mixed (by kernel_rfl) (fun _ _ _ _ _ h => h) hs ?_
          refine PL_val rfl (fun w => R_move rfl) ?_
          refine PL_val rfl (fun w => R_move rfl) ?_
          refine PL_val rfl (fun w => R_idx1 Try.underlying25 Try.ti3 rfl rfl (by with_reducible first | exact natc_k _ | exact natc_a1 _ | exact natc_0 | exact natc_1 | exact natc_2 | exact natc_s1 _ (by omega) | exact natc_a2 _ | exact natc_add _ _ | exact natc_mul _ _ | exact natc (by omega)) (by omega) (by first | exact hxa | exact hya)) ?_
          refine PL_val rfl (fun w => R_move rfl) ?_
          refine PL_val rfl (fun w => R_move rfl) ?_
          refine PL_val rfl (fun w => R_idx1 Try.underlying25 Try.ti3 rfl rfl (by with_reducible first | exact natc_k _ | exact natc_a1 _ | exact natc_0 | exact natc_1 | exact natc_2 | exact natc_s1 _ (by omega) | exact natc_a2 _ | exact natc_add _ _ | exact natc_mul _ _ | exact natc (by omega)) (by omega) (by first | exact hxa | exact hya)) ?_
          refine PL_end ?_
          refine HL_val rfl (fun w hs => R_load Try.one3 rfl (by first | exact (hx.old hs Own.nil).get (il_get (by omega)) | exact (hy.old hs Own.nil).get (il_get (by omega)))) ?_
          refine HL_val rfl (fun w hs => R_load Try.one3 rfl (by first | exact (hx.old hs Own.nil).get (il_get (by omega)) | exact (hy.old hs Own.nil).get (il_get (by omega)))) ?_
          first | refine HL_val rfl (fun w hs => R_neq rfl rfl (dtrue (by omega))) ?_ | refine HL_val rfl (fun w hs => R_neq rfl rfl (dfalse (by omega))) ?_ | refine HL_val rfl (fun w hs => R_neq rfl rfl rfl) ?_
          refine HL_tail ?_
          intro w hs
          refine RL_then ?_
          refine W_if_false rfl ?_
          refine W_skip' ?_
          refine Nx_block ?_
          refine Nx_then ?_
          refine W_region ?_
          first | refine L_add rfl rfl rfl (wrp_i64 (by omega)) ?_ | refine L_add rfl rfl rfl rfl ?_
          refine L_move rfl rfl ?_
          refine RL_nil' ?_
          refine Nx_loopP (i + 1, _) (is := [0, 1, 12, 13]) (I' := (fun (i : Nat) (w : World) => (i ≤ k) ∧ (∀ q, q < i → xs.getD q 0 = ys.getD q 0) ∧ (HS w0 w [])) (i + 1) (_)) rfl rfl rfl ?_ ?_
          · refine ⟨by omega, fun q hq => ?_, hs⟩
            by_cases hqi : q = i
            · rw [hqi]; exact he
            · exact hE q (by omega)
          · omega
        · refine W_seq ?_
          refine W_region ?_
          first | refine L_lss rfl rfl rfl (dtrue (by omega)) ?_ | refine L_lss rfl rfl rfl (dfalse (by omega)) ?_ | refine L_lss rfl rfl rfl rfl ?_
          refine RL_then ?_
          refine W_seq ?_
          refine W_if_true rfl ?_
          refine W_skip' ?_
          refine Nx_then ?_
          refine W_seq ?_
          refine W_block ?_
          refine W_seq ?_
          refine W_region ?_
          refine L_move rfl rfl ?_
          refine L_assign rfl rfl ?_
          refine RL_then ?_
          refine W_seq ?_
          refine W_pht [0, 1, 2, 4, 5, 6] [3, 7, 8] [] (fun _ _ _ => False) Try.mixed (by kernel_rfl) (fun _ _ _ _ _ h => h) hs ?_
          refine PL_val rfl (fun w => R_move rfl) ?_
          refine PL_val rfl (fun w => R_move rfl) ?_
          refine PL_val rfl (fun w => R_idx1 Try.underlying25 Try.ti3 rfl rfl (by with_reducible first | exact natc_k _ | exact natc_a1 _ | exact natc_0 | exact natc_1 | exact natc_2 | exact natc_s1 _ (by omega) | exact natc_a2 _ | exact natc_add _ _ | exact natc_mul _ _ | exact natc (by omega)) (by omega) (by first | exact hxa | exact hya)) ?_
          refine PL_val rfl (fun w => R_move rfl) ?_
          refine PL_val rfl (fun w => R_move rfl) ?_
          refine PL_val rfl (fun w => R_idx1 Try.underlying25 Try.ti3 rfl rfl (by with_reducible first | exact natc_k _ | exact natc_a1 _ | exact natc_0 | exact natc_1 | exact natc_2 | exact natc_s1 _ (by omega) | exact natc_a2 _ | exact natc_add _ _ | exact natc_mul _ _ | exact natc (by omega)) (by omega) (by first | exact hxa | exact hya)) ?_
          refine PL_end ?_
          refine HL_val rfl (fun w hs => R_load Try.one3 rfl (by first | exact (hx.old hs Own.nil).get (il_get (by omega)) | exact (hy.old hs Own.nil).get (il_get (by omega)))) ?_
          refine HL_val rfl (fun w hs => R_load Try.one3 rfl (by first | exact (hx.old hs Own.nil).get (il_get (by omega)) | exact (hy.old hs Own.nil).get (il_get (by omega)))) ?_
          first | refine HL_val rfl (fun w hs => R_neq rfl rfl (dtrue (by omega))) ?_ | refine HL_val rfl (fun w hs => R_neq rfl rfl (dfalse (by omega))) ?_ | refine HL_val rfl (fun w hs => R_neq rfl rfl rfl) ?_
          refine HL_tail ?_
          intro w hs
          refine RL_then ?_
          refine W_if_true rfl ?_
          refine W_seq ?_
          refine W_region ?_
          refine L_assign rfl rfl ?_
          refine RL_then ?_
          refine W_ret' ?_
          refine Ex_block_ret ?_
          refine Ex_then_ret ?_
          refine Ex_loop_ret ?_
          refine Ex_block_ret ?_
          refine Ex_then_ret ?_
          refine Ex_done1 rfl rfl ?_
          refine ⟨_, rfl, ?_, hs⟩
          rw [decide_eq_false (fun h => he (by rw [h]))]
      · obtain rfl : k = i := by omega
        refine W_seq ?_
        refine W_region ?_
        first | refine L_lss rfl rfl rfl (dtrue (by omega)) ?_ | refine L_lss rfl rfl rfl (dfalse (by omega)) ?_ | refine L_lss rfl rfl rfl rfl ?_
        refine RL_then ?_
        refine W_seq ?_
        refine W_if_false rfl ?_
        refine W_exit' ?_
        refine Ex_then_exit ?_
        refine Ex_loop_exit ?_
        refine Ex_block_hit ?_
        refine Nx_then ?_
        refine W_seq ?_
        refine W_region ?_
        refine L_assign rfl rfl ?_
        refine RL_then ?_
        refine W_ret' ?_
        refine Ex_done1 rfl rfl ?_
        refine ⟨_, rfl, ?_, hs⟩
        have : xs = ys := by
          apply List.ext_getElem
          · omega
          · intro q h1 h2
            have := hE q (by omega)
            simpa [List.getD, h1, h2] using this
        rw [decide_eq_true this]
  · refine W_seq ?_
    refine W_region ?_
    refine L_assign rfl rfl ?_
    refine RL_then ?_
    refine W_seq ?_
    refine W_seq ?_
    refine W_region ?_
    refine L_move rfl rfl ?_
    refine L_len rfl Try.underlying25 rfl ?_
    refine L_move rfl rfl ?_
    refine L_len rfl Try.underlying25 rfl ?_
    first | refine L_neq rfl rfl rfl (dtrue (by omega)) ?_ | refine L_neq rfl rfl rfl (dfalse (by omega)) ?_ | refine L_neq rfl rfl rfl rfl ?_
    refine RL_then ?_
    refine W_if_true rfl ?_
    refine W_seq ?_
    refine W_region ?_
    refine L_assign rfl rfl ?_
    refine RL_then ?_
    refine W_ret' ?_
    refine Ex_then_ret ?_
    refine Ex_done1 rfl rfl ?_
    refine ⟨_, rfl, ?_, hs⟩
    rw [decide_eq_false (fun h => hkl (by rw [← hk, ← hl, h]))]
/-- may a row's mate not be? -/
def badT (rows : List (List Int)) (mt : List Int) (i : Nat) : Prop :=
  mt.getD i 0 ≠ -1 ∧ (mt.getD i 0 < 0 ∨ (wid rows i : Int) ≤ mt.getD i 0 ∨ el rows i (mt.getD i 0).toNat < 0 ∨ ∃ q, q < i ∧ mt.getD q 0 = mt.getD i 0)
def TotalAns (rows : List (List Int)) (mt : List Int) (t e : Int) : Prop :=
  (chk rows ≠ 0 ∧ t = 0 ∧ e = chk rows) ∨ (chk rows = 0 ∧ mt.length ≠ rows.length ∧ t = 0 ∧ e = 5) ∨
  (chk rows = 0 ∧ mt.length = rows.length ∧ (∃ i, i < rows.length ∧ badT rows mt i) ∧ t = 0 ∧ e = 170) ∨
  (chk rows = 0 ∧ mt.length = rows.length ∧ (∀ i, i < rows.length → ¬badT rows mt i) ∧ t = tot rows.length (fun i => if mt.getD i 0 = -1 then 0 else el rows i (mt.getD i 0).toNat) ∧ e = 0)
theorem total_ok (a : Option Addr) (k cp : Nat) (rows : List (List Int)) (rvs : List Value) (am : Option Addr) (km cm : Nat) (mt : List Int) (w0 : World) (hr : RowsI w0 a rows rvs) (hk : rows.length = k) (hk63 : k ≤ 17592186043904) (hm : SlC w0 am (il mt)) (hkm : mt.length = km) :
    Ret Try.prog 19 [.slice a k cp, .slice am km cm] w0 fun v w' => ∃ t e, v = .tuple #[.int .i64 t, .int .i64 e] ∧ HS w0 w' [] ∧ TotalAns rows mt t e := by
  refine Ret.start fun w hs => ?_
  have hrl := hr.len
  refine calls_of_W Try.func19 rfl rfl rfl ?_
  refine W_seq ?_
  refine W_region ?_
  refine L_assign rfl rfl ?_
  refine L_assign rfl rfl ?_
  refine RL_then ?_
  refine W_seq ?_
  refine W_seq ?_
  refine W_region ?_
  refine L_move rfl rfl ?_
  refine L_call rfl Try.fun21 rfl (checked_ok a k cp rows rvs w (hr.old hs Own.nil) hk hk63) ?_
  rintro _ w1 ⟨rfl, hs'⟩
  replace hs := hs.nil hs'
  clear hs'
  by_cases he0 : chk rows ≠ 0
  · refine L_assign rfl rfl ?_
    refine RL_then ?_
    refine W_seq ?_
    refine W_region ?_
    refine L_move rfl rfl ?_
    first | refine L_neq rfl rfl rfl (dtrue (by omega)) ?_ | refine L_neq rfl rfl rfl (dfalse (by omega)) ?_ | refine L_neq rfl rfl rfl rfl ?_
    refine RL_then ?_
    refine W_if_true rfl ?_
    refine W_seq ?_
    refine W_region ?_
    refine L_move rfl rfl ?_
    refine L_assign rfl rfl ?_
    refine L_assign rfl rfl ?_
    refine RL_then ?_
    refine W_ret' ?_
    refine Ex_then_ret ?_
    refine Ex_done2 rfl rfl rfl ?_
    exact ⟨_, rfl, _, _, rfl, hs, .inl ⟨he0, rfl, rfl⟩⟩
  · rw [Classical.not_not] at he0
    rw [he0]
    by_cases hkk : km = k
    · have hF := fine_of_chk he0
      have hk256 := hF.len
      subst hkk
      refine L_assign rfl rfl ?_
      refine RL_then ?_
      refine W_seq ?_
      refine W_region ?_
      refine L_move rfl rfl ?_
      first | refine L_neq rfl rfl rfl (dtrue (by omega)) ?_ | refine L_neq rfl rfl rfl (dfalse (by omega)) ?_ | refine L_neq rfl rfl rfl rfl ?_
      refine RL_then ?_
      refine W_if_false rfl ?_
      refine W_skip' ?_
      refine Nx_then ?_
      refine W_seq ?_
      refine W_seq ?_
      refine W_region ?_
      refine L_move rfl rfl ?_
      refine L_len rfl Try.underlying25 rfl ?_
      refine L_move rfl rfl ?_
      refine L_len rfl Try.underlying22 rfl ?_
      first | refine L_neq rfl rfl rfl (dtrue (by omega)) ?_ | refine L_neq rfl rfl rfl (dfalse (by omega)) ?_ | refine L_neq rfl rfl rfl rfl ?_
      refine RL_then ?_
      refine W_if_false rfl ?_
      refine W_skip' ?_
      refine Nx_then ?_
      refine W_seq ?_
      refine W_region ?_
      refine L_assign rfl rfl ?_
      refine RL_then ?_
      refine W_seq ?_
      refine W_region ?_
      refine L_make1 rfl hs Try.underlying31 Try.ti4 rfl rfl (by with_reducible first | exact natc_k _ | exact natc_a1 _ | exact natc_0 | exact natc_1 | exact natc_2 | exact natc_s1 _ (by omega) | exact natc_a2 _ | exact natc_add _ _ | exact natc_mul _ _ | exact natc (by omega)) (by with_reducible first | exact natc_k _ | exact natc_a1 _ | exact natc_0 | exact natc_1 | exact natc_2 | exact natc_s1 _ (by omega) | exact natc_a2 _ | exact natc_add _ _ | exact natc_mul _ _ | exact natc (by omega)) (by omega) (by omega) (by omega) rfl ?_
      intro b21 w hb21 hnb21 hs
      try dsimp only [List.set_cons_succ, List.set_cons_zero, List.cons_append, List.nil_append] at hs
      refine L_assign rfl rfl ?_
      refine RL_then ?_
      refine W_seq ?_
      refine W_seq ?_
      refine W_region ?_
      refine L_move rfl rfl ?_
      refine L_len rfl Try.underlying25 rfl ?_
      refine L_move rfl rfl ?_
      refine RL_then ?_
      refine W_block ?_
      rw [bls_rep] at hs
      obtain ⟨g, hg, hgo⟩ : ∃ g, g = b21 ∧ w0.heap.size ≤ g := ⟨_, rfl, hb21⟩
      rw [← hg] at hs ⊢
      clear hg hb21 hnb21
      refine W_loop4 (fun (i : Nat) (used : List Bool) (t : Int) (w : World) => [(0, .slice a km cp), (7, .int .i64 t), (8, .slice (some ⟨g, 0, none⟩) 256 256), (22, .slice am km cm), (23, .int .i64 km), (24, .int .i64 i)]) (fun (i : Nat) (used : List Bool) (t : Int) (w : World) => w) (fun (i : Nat) (used : List Bool) (t : Int) (w : World) => (i ≤ km) ∧ (used.length = 256) ∧ (∀ j : Nat, j < 256 → (used.getD j false = true ↔ ∃ q, q < i ∧ mt.getD q 0 = (j : Int))) ∧ (t = tot i (fun q => if mt.getD q 0 = -1 then 0 else el rows q (mt.getD q 0).toNat)) ∧ (0 ≤ t ∧ t ≤ i * 1099511627776) ∧ (∀ q, q < i → ¬badT rows mt q) ∧ (HS w0 w [(g, Row 4 (bls used))])) (fun (i : Nat) (used : List Bool) (t : Int) (w : World) => km - i) (0) (List.replicate 256 false) (0) (_) (is := [0, 7, 8, 22, 23, 24]) rfl rfl ?_ ?_
      · refine ⟨Nat.zero_le _, List.length_replicate, fun j hj => ⟨fun h => ?_, fun ⟨q, hq, _⟩ => absurd hq (Nat.not_lt_zero _)⟩, rfl, ⟨by omega, by omega⟩, fun _ h => absurd h (Nat.not_lt_zero _), hs⟩
        rw [grep hj] at h; cases h
      · clear hs
        intro i used t w hI
        show W _ _ _ _ [(0, .slice a km cp), (7, .int .i64 t), (8, .slice (some ⟨g, 0, none⟩) 256 256), (22, .slice am km cm), (23, .int .i64 km), (24, .int .i64 i)] w
        obtain ⟨hi, hul, hus, ht, htb, hnb, hs⟩ := hI
        have hO : Own w0 [(g, Row 4 (bls used))] := Own.cons hgo Own.nil
        by_cases hlt : i < km
        · obtain ⟨ai, ci, g1, g2, g3, g4⟩ := hr.row i (by omega)
          have hwi : (rows.getD i []).length ≤ 256 := hF.wid i (by omega)
          have hma := hm.ao (by rw [il_length]; omega)
          have hra := hr.sl.ao (by omega)
          obtain ⟨x, hx⟩ : ∃ x, x = mt.getD i 0 := ⟨_, rfl⟩
          refine W_seq ?_
          refine W_region ?_
          first | refine L_lss rfl rfl rfl (dtrue (by omega)) ?_ | refine L_lss rfl rfl rfl (dfalse (by omega)) ?_ | refine L_lss rfl rfl rfl rfl ?_
          refine RL_then ?_
          refine W_seq ?_
          refine W_if_true rfl ?_
          refine W_skip' ?_
          refine Nx_then ?_
          refine W_seq ?_
          refine W_block ?_
          refine W_seq ?_
          refine W_region ?_
          refine L_move rfl rfl ?_
          refine L_idx1 rfl Try.underlying25 Try.ti3 rfl rfl (by with_reducible first | exact natc_k _ | exact natc_a1 _ | exact natc_0 | exact natc_1 | exact natc_2 | exact natc_s1 _ (by omega) | exact natc_a2 _ | exact natc_add _ _ | exact natc_mul _ _ | exact natc (by omega)) (by omega) (by first | rfl | exact hma | exact hra | exact g4.ao (by rw [il_length]; omega)) ?_
          refine L_load rfl Try.one3 rfl (by first | exact (hm.old hs (Own.cons hgo Own.nil)).get (il_get (by omega)) | exact (hr.sl.old hs (Own.cons hgo Own.nil)).get g1 | exact (g4.old hs (Own.cons hgo Own.nil)).get (il_get (by omega)) | exact hs.cellA (i := 0) rfl (bls_get (by omega))) ?_
          refine L_assign rfl rfl ?_
          refine L_assign rfl rfl ?_
          refine RL_then ?_
          refine W_seq ?_
          refine W_seq ?_
          refine W_region ?_
          rw [← hx]
          by_cases hx1 : x = -1
          · refine L_move rfl rfl ?_
            first | refine L_eql rfl rfl rfl (dtrue (by omega)) ?_ | refine L_eql rfl rfl rfl (dfalse (by omega)) ?_ | refine L_eql rfl rfl rfl rfl ?_
            refine RL_then ?_
            refine W_if_true rfl ?_
            refine W_exit' ?_
            refine Ex_then_exit ?_
            refine Ex_block_hit ?_
            refine Nx_then ?_
            refine W_region ?_
            first | refine L_add rfl rfl rfl (wrp_i64 (by omega)) ?_ | refine L_add rfl rfl rfl rfl ?_
            refine L_move rfl rfl ?_
            refine RL_nil' ?_
            refine Nx_loopP (i + 1, used, t, _) (is := [0, 7, 8, 22, 23, 24]) (I' := (fun (i : Nat) (used : List Bool) (t : Int) (w : World) => (i ≤ km) ∧ (used.length = 256) ∧ (∀ j : Nat, j < 256 → (used.getD j false = true ↔ ∃ q, q < i ∧ mt.getD q 0 = (j : Int))) ∧ (t = tot i (fun q => if mt.getD q 0 = -1 then 0 else el rows q (mt.getD q 0).toNat)) ∧ (0 ≤ t ∧ t ≤ i * 1099511627776) ∧ (∀ q, q < i → ¬badT rows mt q) ∧ (HS w0 w [(g, Row 4 (bls used))])) (i + 1) (used) (t) (_)) rfl rfl rfl ?_ ?_
            · refine ⟨by omega, hul, fun j hj => ?_, ?_, ⟨by omega, by omega⟩, fun q hq => ?_, hs⟩
              · rw [hus j hj]
                constructor
                · rintro ⟨q, hq, he⟩; exact ⟨q, by omega, he⟩
                · rintro ⟨q, hq, he⟩
                  refine ⟨q, ?_, he⟩
                  by_cases hqi : q = i
                  · rw [hqi, ← hx, hx1] at he; omega
                  · omega
              · simp only [tot]; rw [← hx, if_pos hx1, ← ht]; omega
              · by_cases hqi : q = i
                · rw [hqi]; exact fun hb => hb.1 (by rw [← hx, hx1])
                · exact hnb q (by omega)
            · omega
          · have hbadl : ∀ t e, badT rows mt i → t = 0 → e = 170 → TotalAns rows mt t e := fun t e hb h1 h2 => .inr (.inr (.inl ⟨he0, by omega, ⟨i, by omega, hb⟩, h1, h2⟩))
            by_cases hx0 : x < 0
            · refine L_move rfl rfl ?_
              first | refine L_eql rfl rfl rfl (dtrue (by omega)) ?_ | refine L_eql rfl rfl rfl (dfalse (by omega)) ?_ | refine L_eql rfl rfl rfl rfl ?_
              refine RL_then ?_
              refine W_if_false rfl ?_
              refine W_skip' ?_
              refine Nx_then ?_
              refine W_seq ?_
              refine W_seq ?_
              refine W_region ?_
              refine L_move rfl rfl ?_
              first | refine L_lss rfl rfl rfl (dtrue (by omega)) ?_ | refine L_lss rfl rfl rfl (dfalse (by omega)) ?_ | refine L_lss rfl rfl rfl rfl ?_
              refine L_move rfl rfl ?_
              first | (refine RL_want rfl rfl ?_; refine L_move rfl rfl ?_) | refine RL_skip rfl rfl rfl rfl ?_ | refine RL_skipU rfl rfl rfl ?_
              first | (refine RL_want rfl rfl ?_; refine L_move rfl rfl ?_) | refine RL_skip rfl rfl rfl rfl ?_ | refine RL_skipU rfl rfl rfl ?_
              first | (refine RL_want rfl rfl ?_; refine L_move rfl rfl ?_) | refine RL_skip rfl rfl rfl rfl ?_ | refine RL_skipU rfl rfl rfl ?_
              first | (refine RL_want rfl rfl ?_; refine L_idx1 rfl Try.underlying22 Try.ti38 rfl rfl (by with_reducible first | exact natc_k _ | exact natc_a1 _ | exact natc_0 | exact natc_1 | exact natc_2 | exact natc_s1 _ (by omega) | exact natc_a2 _ | exact natc_add _ _ | exact natc_mul _ _ | exact natc (by omega)) (by omega) (by first | rfl | exact hma | exact hra | exact g4.ao (by rw [il_length]; omega)) ?_) | refine RL_skip rfl rfl rfl rfl ?_ | refine RL_skipU rfl rfl rfl ?_
              first | (refine RL_want rfl rfl ?_; refine L_load rfl Try.one38 rfl (by first | exact (hm.old hs (Own.cons hgo Own.nil)).get (il_get (by omega)) | exact (hr.sl.old hs (Own.cons hgo Own.nil)).get g1 | exact (g4.old hs (Own.cons hgo Own.nil)).get (il_get (by omega)) | exact hs.cellA (i := 0) rfl (bls_get (by omega))) ?_) | refine RL_skip rfl rfl rfl rfl ?_ | refine RL_skipU rfl rfl rfl ?_
              first | (refine RL_want rfl rfl ?_; refine L_len rfl Try.underlying38 rfl ?_) | refine RL_skip rfl rfl rfl rfl ?_ | refine RL_skipU rfl rfl rfl ?_
              first | (refine RL_want rfl rfl ?_; (first | refine L_geq rfl rfl rfl (dtrue (by omega)) ?_ | refine L_geq rfl rfl rfl (dfalse (by omega)) ?_ | refine L_geq rfl rfl rfl rfl ?_)) | refine RL_skip rfl rfl rfl rfl ?_ | refine RL_skipU rfl rfl rfl ?_
              first | refine L_pick_t rfl rfl rfl ?_ | refine L_pick_f rfl rfl rfl ?_
              refine L_move rfl rfl ?_
              first | (refine RL_want rfl rfl ?_; refine L_move rfl rfl ?_) | refine RL_skip rfl rfl rfl rfl ?_ | refine RL_skipU rfl rfl rfl ?_
              first | (refine RL_want rfl rfl ?_; refine L_move rfl rfl ?_) | refine RL_skip rfl rfl rfl rfl ?_ | refine RL_skipU rfl rfl rfl ?_
              first | (refine RL_want rfl rfl ?_; refine L_idx1 rfl Try.underlying22 Try.ti38 rfl rfl (by with_reducible first | exact natc_k _ | exact natc_a1 _ | exact natc_0 | exact natc_1 | exact natc_2 | exact natc_s1 _ (by omega) | exact natc_a2 _ | exact natc_add _ _ | exact natc_mul _ _ | exact natc (by omega)) (by omega) (by first | rfl | exact hma | exact hra | exact g4.ao (by rw [il_length]; omega)) ?_) | refine RL_skip rfl rfl rfl rfl ?_ | refine RL_skipU rfl rfl rfl ?_
              first | (refine RL_want rfl rfl ?_; refine L_load rfl Try.one38 rfl (by first | exact (hm.old hs (Own.cons hgo Own.nil)).get (il_get (by omega)) | exact (hr.sl.old hs (Own.cons hgo Own.nil)).get g1 | exact (g4.old hs (Own.cons hgo Own.nil)).get (il_get (by omega)) | exact hs.cellA (i := 0) rfl (bls_get (by omega))) ?_) | refine RL_skip rfl rfl rfl rfl ?_ | refine RL_skipU rfl rfl rfl ?_
              first | (refine RL_want rfl rfl ?_; refine L_move rfl rfl ?_) | refine RL_skip rfl rfl rfl rfl ?_ | refine RL_skipU rfl rfl rfl ?_
              first | (refine RL_want rfl rfl ?_; refine L_idx1 rfl Try.underlying38 Try.ti2 rfl rfl (by with_reducible first | exact natc_k _ | exact natc_a1 _ | exact natc_0 | exact natc_1 | exact natc_2 | exact natc_s1 _ (by omega) | exact natc_a2 _ | exact natc_add _ _ | exact natc_mul _ _ | exact natc (by omega)) (by omega) (by first | rfl | exact hma | exact hra | exact g4.ao (by rw [il_length]; omega)) ?_) | refine RL_skip rfl rfl rfl rfl ?_ | refine RL_skipU rfl rfl rfl ?_
              first | (refine RL_want rfl rfl ?_; refine L_load rfl Try.one2 rfl (by first | exact (hm.old hs (Own.cons hgo Own.nil)).get (il_get (by omega)) | exact (hr.sl.old hs (Own.cons hgo Own.nil)).get g1 | exact (g4.old hs (Own.cons hgo Own.nil)).get (il_get (by omega)) | exact hs.cellA (i := 0) rfl (bls_get (by omega))) ?_) | refine RL_skip rfl rfl rfl rfl ?_ | refine RL_skipU rfl rfl rfl ?_
              first | (refine RL_want rfl rfl ?_; (first | refine L_lss rfl rfl rfl (dtrue (by omega)) ?_ | refine L_lss rfl rfl rfl (dfalse (by omega)) ?_ | refine L_lss rfl rfl rfl rfl ?_)) | refine RL_skip rfl rfl rfl rfl ?_ | refine RL_skipU rfl rfl rfl ?_
              first | refine L_pick_t rfl rfl rfl ?_ | refine L_pick_f rfl rfl rfl ?_
              refine L_move rfl rfl ?_
              first | (refine RL_want rfl rfl ?_; refine L_move rfl rfl ?_) | refine RL_skip rfl rfl rfl rfl ?_ | refine RL_skipU rfl rfl rfl ?_
              first | (refine RL_want rfl rfl ?_; refine L_move rfl rfl ?_) | refine RL_skip rfl rfl rfl rfl ?_ | refine RL_skipU rfl rfl rfl ?_
              first | (refine RL_want rfl rfl ?_; refine L_idx1 rfl Try.underlying31 Try.ti4 rfl rfl (by with_reducible first | exact natc_k _ | exact natc_a1 _ | exact natc_0 | exact natc_1 | exact natc_2 | exact natc_s1 _ (by omega) | exact natc_a2 _ | exact natc_add _ _ | exact natc_mul _ _ | exact natc (by omega)) (by omega) (by first | rfl | exact hma | exact hra | exact g4.ao (by rw [il_length]; omega)) ?_) | refine RL_skip rfl rfl rfl rfl ?_ | refine RL_skipU rfl rfl rfl ?_
              first | (refine RL_want rfl rfl ?_; refine L_load rfl Try.one4 rfl (by first | exact (hm.old hs (Own.cons hgo Own.nil)).get (il_get (by omega)) | exact (hr.sl.old hs (Own.cons hgo Own.nil)).get g1 | exact (g4.old hs (Own.cons hgo Own.nil)).get (il_get (by omega)) | exact hs.cellA (i := 0) rfl (bls_get (by omega))) ?_) | refine RL_skip rfl rfl rfl rfl ?_ | refine RL_skipU rfl rfl rfl ?_
              first | refine L_pick_t rfl rfl rfl ?_ | refine L_pick_f rfl rfl rfl ?_
              refine RL_then ?_
              refine W_if_true rfl ?_
              refine W_seq ?_
              refine W_region ?_
              refine L_assign rfl rfl ?_
              refine L_assign rfl rfl ?_
              refine RL_then ?_
              refine W_ret' ?_
              refine Ex_then_ret ?_
              refine Ex_block_ret ?_
              refine Ex_then_ret ?_
              refine Ex_loop_ret ?_
              refine Ex_block_ret ?_
              refine Ex_then_ret ?_
              refine Ex_done2 rfl rfl rfl ?_
              exact ⟨_, rfl, _, _, rfl, hs.forget hO, hbadl _ _ ⟨by rw [← hx]; exact hx1, .inl (by rw [← hx]; exact hx0)⟩ rfl rfl⟩
            · obtain ⟨j, hj⟩ : ∃ j : Nat, x = (j : Int) := ⟨x.toNat, by omega⟩
              rw [hj] at hx hx1 hx0 ⊢
              by_cases hjw : (rows.getD i []).length ≤ j
              · refine L_move rfl rfl ?_
                first | refine L_eql rfl rfl rfl (dtrue (by omega)) ?_ | refine L_eql rfl rfl rfl (dfalse (by omega)) ?_ | refine L_eql rfl rfl rfl rfl ?_
                refine RL_then ?_
                refine W_if_false rfl ?_
                refine W_skip' ?_
                refine Nx_then ?_
                refine W_seq ?_
                refine W_seq ?_
                refine W_region ?_
                refine L_move rfl rfl ?_
                first | refine L_lss rfl rfl rfl (dtrue (by omega)) ?_ | refine L_lss rfl rfl rfl (dfalse (by omega)) ?_ | refine L_lss rfl rfl rfl rfl ?_
                refine L_move rfl rfl ?_
                first | (refine RL_want rfl rfl ?_; refine L_move rfl rfl ?_) | refine RL_skip rfl rfl rfl rfl ?_ | refine RL_skipU rfl rfl rfl ?_
                first | (refine RL_want rfl rfl ?_; refine L_move rfl rfl ?_) | refine RL_skip rfl rfl rfl rfl ?_ | refine RL_skipU rfl rfl rfl ?_
                first | (refine RL_want rfl rfl ?_; refine L_move rfl rfl ?_) | refine RL_skip rfl rfl rfl rfl ?_ | refine RL_skipU rfl rfl rfl ?_
                first | (refine RL_want rfl rfl ?_; refine L_idx1 rfl Try.underlying22 Try.ti38 rfl rfl (by with_reducible first | exact natc_k _ | exact natc_a1 _ | exact natc_0 | exact natc_1 | exact natc_2 | exact natc_s1 _ (by omega) | exact natc_a2 _ | exact natc_add _ _ | exact natc_mul _ _ | exact natc (by omega)) (by omega) (by first | rfl | exact hma | exact hra | exact g4.ao (by rw [il_length]; omega)) ?_) | refine RL_skip rfl rfl rfl rfl ?_ | refine RL_skipU rfl rfl rfl ?_
                first | (refine RL_want rfl rfl ?_; refine L_load rfl Try.one38 rfl (by first | exact (hm.old hs (Own.cons hgo Own.nil)).get (il_get (by omega)) | exact (hr.sl.old hs (Own.cons hgo Own.nil)).get g1 | exact (g4.old hs (Own.cons hgo Own.nil)).get (il_get (by omega)) | exact hs.cellA (i := 0) rfl (bls_get (by omega))) ?_) | refine RL_skip rfl rfl rfl rfl ?_ | refine RL_skipU rfl rfl rfl ?_
                first | (refine RL_want rfl rfl ?_; refine L_len rfl Try.underlying38 rfl ?_) | refine RL_skip rfl rfl rfl rfl ?_ | refine RL_skipU rfl rfl rfl ?_
                first | (refine RL_want rfl rfl ?_; (first | refine L_geq rfl rfl rfl (dtrue (by omega)) ?_ | refine L_geq rfl rfl rfl (dfalse (by omega)) ?_ | refine L_geq rfl rfl rfl rfl ?_)) | refine RL_skip rfl rfl rfl rfl ?_ | refine RL_skipU rfl rfl rfl ?_
                first | refine L_pick_t rfl rfl rfl ?_ | refine L_pick_f rfl rfl rfl ?_
                refine L_move rfl rfl ?_
                first | (refine RL_want rfl rfl ?_; refine L_move rfl rfl ?_) | refine RL_skip rfl rfl rfl rfl ?_ | refine RL_skipU rfl rfl rfl ?_
                first | (refine RL_want rfl rfl ?_; refine L_move rfl rfl ?_) | refine RL_skip rfl rfl rfl rfl ?_ | refine RL_skipU rfl rfl rfl ?_
                first | (refine RL_want rfl rfl ?_; refine L_idx1 rfl Try.underlying22 Try.ti38 rfl rfl (by with_reducible first | exact natc_k _ | exact natc_a1 _ | exact natc_0 | exact natc_1 | exact natc_2 | exact natc_s1 _ (by omega) | exact natc_a2 _ | exact natc_add _ _ | exact natc_mul _ _ | exact natc (by omega)) (by omega) (by first | rfl | exact hma | exact hra | exact g4.ao (by rw [il_length]; omega)) ?_) | refine RL_skip rfl rfl rfl rfl ?_ | refine RL_skipU rfl rfl rfl ?_
                first | (refine RL_want rfl rfl ?_; refine L_load rfl Try.one38 rfl (by first | exact (hm.old hs (Own.cons hgo Own.nil)).get (il_get (by omega)) | exact (hr.sl.old hs (Own.cons hgo Own.nil)).get g1 | exact (g4.old hs (Own.cons hgo Own.nil)).get (il_get (by omega)) | exact hs.cellA (i := 0) rfl (bls_get (by omega))) ?_) | refine RL_skip rfl rfl rfl rfl ?_ | refine RL_skipU rfl rfl rfl ?_
                first | (refine RL_want rfl rfl ?_; refine L_move rfl rfl ?_) | refine RL_skip rfl rfl rfl rfl ?_ | refine RL_skipU rfl rfl rfl ?_
                first | (refine RL_want rfl rfl ?_; refine L_idx1 rfl Try.underlying38 Try.ti2 rfl rfl (by with_reducible first | exact natc_k _ | exact natc_a1 _ | exact natc_0 | exact natc_1 | exact natc_2 | exact natc_s1 _ (by omega) | exact natc_a2 _ | exact natc_add _ _ | exact natc_mul _ _ | exact natc (by omega)) (by omega) (by first | rfl | exact hma | exact hra | exact g4.ao (by rw [il_length]; omega)) ?_) | refine RL_skip rfl rfl rfl rfl ?_ | refine RL_skipU rfl rfl rfl ?_
                first | (refine RL_want rfl rfl ?_; refine L_load rfl Try.one2 rfl (by first | exact (hm.old hs (Own.cons hgo Own.nil)).get (il_get (by omega)) | exact (hr.sl.old hs (Own.cons hgo Own.nil)).get g1 | exact (g4.old hs (Own.cons hgo Own.nil)).get (il_get (by omega)) | exact hs.cellA (i := 0) rfl (bls_get (by omega))) ?_) | refine RL_skip rfl rfl rfl rfl ?_ | refine RL_skipU rfl rfl rfl ?_
                first | (refine RL_want rfl rfl ?_; (first | refine L_lss rfl rfl rfl (dtrue (by omega)) ?_ | refine L_lss rfl rfl rfl (dfalse (by omega)) ?_ | refine L_lss rfl rfl rfl rfl ?_)) | refine RL_skip rfl rfl rfl rfl ?_ | refine RL_skipU rfl rfl rfl ?_
                first | refine L_pick_t rfl rfl rfl ?_ | refine L_pick_f rfl rfl rfl ?_
                refine L_move rfl rfl ?_
                first | (refine RL_want rfl rfl ?_; refine L_move rfl rfl ?_) | refine RL_skip rfl rfl rfl rfl ?_ | refine RL_skipU rfl rfl rfl ?_
                first | (refine RL_want rfl rfl ?_; refine L_move rfl rfl ?_) | refine RL_skip rfl rfl rfl rfl ?_ | refine RL_skipU rfl rfl rfl ?_
                first | (refine RL_want rfl rfl ?_; refine L_idx1 rfl Try.underlying31 Try.ti4 rfl rfl (by with_reducible first | exact natc_k _ | exact natc_a1 _ | exact natc_0 | exact natc_1 | exact natc_2 | exact natc_s1 _ (by omega) | exact natc_a2 _ | exact natc_add _ _ | exact natc_mul _ _ | exact natc (by omega)) (by omega) (by first | rfl | exact hma | exact hra | exact g4.ao (by rw [il_length]; omega)) ?_) | refine RL_skip rfl rfl rfl rfl ?_ | refine RL_skipU rfl rfl rfl ?_
                first | (refine RL_want rfl rfl ?_; refine L_load rfl Try.one4 rfl (by first | exact (hm.old hs (Own.cons hgo Own.nil)).get (il_get (by omega)) | exact (hr.sl.old hs (Own.cons hgo Own.nil)).get g1 | exact (g4.old hs (Own.cons hgo Own.nil)).get (il_get (by omega)) | exact hs.cellA (i := 0) rfl (bls_get (by omega))) ?_) | refine RL_skip rfl rfl rfl rfl ?_ | refine RL_skipU rfl rfl rfl ?_
                first | refine L_pick_t rfl rfl rfl ?_ | refine L_pick_f rfl rfl rfl ?_
                refine RL_then ?_
                refine W_if_true rfl ?_
                refine W_seq ?_
                refine W_region ?_
                refine L_assign rfl rfl ?_
                refine L_assign rfl rfl ?_
                refine RL_then ?_
                refine W_ret' ?_
                refine Ex_then_ret ?_
                refine Ex_block_ret ?_
                refine Ex_then_ret ?_
                refine Ex_loop_ret ?_
                refine Ex_block_ret ?_
                refine Ex_then_ret ?_
                refine Ex_done2 rfl rfl rfl ?_
                exact ⟨_, rfl, _, _, rfl, hs.forget hO, hbadl _ _ ⟨by rw [← hx]; exact hx1, .inr (.inl (by rw [← hx]; simp only [wid]; omega))⟩ rfl rfl⟩
              · by_cases hneg : (rows.getD i []).getD j 0 < 0
                · refine L_move rfl rfl ?_
                  first | refine L_eql rfl rfl rfl (dtrue (by omega)) ?_ | refine L_eql rfl rfl rfl (dfalse (by omega)) ?_ | refine L_eql rfl rfl rfl rfl ?_
                  refine RL_then ?_
                  refine W_if_false rfl ?_
                  refine W_skip' ?_
                  refine Nx_then ?_
                  refine W_seq ?_
                  refine W_seq ?_
                  refine W_region ?_
                  refine L_move rfl rfl ?_
                  first | refine L_lss rfl rfl rfl (dtrue (by omega)) ?_ | refine L_lss rfl rfl rfl (dfalse (by omega)) ?_ | refine L_lss rfl rfl rfl rfl ?_
                  refine L_move rfl rfl ?_
                  first | (refine RL_want rfl rfl ?_; refine L_move rfl rfl ?_) | refine RL_skip rfl rfl rfl rfl ?_ | refine RL_skipU rfl rfl rfl ?_
                  first | (refine RL_want rfl rfl ?_; refine L_move rfl rfl ?_) | refine RL_skip rfl rfl rfl rfl ?_ | refine RL_skipU rfl rfl rfl ?_
                  first | (refine RL_want rfl rfl ?_; refine L_move rfl rfl ?_) | refine RL_skip rfl rfl rfl rfl ?_ | refine RL_skipU rfl rfl rfl ?_
                  first | (refine RL_want rfl rfl ?_; refine L_idx1 rfl Try.underlying22 Try.ti38 rfl rfl (by with_reducible first | exact natc_k _ | exact natc_a1 _ | exact natc_0 | exact natc_1 | exact natc_2 | exact natc_s1 _ (by omega) | exact natc_a2 _ | exact natc_add _ _ | exact natc_mul _ _ | exact natc (by omega)) (by omega) (by first | rfl | exact hma | exact hra | exact g4.ao (by rw [il_length]; omega)) ?_) | refine RL_skip rfl rfl rfl rfl ?_ | refine RL_skipU rfl rfl rfl ?_
                  first | (refine RL_want rfl rfl ?_; refine L_load rfl Try.one38 rfl (by first | exact (hm.old hs (Own.cons hgo Own.nil)).get (il_get (by omega)) | exact (hr.sl.old hs (Own.cons hgo Own.nil)).get g1 | exact (g4.old hs (Own.cons hgo Own.nil)).get (il_get (by omega)) | exact hs.cellA (i := 0) rfl (bls_get (by omega))) ?_) | refine RL_skip rfl rfl rfl rfl ?_ | refine RL_skipU rfl rfl rfl ?_
                  first | (refine RL_want rfl rfl ?_; refine L_len rfl Try.underlying38 rfl ?_) | refine RL_skip rfl rfl rfl rfl ?_ | refine RL_skipU rfl rfl rfl ?_
                  first | (refine RL_want rfl rfl ?_; (first | refine L_geq rfl rfl rfl (dtrue (by omega)) ?_ | refine L_geq rfl rfl rfl (dfalse (by omega)) ?_ | refine L_geq rfl rfl rfl rfl ?_)) | refine RL_skip rfl rfl rfl rfl ?_ | refine RL_skipU rfl rfl rfl ?_
                  first | refine L_pick_t rfl rfl rfl ?_ | refine L_pick_f rfl rfl rfl ?_
                  refine L_move rfl rfl ?_
                  first | (refine RL_want rfl rfl ?_; refine L_move rfl rfl ?_) | refine RL_skip rfl rfl rfl rfl ?_ | refine RL_skipU rfl rfl rfl ?_
                  first | (refine RL_want rfl rfl ?_; refine L_move rfl rfl ?_) | refine RL_skip rfl rfl rfl rfl ?_ | refine RL_skipU rfl rfl rfl ?_
                  first | (refine RL_want rfl rfl ?_; refine L_idx1 rfl Try.underlying22 Try.ti38 rfl rfl (by with_reducible first | exact natc_k _ | exact natc_a1 _ | exact natc_0 | exact natc_1 | exact natc_2 | exact natc_s1 _ (by omega) | exact natc_a2 _ | exact natc_add _ _ | exact natc_mul _ _ | exact natc (by omega)) (by omega) (by first | rfl | exact hma | exact hra | exact g4.ao (by rw [il_length]; omega)) ?_) | refine RL_skip rfl rfl rfl rfl ?_ | refine RL_skipU rfl rfl rfl ?_
                  first | (refine RL_want rfl rfl ?_; refine L_load rfl Try.one38 rfl (by first | exact (hm.old hs (Own.cons hgo Own.nil)).get (il_get (by omega)) | exact (hr.sl.old hs (Own.cons hgo Own.nil)).get g1 | exact (g4.old hs (Own.cons hgo Own.nil)).get (il_get (by omega)) | exact hs.cellA (i := 0) rfl (bls_get (by omega))) ?_) | refine RL_skip rfl rfl rfl rfl ?_ | refine RL_skipU rfl rfl rfl ?_
                  first | (refine RL_want rfl rfl ?_; refine L_move rfl rfl ?_) | refine RL_skip rfl rfl rfl rfl ?_ | refine RL_skipU rfl rfl rfl ?_
                  first | (refine RL_want rfl rfl ?_; refine L_idx1 rfl Try.underlying38 Try.ti2 rfl rfl (by with_reducible first | exact natc_k _ | exact natc_a1 _ | exact natc_0 | exact natc_1 | exact natc_2 | exact natc_s1 _ (by omega) | exact natc_a2 _ | exact natc_add _ _ | exact natc_mul _ _ | exact natc (by omega)) (by omega) (by first | rfl | exact hma | exact hra | exact g4.ao (by rw [il_length]; omega)) ?_) | refine RL_skip rfl rfl rfl rfl ?_ | refine RL_skipU rfl rfl rfl ?_
                  first | (refine RL_want rfl rfl ?_; refine L_load rfl Try.one2 rfl (by first | exact (hm.old hs (Own.cons hgo Own.nil)).get (il_get (by omega)) | exact (hr.sl.old hs (Own.cons hgo Own.nil)).get g1 | exact (g4.old hs (Own.cons hgo Own.nil)).get (il_get (by omega)) | exact hs.cellA (i := 0) rfl (bls_get (by omega))) ?_) | refine RL_skip rfl rfl rfl rfl ?_ | refine RL_skipU rfl rfl rfl ?_
                  first | (refine RL_want rfl rfl ?_; (first | refine L_lss rfl rfl rfl (dtrue (by omega)) ?_ | refine L_lss rfl rfl rfl (dfalse (by omega)) ?_ | refine L_lss rfl rfl rfl rfl ?_)) | refine RL_skip rfl rfl rfl rfl ?_ | refine RL_skipU rfl rfl rfl ?_
                  first | refine L_pick_t rfl rfl rfl ?_ | refine L_pick_f rfl rfl rfl ?_
                  refine L_move rfl rfl ?_
                  first | (refine RL_want rfl rfl ?_; refine L_move rfl rfl ?_) | refine RL_skip rfl rfl rfl rfl ?_ | refine RL_skipU rfl rfl rfl ?_
                  first | (refine RL_want rfl rfl ?_; refine L_move rfl rfl ?_) | refine RL_skip rfl rfl rfl rfl ?_ | refine RL_skipU rfl rfl rfl ?_
                  first | (refine RL_want rfl rfl ?_; refine L_idx1 rfl Try.underlying31 Try.ti4 rfl rfl (by with_reducible first | exact natc_k _ | exact natc_a1 _ | exact natc_0 | exact natc_1 | exact natc_2 | exact natc_s1 _ (by omega) | exact natc_a2 _ | exact natc_add _ _ | exact natc_mul _ _ | exact natc (by omega)) (by omega) (by first | rfl | exact hma | exact hra | exact g4.ao (by rw [il_length]; omega)) ?_) | refine RL_skip rfl rfl rfl rfl ?_ | refine RL_skipU rfl rfl rfl ?_
                  first | (refine RL_want rfl rfl ?_; refine L_load rfl Try.one4 rfl (by first | exact (hm.old hs (Own.cons hgo Own.nil)).get (il_get (by omega)) | exact (hr.sl.old hs (Own.cons hgo Own.nil)).get g1 | exact (g4.old hs (Own.cons hgo Own.nil)).get (il_get (by omega)) | exact hs.cellA (i := 0) rfl (bls_get (by omega))) ?_) | refine RL_skip rfl rfl rfl rfl ?_ | refine RL_skipU rfl rfl rfl ?_
                  first | refine L_pick_t rfl rfl rfl ?_ | refine L_pick_f rfl rfl rfl ?_
                  refine RL_then ?_
                  refine W_if_true rfl ?_
                  refine W_seq ?_
                  refine W_region ?_
                  refine L_assign rfl rfl ?_
                  refine L_assign rfl rfl ?_
                  refine RL_then ?_
                  refine W_ret' ?_
                  refine Ex_then_ret ?_
                  refine Ex_block_ret ?_
                  refine Ex_then_ret ?_
                  refine Ex_loop_ret ?_
                  refine Ex_block_ret ?_
                  refine Ex_then_ret ?_
                  refine Ex_done2 rfl rfl rfl ?_
                  exact ⟨_, rfl, _, _, rfl, hs.forget hO, hbadl _ _ ⟨by rw [← hx]; exact hx1, .inr (.inr (.inl (by rw [← hx, Int.toNat_natCast]; exact hneg)))⟩ rfl rfl⟩
                · have huj := hus j (by omega)
                  have hel : (rows.getD i []).getD j 0 ≤ 1099511627776 := hF.cost i j (by omega) (by show j < (rows.getD i []).length; omega)
                  refine L_move rfl rfl ?_
                  first | refine L_eql rfl rfl rfl (dtrue (by omega)) ?_ | refine L_eql rfl rfl rfl (dfalse (by omega)) ?_ | refine L_eql rfl rfl rfl rfl ?_
                  refine RL_then ?_
                  refine W_if_false rfl ?_
                  refine W_skip' ?_
                  refine Nx_then ?_
                  refine W_seq ?_
                  refine W_seq ?_
                  refine W_region ?_
                  refine L_move rfl rfl ?_
                  first | refine L_lss rfl rfl rfl (dtrue (by omega)) ?_ | refine L_lss rfl rfl rfl (dfalse (by omega)) ?_ | refine L_lss rfl rfl rfl rfl ?_
                  refine L_move rfl rfl ?_
                  first | (refine RL_want rfl rfl ?_; refine L_move rfl rfl ?_) | refine RL_skip rfl rfl rfl rfl ?_ | refine RL_skipU rfl rfl rfl ?_
                  first | (refine RL_want rfl rfl ?_; refine L_move rfl rfl ?_) | refine RL_skip rfl rfl rfl rfl ?_ | refine RL_skipU rfl rfl rfl ?_
                  first | (refine RL_want rfl rfl ?_; refine L_move rfl rfl ?_) | refine RL_skip rfl rfl rfl rfl ?_ | refine RL_skipU rfl rfl rfl ?_
                  first | (refine RL_want rfl rfl ?_; refine L_idx1 rfl Try.underlying22 Try.ti38 rfl rfl (by with_reducible first | exact natc_k _ | exact natc_a1 _ | exact natc_0 | exact natc_1 | exact natc_2 | exact natc_s1 _ (by omega) | exact natc_a2 _ | exact natc_add _ _ | exact natc_mul _ _ | exact natc (by omega)) (by omega) (by first | rfl | exact hma | exact hra | exact g4.ao (by rw [il_length]; omega)) ?_) | refine RL_skip rfl rfl rfl rfl ?_ | refine RL_skipU rfl rfl rfl ?_
                  first | (refine RL_want rfl rfl ?_; refine L_load rfl Try.one38 rfl (by first | exact (hm.old hs (Own.cons hgo Own.nil)).get (il_get (by omega)) | exact (hr.sl.old hs (Own.cons hgo Own.nil)).get g1 | exact (g4.old hs (Own.cons hgo Own.nil)).get (il_get (by omega)) | exact hs.cellA (i := 0) rfl (bls_get (by omega))) ?_) | refine RL_skip rfl rfl rfl rfl ?_ | refine RL_skipU rfl rfl rfl ?_
                  first | (refine RL_want rfl rfl ?_; refine L_len rfl Try.underlying38 rfl ?_) | refine RL_skip rfl rfl rfl rfl ?_ | refine RL_skipU rfl rfl rfl ?_
                  first | (refine RL_want rfl rfl ?_; (first | refine L_geq rfl rfl rfl (dtrue (by omega)) ?_ | refine L_geq rfl rfl rfl (dfalse (by omega)) ?_ | refine L_geq rfl rfl rfl rfl ?_)) | refine RL_skip rfl rfl rfl rfl ?_ | refine RL_skipU rfl rfl rfl ?_
                  first | refine L_pick_t rfl rfl rfl ?_ | refine L_pick_f rfl rfl rfl ?_
                  refine L_move rfl rfl ?_
                  first | (refine RL_want rfl rfl ?_; refine L_move rfl rfl ?_) | refine RL_skip rfl rfl rfl rfl ?_ | refine RL_skipU rfl rfl rfl ?_
                  first | (refine RL_want rfl rfl ?_; refine L_move rfl rfl ?_) | refine RL_skip rfl rfl rfl rfl ?_ | refine RL_skipU rfl rfl rfl ?_
                  first | (refine RL_want rfl rfl ?_; refine L_idx1 rfl Try.underlying22 Try.ti38 rfl rfl (by with_reducible first | exact natc_k _ | exact natc_a1 _ | exact natc_0 | exact natc_1 | exact natc_2 | exact natc_s1 _ (by omega) | exact natc_a2 _ | exact natc_add _ _ | exact natc_mul _ _ | exact natc (by omega)) (by omega) (by first | rfl | exact hma | exact hra | exact g4.ao (by rw [il_length]; omega)) ?_) | refine RL_skip rfl rfl rfl rfl ?_ | refine RL_skipU rfl rfl rfl ?_
                  first | (refine RL_want rfl rfl ?_; refine L_load rfl Try.one38 rfl (by first | exact (hm.old hs (Own.cons hgo Own.nil)).get (il_get (by omega)) | exact (hr.sl.old hs (Own.cons hgo Own.nil)).get g1 | exact (g4.old hs (Own.cons hgo Own.nil)).get (il_get (by omega)) | exact hs.cellA (i := 0) rfl (bls_get (by omega))) ?_) | refine RL_skip rfl rfl rfl rfl ?_ | refine RL_skipU rfl rfl rfl ?_
                  first | (refine RL_want rfl rfl ?_; refine L_move rfl rfl ?_) | refine RL_skip rfl rfl rfl rfl ?_ | refine RL_skipU rfl rfl rfl ?_
                  first | (refine RL_want rfl rfl ?_; refine L_idx1 rfl Try.underlying38 Try.ti2 rfl rfl (by with_reducible first | exact natc_k _ | exact natc_a1 _ | exact natc_0 | exact natc_1 | exact natc_2 | exact natc_s1 _ (by omega) | exact natc_a2 _ | exact natc_add _ _ | exact natc_mul _ _ | exact natc (by omega)) (by omega) (by first | rfl | exact hma | exact hra | exact g4.ao (by rw [il_length]; omega)) ?_) | refine RL_skip rfl rfl rfl rfl ?_ | refine RL_skipU rfl rfl rfl ?_
                  first | (refine RL_want rfl rfl ?_; refine L_load rfl Try.one2 rfl (by first | exact (hm.old hs (Own.cons hgo Own.nil)).get (il_get (by omega)) | exact (hr.sl.old hs (Own.cons hgo Own.nil)).get g1 | exact (g4.old hs (Own.cons hgo Own.nil)).get (il_get (by omega)) | exact hs.cellA (i := 0) rfl (bls_get (by omega))) ?_) | refine RL_skip rfl rfl rfl rfl ?_ | refine RL_skipU rfl rfl rfl ?_
                  first | (refine RL_want rfl rfl ?_; (first | refine L_lss rfl rfl rfl (dtrue (by omega)) ?_ | refine L_lss rfl rfl rfl (dfalse (by omega)) ?_ | refine L_lss rfl rfl rfl rfl ?_)) | refine RL_skip rfl rfl rfl rfl ?_ | refine RL_skipU rfl rfl rfl ?_
                  first | refine L_pick_t rfl rfl rfl ?_ | refine L_pick_f rfl rfl rfl ?_
                  refine L_move rfl rfl ?_
                  first | (refine RL_want rfl rfl ?_; refine L_move rfl rfl ?_) | refine RL_skip rfl rfl rfl rfl ?_ | refine RL_skipU rfl rfl rfl ?_
                  first | (refine RL_want rfl rfl ?_; refine L_move rfl rfl ?_) | refine RL_skip rfl rfl rfl rfl ?_ | refine RL_skipU rfl rfl rfl ?_
                  first | (refine RL_want rfl rfl ?_; refine L_idx1 rfl Try.underlying31 Try.ti4 rfl rfl (by with_reducible first | exact natc_k _ | exact natc_a1 _ | exact natc_0 | exact natc_1 | exact natc_2 | exact natc_s1 _ (by omega) | exact natc_a2 _ | exact natc_add _ _ | exact natc_mul _ _ | exact natc (by omega)) (by omega) (by first | rfl | exact hma | exact hra | exact g4.ao (by rw [il_length]; omega)) ?_) | refine RL_skip rfl rfl rfl rfl ?_ | refine RL_skipU rfl rfl rfl ?_
                  first | (refine RL_want rfl rfl ?_; refine L_load rfl Try.one4 rfl (by first | exact (hm.old hs (Own.cons hgo Own.nil)).get (il_get (by omega)) | exact (hr.sl.old hs (Own.cons hgo Own.nil)).get g1 | exact (g4.old hs (Own.cons hgo Own.nil)).get (il_get (by omega)) | exact hs.cellA (i := 0) rfl (bls_get (by omega))) ?_) | refine RL_skip rfl rfl rfl rfl ?_ | refine RL_skipU rfl rfl rfl ?_
                  cases hu : used.getD j false
                  · have hnu : ¬∃ q, q < i ∧ mt.getD q 0 = (j : Int) := fun h => by rw [huj.2 h] at hu; cases hu
                    have hnbi : ¬badT rows mt i := fun hb => by
                      obtain ⟨_, hb⟩ := hb
                      rw [← hx, Int.toNat_natCast] at hb
                      rcases hb with h5 | h5 | h5 | h5
                      · omega
                      · simp only [wid] at h5; omega
                      · exact hneg h5
                      · exact hnu h5
                    first | refine L_pick_t rfl rfl rfl ?_ | refine L_pick_f rfl rfl rfl ?_
                    refine RL_then ?_
                    refine W_if_false rfl ?_
                    refine W_skip' ?_
                    refine Nx_then ?_
                    refine W_seq ?_
                    refine W_region ?_
                    refine L_move rfl rfl ?_
                    refine L_move rfl rfl ?_
                    refine L_idx1 rfl Try.underlying31 Try.ti4 rfl rfl (by with_reducible first | exact natc_k _ | exact natc_a1 _ | exact natc_0 | exact natc_1 | exact natc_2 | exact natc_s1 _ (by omega) | exact natc_a2 _ | exact natc_add _ _ | exact natc_mul _ _ | exact natc (by omega)) (by omega) (by first | rfl | exact hma | exact hra | exact g4.ao (by rw [il_length]; omega)) ?_
                    refine L_store hs (i := 0) rfl Try.ti4 rfl rfl (by first | rfl | exact add_lit0 _ _ | exact Addr.add_lit ..) (by rw [bls_length]; omega) rfl ?_
                    intro w hs
                    try dsimp only [List.set_cons_succ, List.set_cons_zero, List.cons_append, List.nil_append] at hs
                    refine RL_then ?_
                    refine W_region ?_
                    rw [bls_set] at hs
                    refine L_move rfl rfl ?_
                    refine L_move rfl rfl ?_
                    refine L_move rfl rfl ?_
                    refine L_idx1 rfl Try.underlying22 Try.ti38 rfl rfl (by with_reducible first | exact natc_k _ | exact natc_a1 _ | exact natc_0 | exact natc_1 | exact natc_2 | exact natc_s1 _ (by omega) | exact natc_a2 _ | exact natc_add _ _ | exact natc_mul _ _ | exact natc (by omega)) (by omega) (by first | rfl | exact hma | exact hra | exact g4.ao (by rw [il_length]; omega)) ?_
                    refine L_load rfl Try.one38 rfl (by first | exact (hm.old hs (Own.cons hgo Own.nil)).get (il_get (by omega)) | exact (hr.sl.old hs (Own.cons hgo Own.nil)).get g1 | exact (g4.old hs (Own.cons hgo Own.nil)).get (il_get (by omega)) | exact hs.cellA (i := 0) rfl (bls_get (by omega))) ?_
                    refine L_move rfl rfl ?_
                    refine L_idx1 rfl Try.underlying38 Try.ti2 rfl rfl (by with_reducible first | exact natc_k _ | exact natc_a1 _ | exact natc_0 | exact natc_1 | exact natc_2 | exact natc_s1 _ (by omega) | exact natc_a2 _ | exact natc_add _ _ | exact natc_mul _ _ | exact natc (by omega)) (by omega) (by first | rfl | exact hma | exact hra | exact g4.ao (by rw [il_length]; omega)) ?_
                    refine L_load rfl Try.one2 rfl (by first | exact (hm.old hs (Own.cons hgo Own.nil)).get (il_get (by omega)) | exact (hr.sl.old hs (Own.cons hgo Own.nil)).get g1 | exact (g4.old hs (Own.cons hgo Own.nil)).get (il_get (by omega)) | exact hs.cellA (i := 0) rfl (bls_get (by omega))) ?_
                    first | refine L_add rfl rfl rfl (wrp_i64 (by omega)) ?_ | refine L_add rfl rfl rfl rfl ?_
                    refine L_assign rfl rfl ?_
                    refine RL_nil' ?_
                    refine Nx_block ?_
                    refine Nx_then ?_
                    refine W_region ?_
                    first | refine L_add rfl rfl rfl (wrp_i64 (by omega)) ?_ | refine L_add rfl rfl rfl rfl ?_
                    refine L_move rfl rfl ?_
                    refine RL_nil' ?_
                    refine Nx_loopP (i + 1, used.set j true, t + (rows.getD i []).getD j 0, _) (is := [0, 7, 8, 22, 23, 24]) (I' := (fun (i : Nat) (used : List Bool) (t : Int) (w : World) => (i ≤ km) ∧ (used.length = 256) ∧ (∀ j : Nat, j < 256 → (used.getD j false = true ↔ ∃ q, q < i ∧ mt.getD q 0 = (j : Int))) ∧ (t = tot i (fun q => if mt.getD q 0 = -1 then 0 else el rows q (mt.getD q 0).toNat)) ∧ (0 ≤ t ∧ t ≤ i * 1099511627776) ∧ (∀ q, q < i → ¬badT rows mt q) ∧ (HS w0 w [(g, Row 4 (bls used))])) (i + 1) (used.set j true) (t + (rows.getD i []).getD j 0) (_)) rfl rfl rfl ?_ ?_
                    · refine ⟨by omega, by simp [hul], fun j2 hj2 => ?_, ?_, ⟨by omega, by omega⟩, fun q hq => ?_, hs⟩
                      · rw [gset (by omega)]
                        by_cases hjj : j2 = j
                        · rw [if_pos hjj]
                          exact ⟨fun _ => ⟨i, by omega, by rw [← hx, hjj]⟩, fun _ => rfl⟩
                        · rw [if_neg hjj, hus j2 hj2]
                          constructor
                          · rintro ⟨q, hq, he⟩; exact ⟨q, by omega, he⟩
                          · rintro ⟨q, hq, he⟩
                            refine ⟨q, ?_, he⟩
                            by_cases hqi : q = i
                            · rw [hqi, ← hx] at he; omega
                            · omega
                      · simp only [tot]; rw [← hx, if_neg hx1, ← ht, Int.toNat_natCast]
                      · by_cases hqi : q = i
                        · rw [hqi]; exact hnbi
                        · exact hnb q (by omega)
                    · omega
                  · first | refine L_pick_t rfl rfl rfl ?_ | refine L_pick_f rfl rfl rfl ?_
                    refine RL_then ?_
                    refine W_if_true rfl ?_
                    refine W_seq ?_
                    refine W_region ?_
                    refine L_assign rfl rfl ?_
                    refine L_assign rfl rfl ?_
                    refine RL_then ?_
                    refine W_ret' ?_
                    refine Ex_then_ret ?_
                    refine Ex_block_ret ?_
                    refine Ex_then_ret ?_
                    refine Ex_loop_ret ?_
                    refine Ex_block_ret ?_
                    refine Ex_then_ret ?_
                    refine Ex_done2 rfl rfl rfl ?_
                    exact ⟨_, rfl, _, _, rfl, hs.forget hO, hbadl _ _ ⟨by rw [← hx]; exact hx1, .inr (.inr (.inr (by rw [← hx]; exact huj.1 hu)))⟩ rfl rfl⟩
        · have hik : i = km := by omega
          rw [hik] at ht hnb
          refine W_seq ?_
          refine W_region ?_
          first | refine L_lss rfl rfl rfl (dtrue (by omega)) ?_ | refine L_lss rfl rfl rfl (dfalse (by omega)) ?_ | refine L_lss rfl rfl rfl rfl ?_
          refine RL_then ?_
          refine W_seq ?_
          refine W_if_false rfl ?_
          refine W_exit' ?_
          refine Ex_then_exit ?_
          refine Ex_loop_exit ?_
          refine Ex_block_hit ?_
          refine Nx_then ?_
          refine W_seq ?_
          refine W_region ?_
          refine L_move rfl rfl ?_
          refine L_assign rfl rfl ?_
          refine L_assign rfl rfl ?_
          refine RL_then ?_
          refine W_ret' ?_
          refine Ex_done2 rfl rfl rfl ?_
          exact ⟨_, rfl, _, _, rfl, hs.forget hO, .inr (.inr (.inr ⟨he0, by omega, by rw [hk]; exact hnb, by rw [hk]; exact ht, rfl⟩))⟩
    · refine L_assign rfl rfl ?_
      refine RL_then ?_
      refine W_seq ?_
      refine W_region ?_
      refine L_move rfl rfl ?_
      first | refine L_neq rfl rfl rfl (dtrue (by omega)) ?_ | refine L_neq rfl rfl rfl (dfalse (by omega)) ?_ | refine L_neq rfl rfl rfl rfl ?_
      refine RL_then ?_
      refine W_if_false rfl ?_
      refine W_skip' ?_
      refine Nx_then ?_
      refine W_seq ?_
      refine W_seq ?_
      refine W_region ?_
      refine L_move rfl rfl ?_
      refine L_len rfl Try.underlying25 rfl ?_
      refine L_move rfl rfl ?_
      refine L_len rfl Try.underlying22 rfl ?_
      first | refine L_neq rfl rfl rfl (dtrue (by omega)) ?_ | refine L_neq rfl rfl rfl (dfalse (by omega)) ?_ | refine L_neq rfl rfl rfl rfl ?_
      refine RL_then ?_
      refine W_if_true rfl ?_
      refine W_seq ?_
      refine W_region ?_
      refine L_assign rfl rfl ?_
      refine L_assign rfl rfl ?_
      refine RL_then ?_
      refine W_ret' ?_
      refine Ex_then_ret ?_
      refine Ex_done2 rfl rfl rfl ?_
      exact ⟨_, rfl, _, _, rfl, hs, .inr (.inl ⟨he0, by omega, rfl, rfl⟩)⟩
end Go.Proofs.Ytcfdmenmlemahaa
