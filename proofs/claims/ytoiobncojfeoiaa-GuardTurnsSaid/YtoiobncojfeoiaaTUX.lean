/-
  A part of the proof: what functions that the statement reaches do, or a plain law on what they do. Each theorem holds under its own premises alone.
-/
import Derived.Test.YtoiobncojfeoiaaTUV2
import Derived.Test.YtoiobncojfeoiaaTUW1
namespace Go.Proofs.Ytoiobncojfeoiaa
open Go Go.Lk
/-! ### Lists of pairs; held, great -/
abbrev PP := Int × Int
def pr (p : PP) : List Value := [.int .i64 p.1, .int .i64 p.2]
def prs (ps : List PP) : List Value := ps.flatMap pr
theorem prs_len (ts : List PP) : (prs ts).length = ts.length * 2 := by
  induction ts with
  | nil => rfl
  | cons t ts ih =>
    show (pr t ++ prs ts).length = _
    rw [List.length_append, ih, List.length_cons]
    show 2 + _ = _
    omega
theorem prs_get : ∀ {ts : List PP} {i q : Nat} {v : Value}, i < ts.length → (pr (ts.getD i (0, 0)))[q]? = some v → (prs ts)[i * 2 + q]? = some v
  | t :: ts, 0, q, v, _, h => by
    show (pr t ++ prs ts)[0 * 2 + q]? = some v
    rw [Nat.zero_mul, Nat.zero_add]
    have hq : q < (pr t).length := (List.getElem?_eq_some_iff.1 h).1
    rw [List.getElem?_append_left hq]; exact h
  | t :: ts, i + 1, q, v, hi, h => by
    show (pr t ++ prs ts)[(i + 1) * 2 + q]? = some v
    have hl : (pr t).length = 2 := rfl
    rw [List.getElem?_append_right (by omega), show (i + 1) * 2 + q - (pr t).length = i * 2 + q by omega]
    exact prs_get (by simpa using hi) h
theorem prs_at {w : World} {a : Option Addr} {ts : List PP} (h : SlC w a (prs ts)) {i : Nat} (hi : i < ts.length) : CellsAt w ((aD a).add (i * 2)) (pr (ts.getD i (0, 0))) := h.sub fun _ _ hv => prs_get hi hv
theorem prs_app (ts us : List PP) : prs (ts ++ us) = prs ts ++ prs us := List.flatMap_append ..
theorem prs_one (ts : List PP) : ∀ u ∈ prs ts, u.oneCell' = true := by
  intro u hu
  obtain ⟨p, _, hu⟩ := List.mem_flatMap.1 hu
  unfold pr at hu
  simp only [List.mem_cons, List.not_mem_nil, or_false] at hu
  rcases hu with rfl | rfl <;> rfl
theorem pair53 : PairT Try.prog 53 := PairT.of Try.underlying53 (by decide) (by decide) rfl rfl Try.underlying3 Try.underlying3 (by kernel_rfl)
theorem held_ok (a : Option Addr) (k c : Nat) (P : List PP) (p : PP) (w0 : World) (hx : SlC w0 a (prs P)) (hk : P.length = k) (hk2 : k ≤ 1000000000000) :
    Ret Try.prog 16 [.slice a k c, pk p] w0 fun v w' => ∃ j, v = .int .i64 j ∧ HS w0 w' [] ∧ Found (fun i => P.getD i (0, 0) = p) k j := by
  refine Ret.start fun w hs => ?_
  refine calls_of_W Try.func16 rfl rfl rfl ?_
  refine W_seq ?_
  refine W_region ?_
  refine L_box rfl hs rfl ?_
  intro b3 w hb3 hnb3 hs
  try dsimp only [List.set_cons_succ, List.set_cons_zero, List.cons_append, List.nil_append] at hs
  refine L_assign rfl rfl ?_
  refine RL_then ?_
  refine W_seq ?_
  refine W_seq ?_
  refine W_region ?_
  replace hs : HS w0 w [(b3, Row 53 (pr p))] := hs
  have ho : ∀ L, L = [(b3, Row 53 (pr p))] → Own w0 L := fun L h => by rw [h]; exact Own.cons hb3 Own.nil
  refine L_move rfl rfl ?_
  refine L_len rfl Try.underlying43 rfl ?_
  refine L_move rfl rfl ?_
  refine RL_then ?_
  refine W_block ?_
  refine W_loop2 (fun (i : Nat) (w : World) => [(0, .slice a k c), (3, .pointer (some ⟨b3, 0, none⟩)), (7, .int .i64 k), (8, .int .i64 i)]) (fun (i : Nat) (w : World) => w) (fun (i : Nat) (w : World) => (i ≤ k) ∧ (∀ q, q < i → ¬ P.getD q (0, 0) = p) ∧ (HS w0 w [(b3, Row 53 (pr p))])) (fun (i : Nat) (w : World) => k - i) (0) (w) (is := [0, 3, 7, 8]) rfl rfl ?_ ?_
  · exact ⟨Nat.zero_le _, fun _ h => absurd h (Nat.not_lt_zero _), hs⟩
  · clear hs
    intro i w hI
    show W _ _ _ _ [(0, .slice a k c), (3, .pointer (some ⟨b3, 0, none⟩)), (7, .int .i64 k), (8, .int .i64 i)] w
    obtain ⟨hi, hq, hs⟩ := hI
    by_cases hlt : i < k
    · refine W_seq ?_
      refine W_region ?_
      first | refine L_lss rfl rfl rfl (dtrue (by omega)) ?_ | refine L_lss rfl rfl rfl (dfalse (by omega)) ?_ | refine L_lss rfl rfl rfl rfl ?_
      refine RL_then ?_
      refine W_seq ?_
      refine W_if_true rfl ?_
      by_cases hp : P.getD i (0, 0) = p
      · refine W_skip' ?_
        refine Nx_then ?_
        refine W_seq ?_
        refine W_block ?_
        refine W_seq ?_
        refine W_region ?_
        refine L_move rfl rfl ?_
        refine L_assign rfl rfl ?_
        refine RL_then ?_
        refine W_seq ?_
        refine W_pht [0, 1, 2] [3, 4, 5] [] (fun _ _ _ => False) Try.mixed (by kernel_rfl) (fun _ _ _ _ _ h => h) hs ?_
        refine PL_val rfl (fun w => R_move rfl) ?_
        refine PL_val rfl (fun w => R_move rfl) ?_
        refine PL_val rfl (fun w => R_idxN Try.underlying43 Try.ti53 rfl rfl (by with_reducible first | exact natc_k _ | exact natc_a1 _ | exact natc_0 | exact natc_1 | exact natc_2 | exact natc_s1 _ (by omega) | exact natc_a2 _ | exact natc_add _ _ | exact natc_mul _ _ | exact natc (by omega)) (by omega) (hx.ao (by rw [prs_len]; omega))) ?_
        refine PL_end ?_
        refine HL_val rfl (fun w hs => R_loadA Try.agg53 Try.ti53 rfl (by exact prs_at (hx.old hs (ho _ rfl)) (by omega))) ?_
        refine HL_val rfl (fun w hs => R_loadA Try.agg53 Try.ti53 rfl (by exact cellsAt2' (hs.get (i := 0) rfl) rfl rfl)) ?_
        refine HL_val rfl (fun w hs => R_peql (a := P.getD i (0, 0)) (b := p) pair53 (by kernel_rfl) rfl rfl) ?_
        refine HL_tail ?_
        intro w hs
        refine RL_then ?_
        refine W_set 16 (v' := .bool true) rfl ((congrArg Value.bool (decide_eq_true hp))) ?_
        refine W_if_true rfl ?_
        refine W_seq ?_
        refine W_region ?_
        refine L_move rfl rfl ?_
        refine L_assign rfl rfl ?_
        refine RL_then ?_
        refine W_ret' ?_
        refine Ex_block_ret ?_
        refine Ex_then_ret ?_
        refine Ex_loop_ret ?_
        refine Ex_block_ret ?_
        refine Ex_then_ret ?_
        refine Ex_done1 rfl rfl ?_
        exact ⟨_, rfl, _, rfl, hs.forget (ho _ rfl), .inl ⟨i, hlt, rfl, hp, hq⟩⟩
      · refine W_skip' ?_
        refine Nx_then ?_
        refine W_seq ?_
        refine W_block ?_
        refine W_seq ?_
        refine W_region ?_
        refine L_move rfl rfl ?_
        refine L_assign rfl rfl ?_
        refine RL_then ?_
        refine W_seq ?_
        refine W_pht [0, 1, 2] [3, 4, 5] [] (fun _ _ _ => False) Try.mixed (by kernel_rfl) (fun _ _ _ _ _ h => h) hs ?_
        refine PL_val rfl (fun w => R_move rfl) ?_
        refine PL_val rfl (fun w => R_move rfl) ?_
        refine PL_val rfl (fun w => R_idxN Try.underlying43 Try.ti53 rfl rfl (by with_reducible first | exact natc_k _ | exact natc_a1 _ | exact natc_0 | exact natc_1 | exact natc_2 | exact natc_s1 _ (by omega) | exact natc_a2 _ | exact natc_add _ _ | exact natc_mul _ _ | exact natc (by omega)) (by omega) (hx.ao (by rw [prs_len]; omega))) ?_
        refine PL_end ?_
        refine HL_val rfl (fun w hs => R_loadA Try.agg53 Try.ti53 rfl (by exact prs_at (hx.old hs (ho _ rfl)) (by omega))) ?_
        refine HL_val rfl (fun w hs => R_loadA Try.agg53 Try.ti53 rfl (by exact cellsAt2' (hs.get (i := 0) rfl) rfl rfl)) ?_
        refine HL_val rfl (fun w hs => R_peql (a := P.getD i (0, 0)) (b := p) pair53 (by kernel_rfl) rfl rfl) ?_
        refine HL_tail ?_
        intro w hs
        refine RL_then ?_
        refine W_set 16 (v' := .bool false) rfl ((congrArg Value.bool (decide_eq_false hp))) ?_
        refine W_if_false rfl ?_
        refine W_skip' ?_
        refine Nx_block ?_
        refine Nx_then ?_
        refine W_region ?_
        first | refine L_add rfl rfl rfl (wrp_i64 (by omega)) ?_ | refine L_add rfl rfl rfl rfl ?_
        refine L_move rfl rfl ?_
        refine RL_nil' ?_
        refine Nx_loopP (i + 1, _) (is := [0, 3, 7, 8]) (I' := (fun (i : Nat) (w : World) => (i ≤ k) ∧ (∀ q, q < i → ¬ P.getD q (0, 0) = p) ∧ (HS w0 w [(b3, Row 53 (pr p))])) (i + 1) (_)) rfl rfl rfl ?_ ?_
        · refine ⟨by omega, fun q hq2 => ?_, hs⟩
          by_cases hqi : q = i
          · rw [hqi]; exact hp
          · exact hq q (by omega)
        · omega
    · obtain rfl : k = i := by omega
      refine W_seq ?_
      refine W_region ?_
      first | refine L_lss rfl rfl rfl (dtrue (by omega)) ?_ | refine L_lss rfl rfl rfl (dfalse (by omega)) ?_ | refine L_lss rfl rfl rfl rfl ?_
      refine RL_then ?_
      refine W_seq ?_
      refine W_if_false rfl ?_
      refine W_exit' ?_
      refine Ex_then_exit ?_
      refine Ex_loop_exit ?_
      refine Ex_block_hit ?_
      refine Nx_then ?_
      refine W_seq ?_
      refine W_region ?_
      refine L_assign rfl rfl ?_
      refine RL_then ?_
      refine W_ret' ?_
      refine Ex_done1 rfl rfl ?_
      exact ⟨_, rfl, _, rfl, hs.forget (ho _ rfl), .inr ⟨rfl, hq⟩⟩
def tkS (ls : List LK) (i : Nat) : Nat := ((ls.take i).map (·.ts.length)).sum
def crS (zs : List AZ) (i : Nat) : Nat := ((zs.take i).map (·.ps.length / 4)).sum
theorem tkS_succ {ls : List LK} {i : Nat} (h : i < ls.length) : tkS ls (i + 1) = tkS ls i + (ls.getD i lk0).ts.length := by
  unfold tkS
  rw [List.take_add_one, List.getElem?_eq_getElem h, List.getD_eq_getElem?_getD, List.getElem?_eq_getElem h, List.map_append, List.sum_append]
  rfl
theorem crS_succ {zs : List AZ} {i : Nat} (h : i < zs.length) : crS zs (i + 1) = crS zs i + (zs.getD i az0).ps.length / 4 := by
  unfold crS
  rw [List.take_add_one, List.getElem?_eq_getElem h, List.getD_eq_getElem?_getD, List.getElem?_eq_getElem h, List.map_append, List.sum_append]
  rfl
theorem great_ok (a b : Option Addr) (c d : Nat) (zs : List AZ) (ls : List LK) (w0 : World) (hz : SlC w0 a (azs zs)) (hl : SlC w0 b (lks ls)) (hz1 : zs.length ≤ 1000000000000000) (hl1 : ls.length ≤ 1000000000000000)
    (hz2 : ∀ i, i < zs.length → (zs.getD i az0).ps.length ≤ 1000000000000000) (hl2 : ∀ i, i < ls.length → (ls.getD i lk0).ts.length ≤ 1000000000000000) :
    Ret Try.prog 12 [.slice a zs.length c, .slice b ls.length d] w0 fun v w' => ∃ g, v = .bool g ∧ HS w0 w' [] ∧ (g = false → ls.length + zs.length + tkS ls ls.length + crS zs zs.length ≤ 2048) := by
  refine Ret.start fun w hs => ?_
  obtain ⟨k, hk⟩ : ∃ k, k = ls.length := ⟨_, rfl⟩
  obtain ⟨m, hm⟩ : ∃ m, m = zs.length := ⟨_, rfl⟩
  rw [← hk, ← hm]
  refine calls_of_W Try.func12 rfl rfl rfl ?_
  refine W_seq ?_
  refine W_region ?_
  refine L_assign rfl rfl ?_
  refine RL_then ?_
  refine W_seq ?_
  refine W_region ?_
  refine L_move rfl rfl ?_
  refine L_len rfl Try.underlying32 rfl ?_
  refine L_move rfl rfl ?_
  refine L_len rfl Try.underlying31 rfl ?_
  first | refine L_add rfl rfl rfl (wrp_i64 (by omega)) ?_ | refine L_add rfl rfl rfl rfl ?_
  refine L_assign rfl rfl ?_
  refine RL_then ?_
  refine W_seq ?_
  refine W_seq ?_
  refine W_region ?_
  refine L_assign rfl rfl ?_
  refine RL_then ?_
  refine W_cut2 (fun (n : Nat) (w : World) => [(0, .slice a m c), (1, .slice b k d), (5, .int .i64 n)]) (fun (n : Nat) (w : World) => w) (fun (n : Nat) (w : World) => (n ≤ 3000000000000000) ∧ (n ≤ 2048 → n = k + m + tkS ls k) ∧ (HS w0 w [])) ?_ ?_
  · refine W_block ?_
    refine W_loop3 (fun (i : Nat) (n : Nat) (w : World) => [(0, .slice a m c), (1, .slice b k d), (5, .int .i64 n), (6, .int .i64 i)]) (fun (i : Nat) (n : Nat) (w : World) => w) (fun (i : Nat) (n : Nat) (w : World) => (i ≤ k) ∧ (n ≤ 3000000000000000) ∧ (n = k + m + tkS ls i) ∧ (HS w0 w [])) (fun (i : Nat) (n : Nat) (w : World) => k - i) (0) (k + m) (w) (is := [0, 1, 5, 6]) rfl rfl ?_ ?_
    · exact ⟨Nat.zero_le _, by omega, by simp [tkS], hs⟩
    · clear hs
      intro i n w hI
      show W _ _ _ _ [(0, .slice a m c), (1, .slice b k d), (5, .int .i64 n), (6, .int .i64 i)] w
      obtain ⟨hi, hn, hne, hs⟩ := hI
      by_cases hlt : i < k ∧ n ≤ 2048
      · obtain ⟨hlt, hn6⟩ := hlt
        have h2 := hl2 i (by omega)
        refine W_seq ?_
        refine W_seq ?_
        refine W_region ?_
        refine L_move rfl rfl ?_
        refine L_move rfl rfl ?_
        refine L_len rfl Try.underlying32 rfl ?_
        first | refine L_lss rfl rfl rfl (dtrue (by omega)) ?_ | refine L_lss rfl rfl rfl (dfalse (by omega)) ?_ | refine L_lss rfl rfl rfl rfl ?_
        refine L_move rfl rfl ?_
        first | (refine RL_want rfl rfl ?_; refine L_move rfl rfl ?_) | refine RL_skip rfl rfl rfl rfl ?_ | refine RL_skipU rfl rfl rfl ?_
        first | (refine RL_want rfl rfl ?_; (first | refine L_leq rfl rfl rfl (dtrue (by omega)) ?_ | refine L_leq rfl rfl rfl (dfalse (by omega)) ?_ | refine L_leq rfl rfl rfl rfl ?_)) | refine RL_skip rfl rfl rfl rfl ?_ | refine RL_skipU rfl rfl rfl ?_
        first | refine L_pick_t rfl rfl rfl ?_ | refine L_pick_f rfl rfl rfl ?_
        refine RL_then ?_
        refine W_if_true rfl ?_
        refine W_skip' ?_
        refine Nx_then ?_
        refine W_seq ?_
        refine W_block ?_
        refine W_region ?_
        refine L_move rfl rfl ?_
        refine L_move rfl rfl ?_
        refine L_move rfl rfl ?_
        refine L_idxN rfl Try.underlying32 Try.ti46 rfl rfl (by with_reducible first | exact natc_k _ | exact natc_a1 _ | exact natc_0 | exact natc_1 | exact natc_2 | exact natc_s1 _ (by omega) | exact natc_a2 _ | exact natc_add _ _ | exact natc_mul _ _ | exact natc (by omega)) (by omega) (hl.ao (by rw [lks_len]; omega)) ?_
        refine L_fieldAddr rfl (off := 1) Try.underlying46 rfl rfl Try.ti44 rfl ?_
        refine L_load rfl Try.one44 rfl (by exact lks_at (hl.old hs Own.nil) (show i < ls.length by omega) 1 _ rfl) ?_
        refine L_len rfl Try.underlying44 rfl ?_
        first | refine L_add rfl rfl rfl (wrp_i64 (by omega)) ?_ | refine L_add rfl rfl rfl rfl ?_
        refine L_assign rfl rfl ?_
        refine RL_nil' ?_
        refine Nx_block ?_
        refine Nx_then ?_
        refine W_region ?_
        refine L_move rfl rfl ?_
        first | refine L_add rfl rfl rfl (wrp_i64 (by omega)) ?_ | refine L_add rfl rfl rfl rfl ?_
        refine L_assign rfl rfl ?_
        refine RL_nil' ?_
        refine Nx_loopP (i + 1, n + (ls.getD i lk0).ts.length, w) (is := [0, 1, 5, 6]) (I' := (fun (i : Nat) (n : Nat) (w : World) => (i ≤ k) ∧ (n ≤ 3000000000000000) ∧ (n = k + m + tkS ls i) ∧ (HS w0 w [])) (i + 1) (n + (ls.getD i lk0).ts.length) (w)) rfl rfl rfl ?_ ?_
        · exact ⟨by omega, by omega, by rw [tkS_succ (by omega)]; omega, hs⟩
        · omega
      · rcases (show k ≤ i ∨ (i < k ∧ 2048 < n) by omega) with h5 | h5
        · refine W_seq ?_
          refine W_seq ?_
          refine W_region ?_
          refine L_move rfl rfl ?_
          refine L_move rfl rfl ?_
          refine L_len rfl Try.underlying32 rfl ?_
          first | refine L_lss rfl rfl rfl (dtrue (by omega)) ?_ | refine L_lss rfl rfl rfl (dfalse (by omega)) ?_ | refine L_lss rfl rfl rfl rfl ?_
          refine L_move rfl rfl ?_
          first | (refine RL_want rfl rfl ?_; refine L_move rfl rfl ?_) | refine RL_skip rfl rfl rfl rfl ?_ | refine RL_skipU rfl rfl rfl ?_
          first | (refine RL_want rfl rfl ?_; (first | refine L_leq rfl rfl rfl (dtrue (by omega)) ?_ | refine L_leq rfl rfl rfl (dfalse (by omega)) ?_ | refine L_leq rfl rfl rfl rfl ?_)) | refine RL_skip rfl rfl rfl rfl ?_ | refine RL_skipU rfl rfl rfl ?_
          first | refine L_pick_t rfl rfl rfl ?_ | refine L_pick_f rfl rfl rfl ?_
          refine RL_then ?_
          refine W_if_false rfl ?_
          refine W_exit' ?_
          refine Ex_then_exit ?_
          refine Ex_loop_exit ?_
          refine Ex_block_hit ?_
          refine Nx_cutP (n, w) (is := [0, 1, 5]) (I' := (fun (n : Nat) (w : World) => (n ≤ 3000000000000000) ∧ (n ≤ 2048 → n = k + m + tkS ls k) ∧ (HS w0 w [])) (n) (w)) rfl rfl rfl ?_
          exact ⟨hn, fun _ => by rw [hne, show i = k by omega], hs⟩
        · refine W_seq ?_
          refine W_seq ?_
          refine W_region ?_
          refine L_move rfl rfl ?_
          refine L_move rfl rfl ?_
          refine L_len rfl Try.underlying32 rfl ?_
          first | refine L_lss rfl rfl rfl (dtrue (by omega)) ?_ | refine L_lss rfl rfl rfl (dfalse (by omega)) ?_ | refine L_lss rfl rfl rfl rfl ?_
          refine L_move rfl rfl ?_
          first | (refine RL_want rfl rfl ?_; refine L_move rfl rfl ?_) | refine RL_skip rfl rfl rfl rfl ?_ | refine RL_skipU rfl rfl rfl ?_
          first | (refine RL_want rfl rfl ?_; (first | refine L_leq rfl rfl rfl (dtrue (by omega)) ?_ | refine L_leq rfl rfl rfl (dfalse (by omega)) ?_ | refine L_leq rfl rfl rfl rfl ?_)) | refine RL_skip rfl rfl rfl rfl ?_ | refine RL_skipU rfl rfl rfl ?_
          first | refine L_pick_t rfl rfl rfl ?_ | refine L_pick_f rfl rfl rfl ?_
          refine RL_then ?_
          refine W_if_false rfl ?_
          refine W_exit' ?_
          refine Ex_then_exit ?_
          refine Ex_loop_exit ?_
          refine Ex_block_hit ?_
          refine Nx_cutP (n, w) (is := [0, 1, 5]) (I' := (fun (n : Nat) (w : World) => (n ≤ 3000000000000000) ∧ (n ≤ 2048 → n = k + m + tkS ls k) ∧ (HS w0 w [])) (n) (w)) rfl rfl rfl ?_
          exact ⟨hn, fun h => by omega, hs⟩
  · clear hs
    intro n w hI
    show W _ _ _ _ [(0, .slice a m c), (1, .slice b k d), (5, .int .i64 n)] w
    obtain ⟨hn, hne, hs⟩ := hI
    refine W_seq ?_
    refine W_seq ?_
    refine W_region ?_
    refine L_assign rfl rfl ?_
    refine RL_then ?_
    refine W_cut2 (fun (n2 : Nat) (w : World) => [(5, .int .i64 n2)]) (fun (n2 : Nat) (w : World) => w) (fun (n2 : Nat) (w : World) => (n2 ≤ 6000000000000000) ∧ (n2 ≤ 2048 → n2 = k + m + tkS ls k + crS zs m) ∧ (HS w0 w [])) ?_ ?_
    · refine W_block ?_
      refine W_loop3 (fun (i : Nat) (n2 : Nat) (w : World) => [(0, .slice a m c), (1, .slice b k d), (5, .int .i64 n2), (7, .int .i64 i)]) (fun (i : Nat) (n2 : Nat) (w : World) => w) (fun (i : Nat) (n2 : Nat) (w : World) => (i ≤ m) ∧ (n2 ≤ 6000000000000000) ∧ (n2 = n + crS zs i) ∧ (HS w0 w [])) (fun (i : Nat) (n2 : Nat) (w : World) => m - i) (0) (n) (w) (is := [0, 1, 5, 7]) rfl rfl ?_ ?_
      · exact ⟨Nat.zero_le _, by omega, by simp [crS], hs⟩
      · clear hs
        intro i n2 w hI
        show W _ _ _ _ [(0, .slice a m c), (1, .slice b k d), (5, .int .i64 n2), (7, .int .i64 i)] w
        obtain ⟨hi, hn2, hne2, hs⟩ := hI
        by_cases hlt : i < m ∧ n2 ≤ 2048
        · obtain ⟨hlt, hn6⟩ := hlt
          have h2 := hz2 i (by omega)
          refine W_seq ?_
          refine W_seq ?_
          refine W_region ?_
          refine L_move rfl rfl ?_
          refine L_move rfl rfl ?_
          refine L_len rfl Try.underlying31 rfl ?_
          first | refine L_lss rfl rfl rfl (dtrue (by omega)) ?_ | refine L_lss rfl rfl rfl (dfalse (by omega)) ?_ | refine L_lss rfl rfl rfl rfl ?_
          refine L_move rfl rfl ?_
          first | (refine RL_want rfl rfl ?_; refine L_move rfl rfl ?_) | refine RL_skip rfl rfl rfl rfl ?_ | refine RL_skipU rfl rfl rfl ?_
          first | (refine RL_want rfl rfl ?_; (first | refine L_leq rfl rfl rfl (dtrue (by omega)) ?_ | refine L_leq rfl rfl rfl (dfalse (by omega)) ?_ | refine L_leq rfl rfl rfl rfl ?_)) | refine RL_skip rfl rfl rfl rfl ?_ | refine RL_skipU rfl rfl rfl ?_
          first | refine L_pick_t rfl rfl rfl ?_ | refine L_pick_f rfl rfl rfl ?_
          refine RL_then ?_
          refine W_if_true rfl ?_
          refine W_skip' ?_
          refine Nx_then ?_
          refine W_seq ?_
          refine W_block ?_
          refine W_region ?_
          refine L_move rfl rfl ?_
          refine L_move rfl rfl ?_
          refine L_move rfl rfl ?_
          refine L_idxN rfl Try.underlying31 Try.ti40 rfl rfl (by with_reducible first | exact natc_k _ | exact natc_a1 _ | exact natc_0 | exact natc_1 | exact natc_2 | exact natc_s1 _ (by omega) | exact natc_a2 _ | exact natc_add _ _ | exact natc_mul _ _ | exact natc (by omega)) (by omega) (hz.ao (by rw [azs_len]; omega)) ?_
          refine L_fieldAddr rfl (off := 1) Try.underlying40 rfl rfl Try.ti22 rfl ?_
          refine L_load rfl Try.one22 rfl (by exact azs_at (hz.old hs Own.nil) (show i < zs.length by omega) 1 _ rfl) ?_
          refine L_len rfl Try.underlying22 rfl ?_
          refine L_quo (c := (((zs.getD i az0).ps.length / 4 : Nat) : Int)) rfl rfl rfl (by decide) (show IntKind.i64.wrap (((zs.getD i az0).ps.length / 4 : Nat) : Int) = _ from wrp_i64 (by omega)) ?_
          first | refine L_add rfl rfl rfl (wrp_i64 (by omega)) ?_ | refine L_add rfl rfl rfl rfl ?_
          refine L_assign rfl rfl ?_
          refine RL_nil' ?_
          refine Nx_block ?_
          refine Nx_then ?_
          refine W_region ?_
          refine L_move rfl rfl ?_
          first | refine L_add rfl rfl rfl (wrp_i64 (by omega)) ?_ | refine L_add rfl rfl rfl rfl ?_
          refine L_assign rfl rfl ?_
          refine RL_nil' ?_
          refine Nx_loopP (i + 1, n2 + (zs.getD i az0).ps.length / 4, w) (is := [0, 1, 5, 7]) (I' := (fun (i : Nat) (n2 : Nat) (w : World) => (i ≤ m) ∧ (n2 ≤ 6000000000000000) ∧ (n2 = n + crS zs i) ∧ (HS w0 w [])) (i + 1) (n2 + (zs.getD i az0).ps.length / 4) (w)) rfl rfl rfl ?_ ?_
          · exact ⟨by omega, by omega, by rw [crS_succ (by omega)]; omega, hs⟩
          · omega
        · rcases (show m ≤ i ∨ (i < m ∧ 2048 < n2) by omega) with h5 | h5
          · refine W_seq ?_
            refine W_seq ?_
            refine W_region ?_
            refine L_move rfl rfl ?_
            refine L_move rfl rfl ?_
            refine L_len rfl Try.underlying31 rfl ?_
            first | refine L_lss rfl rfl rfl (dtrue (by omega)) ?_ | refine L_lss rfl rfl rfl (dfalse (by omega)) ?_ | refine L_lss rfl rfl rfl rfl ?_
            refine L_move rfl rfl ?_
            first | (refine RL_want rfl rfl ?_; refine L_move rfl rfl ?_) | refine RL_skip rfl rfl rfl rfl ?_ | refine RL_skipU rfl rfl rfl ?_
            first | (refine RL_want rfl rfl ?_; (first | refine L_leq rfl rfl rfl (dtrue (by omega)) ?_ | refine L_leq rfl rfl rfl (dfalse (by omega)) ?_ | refine L_leq rfl rfl rfl rfl ?_)) | refine RL_skip rfl rfl rfl rfl ?_ | refine RL_skipU rfl rfl rfl ?_
            first | refine L_pick_t rfl rfl rfl ?_ | refine L_pick_f rfl rfl rfl ?_
            refine RL_then ?_
            refine W_if_false rfl ?_
            refine W_exit' ?_
            refine Ex_then_exit ?_
            refine Ex_loop_exit ?_
            refine Ex_block_hit ?_
            refine Nx_cutP (n2, w) (is := [5]) (I' := (fun (n2 : Nat) (w : World) => (n2 ≤ 6000000000000000) ∧ (n2 ≤ 2048 → n2 = k + m + tkS ls k + crS zs m) ∧ (HS w0 w [])) (n2) (w)) rfl rfl rfl ?_
            exact ⟨hn2, fun h => by have := hne (by omega); rw [hne2, this, show i = m by omega], hs⟩
          · refine W_seq ?_
            refine W_seq ?_
            refine W_region ?_
            refine L_move rfl rfl ?_
            refine L_move rfl rfl ?_
            refine L_len rfl Try.underlying31 rfl ?_
            first | refine L_lss rfl rfl rfl (dtrue (by omega)) ?_ | refine L_lss rfl rfl rfl (dfalse (by omega)) ?_ | refine L_lss rfl rfl rfl rfl ?_
            refine L_move rfl rfl ?_
            first | (refine RL_want rfl rfl ?_; refine L_move rfl rfl ?_) | refine RL_skip rfl rfl rfl rfl ?_ | refine RL_skipU rfl rfl rfl ?_
            first | (refine RL_want rfl rfl ?_; (first | refine L_leq rfl rfl rfl (dtrue (by omega)) ?_ | refine L_leq rfl rfl rfl (dfalse (by omega)) ?_ | refine L_leq rfl rfl rfl rfl ?_)) | refine RL_skip rfl rfl rfl rfl ?_ | refine RL_skipU rfl rfl rfl ?_
            first | refine L_pick_t rfl rfl rfl ?_ | refine L_pick_f rfl rfl rfl ?_
            refine RL_then ?_
            refine W_if_false rfl ?_
            refine W_exit' ?_
            refine Ex_then_exit ?_
            refine Ex_loop_exit ?_
            refine Ex_block_hit ?_
            refine Nx_cutP (n2, w) (is := [5]) (I' := (fun (n2 : Nat) (w : World) => (n2 ≤ 6000000000000000) ∧ (n2 ≤ 2048 → n2 = k + m + tkS ls k + crS zs m) ∧ (HS w0 w [])) (n2) (w)) rfl rfl rfl ?_
            exact ⟨hn2, fun h => by omega, hs⟩
    · clear hs
      intro n2 w hI
      show W _ _ _ _ [(5, .int .i64 n2)] w
      obtain ⟨hn2, hne2, hs⟩ := hI
      refine W_seq ?_
      refine W_region ?_
      refine L_move rfl rfl ?_
      first | refine L_gtr rfl rfl rfl (dtrue (by omega)) ?_ | refine L_gtr rfl rfl rfl (dfalse (by omega)) ?_ | refine L_gtr rfl rfl rfl rfl ?_
      refine L_assign rfl rfl ?_
      refine RL_then ?_
      refine W_ret' ?_
      refine Ex_done1 rfl rfl ?_
      exact ⟨_, rfl, _, rfl, hs, fun h => by have := of_decide_eq_false h; have := hne2 (by omega); omega⟩
end Go.Proofs.Ytoiobncojfeoiaa
