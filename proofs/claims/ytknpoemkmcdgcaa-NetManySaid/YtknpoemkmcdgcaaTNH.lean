/-
 A part of the proof: laws for walks, and plain laws, over any program of the model. Each theorem holds under its own premises alone.
-/
import Derived.Test.YtknpoemkmcdgcaaTNG4
import Derived.Test.YtknpoemkmcdgcaaKitP
import Derived.Test.YtknpoemkmcdgcaaKitY
import Derived.Test.YtknpoemkmcdgcaaTNE
namespace Go.Proofs.Ytknpoemkmcdgcaa
open Go Go.Lk Go.Pr
/-- a table as a square with room for each row to stay alone -/
def msC (rows : List (List Int)) (n r j : Nat) : Int := if r < rows.length then (if j = n + r then 562949953421312 else if n ≤ j ∨ el rows r j < 0 then 4503599627370496 else el rows r j) else 0
theorem msC_rng {rows : List (List Int)} {n r j : Nat} (hc : ∀ r j, r < rows.length → j < n → el rows r j ≤ 1099511627776) : 0 ≤ msC rows n r j ∧ msC rows n r j ≤ 4503599627370496 := by
 unfold msC
 by_cases h5 : r < rows.length
 ·
  rw [if_pos h5]
  split
  ·
   exact ⟨by decide, by decide⟩
  ·
   split
   ·
    exact ⟨by decide, by decide⟩
   ·
    have := hc r j h5 (by omega)
    omega
 ·
  rw [if_neg h5]; exact ⟨by decide, by decide⟩
/-- No row is paired with what may not be. -/
theorem most_real {rows : List (List Int)} {n : Nat} (hc : ∀ r j, r < rows.length → j < n → el rows r j ≤ 1099511627776) {m : Nat} {f : Nat → Nat} (h : Best (n + rows.length) m (msC rows n) f) {i : Nat} (hi : i < rows.length) : (f i < n → 0 ≤ el rows i (f i)) ∧ (n ≤ f i → f i = n + i) := by
 have key : msC rows n i (f i) ≠ 4503599627370496 := fun he => by
  obtain ⟨r1, hr1, hfr⟩ := surj h.bij.lt h.bij.inj (show n + i < n + rows.length by omega)
  have hne : i ≠ r1 := fun hh => by
   rw [← hh] at hfr
   rw [hfr] at he
   unfold msC at he
   rw [if_pos hi, if_pos rfl] at he
   omega
  have h1 := (h.swp (show i < n + rows.length by omega) hr1 hne).1
  rw [hfr, he] at h1
  have h2 : msC rows n i (n + i) = 562949953421312 := by unfold msC; rw [if_pos hi, if_pos rfl]
  have h3 := (msC_rng (rows := rows) (r := r1) (j := f i) hc).2
  by_cases h4 : r1 < rows.length
  ·
   have h5 : msC rows n r1 (n + i) = 4503599627370496 := by unfold msC; rw [if_pos h4, if_neg (by omega), if_pos (.inl (by omega))]
   omega
  ·
   have h5 : msC rows n r1 (n + i) = 0 := by unfold msC; rw [if_neg h4]
   have h6 : msC rows n r1 (f i) = 0 := by unfold msC; rw [if_neg h4]
   omega
 unfold msC at key
 rw [if_pos hi] at key
 refine ⟨fun hlt => ?_, fun hle => ?_⟩
 ·
  rw [if_neg (by omega)] at key
  by_cases h7 : n ≤ f i ∨ el rows i (f i) < 0
  ·
   rw [if_pos h7] at key; exact absurd rfl key
  ·
   omega
 ·
  by_cases h7 : f i = n + i
  ·
   exact h7
  ·
   rw [if_neg h7, if_pos (.inl hle)] at key; exact absurd rfl key
def MostAns (rows : List (List Int)) (ms : List Int) (cnt t e : Int) : Prop :=
 ((chk rows ≠ 0 ∨ rows.length = 0) ∧ ms = [] ∧ cnt = 0 ∧ t = 0 ∧ e = chk rows) ∨
 (chk rows = 0 ∧ rows.length ≠ 0 ∧ ∃ f, Best (wid rows 0 + rows.length) rows.length (msC rows (wid rows 0)) f ∧
  ms = (List.range rows.length).map (fun i => if f i < wid rows 0 then (f i : Int) else -1) ∧ cnt = tot rows.length (fun i => if f i < wid rows 0 then 1 else 0) ∧ t = tot rows.length (fun i => if f i < wid rows 0 then el rows i (f i) else 0) ∧ e = 0)
theorem most_ok (a : Option Addr) (k cp : Nat) (rows : List (List Int)) (rvs : List Value) (w0 : World) (hr : RowsI w0 a rows rvs) (hk : rows.length = k) (hk63 : k ≤ 17592186043904) :
  Ret Try.prog 43 [.slice a k cp] w0 fun v w' => ∃ v1 N ms cnt t e, v = .tuple #[v1, .int .i64 cnt, .int .i64 t, .int .i64 e] ∧ HS w0 w' N ∧ Bl w0 3 1 v1 ms.length (il ms) N ∧ MostAns rows ms cnt t e := by
 refine Ret.start fun w hs => ?_
 have hrl := hr.len
 refine calls_of_W Try.func43 rfl rfl rfl (W_seq (W_region (L_assign rfl rfl (L_assign rfl rfl (L_assign rfl rfl (L_assign rfl rfl (RL_then (W_seq (W_seq (W_region (L_move rfl rfl (L_call rfl Try.fun62 rfl (checked_ok a k cp rows rvs w (hr.old hs Own.nil) hk hk63) ?_))))))))))))
 rintro _ w1 ⟨rfl, hs'⟩
 replace hs := hs.nil hs'
 clear hs'
 by_cases he0 : chk rows ≠ 0
 ·
  refine L_assign rfl rfl (RL_then (W_seq (W_region (L_move rfl rfl (L_neq rfl rfl rfl (dtrue (by omega)) ?_)))))
  refine L_move rfl rfl (RL_skip rfl rfl rfl rfl (RL_skip rfl rfl rfl rfl (RL_skip rfl rfl rfl rfl (L_pick_t rfl rfl rfl (RL_then (W_if_true rfl (W_seq (W_region (L_move rfl rfl (L_assign rfl rfl (L_assign rfl rfl (L_assign rfl rfl ?_))))))))))))
  refine L_assign rfl rfl (RL_then (W_ret' (Ex_then_ret (Ex_done4 rfl rfl rfl rfl rfl ?_))))
  exact ⟨_, rfl, _, [], [], _, _, _, rfl, hs, Bl.nil, .inl ⟨.inl he0, rfl, rfl, rfl, rfl⟩⟩
 ·
  rw [Classical.not_not] at he0
  rw [he0]
  by_cases hk0 : k = 0
  ·
   refine L_assign rfl rfl (RL_then (W_seq (W_region (L_move rfl rfl (L_neq rfl rfl rfl (dfalse (by omega)) ?_)))))
   refine L_move rfl rfl (RL_want rfl rfl (L_move rfl rfl (RL_want rfl rfl (L_len rfl Try.underlying89 rfl (RL_want rfl rfl (L_eql rfl rfl rfl (dtrue (by omega)) ?_))))))
   refine L_pick_f rfl rfl rfl (RL_then (W_if_true rfl (W_seq (W_region (L_move rfl rfl (L_assign rfl rfl (L_assign rfl rfl (L_assign rfl rfl (L_assign rfl rfl (RL_then (W_ret' (Ex_then_ret ?_))))))))))))
   refine Ex_done4 rfl rfl rfl rfl rfl ?_
   exact ⟨_, rfl, _, [], [], _, _, _, rfl, hs, Bl.nil, .inl ⟨.inr (by omega), rfl, rfl, rfl, he0.symm⟩⟩
  ·
   have hF := fine_of_chk he0
   obtain ⟨a0, c0, k1, k2, k3, k4⟩ := hr.row 0 (by omega)
   obtain ⟨m, hm⟩ : ∃ m, m = (rows.getD 0 []).length := ⟨_, rfl⟩
   have hm256 : m ≤ 256 := by rw [hm]; exact hF.wid 0 (by omega)
   have hk256 := hF.len
   rw [← hm] at k1 k2 k3
   obtain ⟨n, hn⟩ : ∃ n, n = m + k := ⟨_, rfl⟩
   have hcel : ∀ r j, r < rows.length → j < m → el rows r j ≤ 1099511627776 := fun r j hr hj => hF.cost r j hr (by rw [hF.same r hr]; show j < (rows.getD 0 []).length; omega)
   refine L_assign rfl rfl (RL_then (W_seq (W_region (L_move rfl rfl (L_neq rfl rfl rfl (dfalse (by omega)) ?_)))))
   refine L_move rfl rfl (RL_want rfl rfl (L_move rfl rfl (RL_want rfl rfl (L_len rfl Try.underlying89 rfl (RL_want rfl rfl (L_eql rfl rfl rfl (dfalse (by omega)) ?_))))))
   refine L_pick_f rfl rfl rfl (RL_then (W_if_false rfl (W_skip' (Nx_then (W_seq (W_region (L_move rfl rfl (L_idx1 rfl Try.underlying89 Try.ti93 rfl rfl natc_0 (by omega) (hr.sl.ao (by omega)) ?_))))))))
   skip
   refine L_load rfl Try.one93 rfl ((hr.sl.old hs Own.nil).get k1) (L_len rfl Try.underlying93 rfl (L_assign rfl rfl (RL_then (W_seq (W_region (L_move rfl rfl (L_move rfl rfl (L_len rfl Try.underlying89 rfl (L_add rfl rfl rfl (wrp_i64 (by omega)) ?_)))))))))
   rw [show ((m : Int) + (k : Int)) = ((n : Nat) : Int) by omega]
   refine L_call rfl Try.fun63 rfl (played_ok n w1 (by omega) (by omega)) ?_
   rintro _ w2 ⟨B, c, u, vv, o, h, rfl, hs2, hO⟩
   have hsz := hs.size
   have hO0 : ∀ {C U V of has : List Int}, Own w0 (GameL B c u vv o h n C U V of has) := fun {C U V of has} => (hO (C := C) (U := U) (V := V) (of := of) (has := has)).le hsz
   replace hs := hs.call hs2 hO
   rw [List.nil_append] at hs
   clear hs2 hO hsz
   refine L_assign rfl rfl (RL_then (W_seq (W_seq (W_region (L_move rfl rfl (L_len rfl Try.underlying89 rfl (L_move rfl rfl (RL_then (W_block ?_)))))))))
   refine W_loop3 (fun (i : Nat) (C : List Int) (w : World) => [(0, .slice a k cp), (2, .slice none 0 0), (3, .int .i64 0), (4, .int .i64 0), (6, .int .i64 m), (7, .pointer (some ⟨B, 0, none⟩)), (34, .slice a k cp), (35, .int .i64 k), (36, .int .i64 i)]) (fun (i : Nat) (C : List Int) (w : World) => w) (fun (i : Nat) (C : List Int) (w : World) => (i ≤ k) ∧ (C.length = n * n) ∧ (∀ r q, r < n → q < n → cf n C r q = if r < i then msC rows m r q else 0) ∧ (HS w0 w (GameL B c u vv o h n C (List.replicate n 0) (List.replicate n 0) (List.replicate n (-1)) (List.replicate n 0)))) (fun (i : Nat) (C : List Int) (w : World) => k - i) (0) (List.replicate (n * n) 0) (w2) (is := [0, 2, 3, 4, 6, 7, 34, 35, 36]) rfl rfl ?_ ?_
   ·
    refine ⟨Nat.zero_le _, by simp, fun r q hr hq => ?_, hs⟩
    rw [if_neg (Nat.not_lt_zero _)]
    exact grep0 _ _
   ·
    clear hs
    intro i C w hI
    show W _ _ _ _ [(0, .slice a k cp), (2, .slice none 0 0), (3, .int .i64 0), (4, .int .i64 0), (6, .int .i64 m), (7, .pointer (some ⟨B, 0, none⟩)), (34, .slice a k cp), (35, .int .i64 k), (36, .int .i64 i)] w
    obtain ⟨hi, hCl, hcf, hs⟩ := hI
    by_cases hlt : i < k
    ·
     have hin : i < n := by omega
     obtain ⟨ai, ci, g1, g2, g3, g4⟩ := hr.row i (by omega)
     have hwi : (rows.getD i []).length = m := by rw [hm]; exact hF.same i (by omega)
     rw [hwi] at g1 g2 g3
     have hBox : w.heap[B]? = some (Row 120 (GameR n c u vv o h)) := hs.has (B, _) (by simp)
     refine W_seq (W_region (L_lss rfl rfl rfl (dtrue (by omega)) ?_))
     refine RL_then (W_seq (W_if_true rfl (W_skip' (Nx_then (W_seq (W_block (W_seq (W_region (L_move rfl rfl (L_idx1 rfl Try.underlying89 Try.ti93 rfl rfl (natc_k _) (by omega) (by exact hr.sl.ao (by omega)) ?_))))))))))
     refine L_load rfl Try.one93 rfl (by exact (hr.sl.old hs hO0).get g1) ?_
     refine L_assign rfl rfl (L_assign rfl rfl (RL_then (W_seq (W_region (L_move rfl rfl (L_move rfl rfl (L_call rfl Try.fun64 rfl (row_ok B c u vv o h n i w hBox (by omega) (by omega) hin) ?_)))))))
     rintro _ w' ⟨rfl, hs'⟩
     replace hs := hs.nil hs'
     clear hs' hBox
     refine L_assign rfl rfl (RL_then (W_seq (W_region (L_move rfl rfl (L_len rfl Try.underlying93 rfl (L_move rfl rfl (RL_then (W_block ?_))))))))
     refine W_loop3 (fun (j : Nat) (C : List Int) (w : World) => [(0, .slice a k cp), (2, .slice none 0 0), (3, .int .i64 0), (4, .int .i64 0), (6, .int .i64 m), (7, .pointer (some ⟨B, 0, none⟩)), (8, .int .i64 i), (9, .slice ai m ci), (10, .slice (some ⟨c, i * n, none⟩) n n), (34, .slice a k cp), (35, .int .i64 k), (36, .int .i64 i), (45, .int .i64 n), (46, .int .i64 j)]) (fun (j : Nat) (C : List Int) (w : World) => w) (fun (j : Nat) (C : List Int) (w : World) => (j ≤ n) ∧ (C.length = n * n) ∧ (∀ r q, r < n → q < n → cf n C r q = if r < i ∨ (r = i ∧ q < j) then msC rows m r q else 0) ∧ (HS w0 w (GameL B c u vv o h n C (List.replicate n 0) (List.replicate n 0) (List.replicate n (-1)) (List.replicate n 0)))) (fun (j : Nat) (C : List Int) (w : World) => n - j) (0) (C) (w') (is := [0, 2, 3, 4, 6, 7, 8, 9, 10, 34, 35, 36, 45, 46]) rfl rfl ?_ ?_
     ·
      refine ⟨Nat.zero_le _, hCl, fun r q hr hq => ?_, hs⟩
      rw [hcf r q hr hq]
      simp only [Nat.not_lt_zero, and_false, or_false]
     ·
      clear hs hcf hCl
      intro j C w hI
      show W _ _ _ _ [(0, .slice a k cp), (2, .slice none 0 0), (3, .int .i64 0), (4, .int .i64 0), (6, .int .i64 m), (7, .pointer (some ⟨B, 0, none⟩)), (8, .int .i64 i), (9, .slice ai m ci), (10, .slice (some ⟨c, i * n, none⟩) n n), (34, .slice a k cp), (35, .int .i64 k), (36, .int .i64 i), (45, .int .i64 n), (46, .int .i64 j)] w
      obtain ⟨hj, hCl, hcf, hs⟩ := hI
      by_cases hlt2 : j < n
      ·
       have hij := idx_lt hin hlt2
       have hls : msC rows m i j = if j = m + i then 562949953421312 else if m ≤ j ∨ el rows i j < 0 then 4503599627370496 else el rows i j := by unfold msC; rw [if_pos (by omega)]
       have hnew : ∀ y, y = msC rows m i j → ∀ r q, r < n → q < n → cf n (C.set (i * n + j) y) r q = if r < i ∨ (r = i ∧ q < j + 1) then msC rows m r q else 0 := fun y hy r q hr hq => by
        rw [cf_set hCl hin hlt2 _ hq]
        by_cases h5 : r = i ∧ q = j
        ·
         rw [if_pos h5, if_pos (.inr ⟨h5.1, by omega⟩), hy, h5.1, h5.2]
        ·
         rw [if_neg h5, hcf r q hr hq]
         have : (r < i ∨ (r = i ∧ q < j)) = (r < i ∨ (r = i ∧ q < j + 1)) := by apply propext; omega
         simp only [this]
       by_cases hja : j = m + i
       ·
        refine W_seq (W_region (L_lss rfl rfl rfl (dtrue (by omega)) ?_))
        refine RL_then (W_seq (W_if_true rfl (W_skip' (Nx_then (W_seq (W_block (W_seq (W_region (L_move rfl rfl (L_assign rfl rfl (RL_then (W_block ?_))))))))))))
        refine W_seq (W_region (L_move rfl rfl (L_move rfl rfl (L_move rfl rfl (L_add rfl rfl rfl (wrp_i64 (by omega)) ?_)))))
        refine L_eql rfl rfl rfl (dtrue (by omega)) ?_
        refine L_assign rfl rfl (RL_then (W_if_true rfl (W_region (L_move rfl rfl (L_move rfl rfl (L_idx1 rfl Try.underlying93 Try.ti2 rfl rfl (natc_k _) (by omega) (by rfl) ?_))))))
        refine L_store hs (i := 0) rfl Try.ti2 rfl rfl (by exact Addr.add_lit ..) (by rw [il_length]; omega) rfl ?_
        intro w hs
        dsimp only [List.set_cons_succ, List.set_cons_zero, List.cons_append, List.nil_append] at hs
        refine RL_nil' (Nx_block (Nx_block (Nx_then (W_region (L_add rfl rfl rfl (wrp_i64 (by omega)) ?_)))))
        refine L_move rfl rfl (RL_nil' ?_)
        rw [il_set] at hs
        refine Nx_loopP (j + 1, C.set (i * n + j) 562949953421312, _) (is := [0, 2, 3, 4, 6, 7, 8, 9, 10, 34, 35, 36, 45, 46]) (I' := (fun (j : Nat) (C : List Int) (w : World) => (j ≤ n) ∧ (C.length = n * n) ∧ (∀ r q, r < n → q < n → cf n C r q = if r < i ∨ (r = i ∧ q < j) then msC rows m r q else 0) ∧ (HS w0 w (GameL B c u vv o h n C (List.replicate n 0) (List.replicate n 0) (List.replicate n (-1)) (List.replicate n 0)))) (j + 1) (C.set (i * n + j) 562949953421312) (_)) rfl rfl rfl ?_ ?_
        ·
         exact ⟨by omega, by simp [hCl], hnew _ (by rw [hls, if_pos hja]), hs⟩
        ·
         omega
       ·
        by_cases hjm : m ≤ j
        ·
         refine W_seq (W_region (L_lss rfl rfl rfl (dtrue (by omega)) ?_))
         refine RL_then (W_seq (W_if_true rfl (W_skip' (Nx_then (W_seq (W_block (W_seq (W_region (L_move rfl rfl (L_assign rfl rfl (RL_then (W_block ?_))))))))))))
         refine W_seq (W_region (L_move rfl rfl (L_move rfl rfl (L_move rfl rfl (L_add rfl rfl rfl (wrp_i64 (by omega)) ?_)))))
         refine L_eql rfl rfl rfl (dfalse (by omega)) ?_
         refine L_assign rfl rfl (RL_then (W_if_false rfl (W_seq (W_region (L_move rfl rfl (L_move rfl rfl (L_geq rfl rfl rfl (dtrue (by omega)) ?_)))))))
         refine L_move rfl rfl (RL_skip rfl rfl rfl rfl (RL_skip rfl rfl rfl rfl (RL_skip rfl rfl rfl rfl (RL_skip rfl rfl rfl rfl (RL_skip rfl rfl rfl rfl (L_pick_t rfl rfl rfl (L_assign rfl rfl (RL_then (W_if_true rfl (W_region (L_move rfl rfl (L_move rfl rfl ?_))))))))))))
         refine L_idx1 rfl Try.underlying93 Try.ti2 rfl rfl (natc_k _) (by omega) (by rfl) ?_
         refine L_store hs (i := 0) rfl Try.ti2 rfl rfl (by exact Addr.add_lit ..) (by rw [il_length]; omega) rfl ?_
         intro w hs
         dsimp only [List.set_cons_succ, List.set_cons_zero, List.cons_append, List.nil_append] at hs
         refine RL_nil' (Nx_block (Nx_block (Nx_then (W_region (L_add rfl rfl rfl (wrp_i64 (by omega)) ?_)))))
         refine L_move rfl rfl (RL_nil' ?_)
         rw [il_set] at hs
         refine Nx_loopP (j + 1, C.set (i * n + j) 4503599627370496, _) (is := [0, 2, 3, 4, 6, 7, 8, 9, 10, 34, 35, 36, 45, 46]) (I' := (fun (j : Nat) (C : List Int) (w : World) => (j ≤ n) ∧ (C.length = n * n) ∧ (∀ r q, r < n → q < n → cf n C r q = if r < i ∨ (r = i ∧ q < j) then msC rows m r q else 0) ∧ (HS w0 w (GameL B c u vv o h n C (List.replicate n 0) (List.replicate n 0) (List.replicate n (-1)) (List.replicate n 0)))) (j + 1) (C.set (i * n + j) 4503599627370496) (_)) rfl rfl rfl ?_ ?_
         ·
          exact ⟨by omega, by simp [hCl], hnew _ (by rw [hls, if_neg hja, if_pos (.inl hjm)]), hs⟩
         ·
          omega
        ·
         skip
         by_cases hneg : (rows.getD i []).getD j 0 < 0
         ·
          refine W_seq (W_region (L_lss rfl rfl rfl (dtrue (by omega)) ?_))
          refine RL_then (W_seq (W_if_true rfl (W_skip' (Nx_then (W_seq (W_block (W_seq (W_region (L_move rfl rfl (L_assign rfl rfl (RL_then (W_block ?_))))))))))))
          refine W_seq (W_region (L_move rfl rfl (L_move rfl rfl (L_move rfl rfl (L_add rfl rfl rfl (wrp_i64 (by omega)) ?_)))))
          refine L_eql rfl rfl rfl (dfalse (by omega)) ?_
          refine L_assign rfl rfl (RL_then (W_if_false rfl (W_seq (W_region (L_move rfl rfl (L_move rfl rfl (L_geq rfl rfl rfl (dfalse (by omega)) ?_)))))))
          refine L_move rfl rfl (RL_want rfl rfl (L_move rfl rfl (RL_want rfl rfl (L_move rfl rfl (RL_want rfl rfl ?_)))))
          refine L_idx1 rfl Try.underlying93 Try.ti2 rfl rfl (natc_k _) (by omega) (by exact g4.ao (by rw [il_length]; omega)) ?_
          refine RL_want rfl rfl (L_load rfl Try.one2 rfl (by exact (g4.old hs hO0).get (il_get (by omega))) ?_)
          refine RL_want rfl rfl (L_lss rfl rfl rfl (dtrue (by omega)) ?_)
          refine L_pick_f rfl rfl rfl (L_assign rfl rfl (RL_then (W_if_true rfl (W_region (L_move rfl rfl (L_move rfl rfl (L_idx1 rfl Try.underlying93 Try.ti2 rfl rfl (natc_k _) (by omega) (by rfl) ?_)))))))
          refine L_store hs (i := 0) rfl Try.ti2 rfl rfl (by exact Addr.add_lit ..) (by rw [il_length]; omega) rfl ?_
          intro w hs
          dsimp only [List.set_cons_succ, List.set_cons_zero, List.cons_append, List.nil_append] at hs
          refine RL_nil' (Nx_block (Nx_block (Nx_then (W_region (L_add rfl rfl rfl (wrp_i64 (by omega)) ?_)))))
          refine L_move rfl rfl (RL_nil' ?_)
          rw [il_set] at hs
          refine Nx_loopP (j + 1, C.set (i * n + j) 4503599627370496, _) (is := [0, 2, 3, 4, 6, 7, 8, 9, 10, 34, 35, 36, 45, 46]) (I' := (fun (j : Nat) (C : List Int) (w : World) => (j ≤ n) ∧ (C.length = n * n) ∧ (∀ r q, r < n → q < n → cf n C r q = if r < i ∨ (r = i ∧ q < j) then msC rows m r q else 0) ∧ (HS w0 w (GameL B c u vv o h n C (List.replicate n 0) (List.replicate n 0) (List.replicate n (-1)) (List.replicate n 0)))) (j + 1) (C.set (i * n + j) 4503599627370496) (_)) rfl rfl rfl ?_ ?_
          ·
           exact ⟨by omega, by simp [hCl], hnew _ (by rw [hls, if_neg hja, if_pos (.inr hneg)]), hs⟩
          ·
           omega
         ·
          refine W_seq (W_region (L_lss rfl rfl rfl (dtrue (by omega)) ?_))
          refine RL_then (W_seq (W_if_true rfl (W_skip' (Nx_then (W_seq (W_block (W_seq (W_region (L_move rfl rfl (L_assign rfl rfl (RL_then (W_block ?_))))))))))))
          refine W_seq (W_region (L_move rfl rfl (L_move rfl rfl (L_move rfl rfl (L_add rfl rfl rfl (wrp_i64 (by omega)) ?_)))))
          refine L_eql rfl rfl rfl (dfalse (by omega)) ?_
          refine L_assign rfl rfl (RL_then (W_if_false rfl (W_seq (W_region (L_move rfl rfl (L_move rfl rfl (L_geq rfl rfl rfl (dfalse (by omega)) ?_)))))))
          refine L_move rfl rfl (RL_want rfl rfl (L_move rfl rfl (RL_want rfl rfl (L_move rfl rfl (RL_want rfl rfl ?_)))))
          refine L_idx1 rfl Try.underlying93 Try.ti2 rfl rfl (natc_k _) (by omega) (by exact g4.ao (by rw [il_length]; omega)) ?_
          refine RL_want rfl rfl (L_load rfl Try.one2 rfl (by exact (g4.old hs hO0).get (il_get (by omega))) ?_)
          refine RL_want rfl rfl (L_lss rfl rfl rfl (dfalse (by omega)) ?_)
          refine L_pick_f rfl rfl rfl (L_assign rfl rfl (RL_then (W_if_false rfl (W_region (L_move rfl rfl (L_move rfl rfl (L_move rfl rfl (L_move rfl rfl ?_))))))))
          refine L_idx1 rfl Try.underlying93 Try.ti2 rfl rfl (natc_k _) (by omega) (by exact g4.ao (by rw [il_length]; omega)) ?_
          refine L_load rfl Try.one2 rfl (by exact (g4.old hs hO0).get (il_get (by omega))) ?_
          refine L_idx1 rfl Try.underlying93 Try.ti2 rfl rfl (natc_k _) (by omega) (by rfl) ?_
          refine L_store hs (i := 0) rfl Try.ti2 rfl rfl (by exact Addr.add_lit ..) (by rw [il_length]; omega) rfl ?_
          intro w hs
          dsimp only [List.set_cons_succ, List.set_cons_zero, List.cons_append, List.nil_append] at hs
          refine RL_nil' (Nx_block (Nx_block (Nx_then (W_region (L_add rfl rfl rfl (wrp_i64 (by omega)) ?_)))))
          refine L_move rfl rfl (RL_nil' ?_)
          rw [il_set] at hs
          refine Nx_loopP (j + 1, C.set (i * n + j) ((rows.getD i []).getD j 0), _) (is := [0, 2, 3, 4, 6, 7, 8, 9, 10, 34, 35, 36, 45, 46]) (I' := (fun (j : Nat) (C : List Int) (w : World) => (j ≤ n) ∧ (C.length = n * n) ∧ (∀ r q, r < n → q < n → cf n C r q = if r < i ∨ (r = i ∧ q < j) then msC rows m r q else 0) ∧ (HS w0 w (GameL B c u vv o h n C (List.replicate n 0) (List.replicate n 0) (List.replicate n (-1)) (List.replicate n 0)))) (j + 1) (C.set (i * n + j) ((rows.getD i []).getD j 0)) (_)) rfl rfl rfl ?_ ?_
          ·
           exact ⟨by omega, by simp [hCl], hnew _ (by rw [hls, if_neg hja, if_neg (fun h => by rcases h with h | h; omega; exact hneg h)]), hs⟩
          ·
           omega
      ·
       have hjn : j = n := by omega
       rw [hjn] at hcf
       refine W_seq (W_region (L_lss rfl rfl rfl (dfalse (by omega)) ?_))
       refine RL_then (W_seq (W_if_false rfl (W_exit' (Ex_then_exit (Ex_loop_exit (Ex_block_hit (Nx_block (Nx_then (W_region (L_add rfl rfl rfl (wrp_i64 (by omega)) ?_))))))))))
       refine L_move rfl rfl (RL_nil' ?_)
       refine Nx_loopP (i + 1, C, _) (is := [0, 2, 3, 4, 6, 7, 34, 35, 36]) (I' := (fun (i : Nat) (C : List Int) (w : World) => (i ≤ k) ∧ (C.length = n * n) ∧ (∀ r q, r < n → q < n → cf n C r q = if r < i then msC rows m r q else 0) ∧ (HS w0 w (GameL B c u vv o h n C (List.replicate n 0) (List.replicate n 0) (List.replicate n (-1)) (List.replicate n 0)))) (i + 1) (C) (_)) rfl rfl rfl ?_ ?_
       ·
        refine ⟨by omega, hCl, fun r q hr hq => ?_, hs⟩
        rw [hcf r q hr hq]
        have : (r < i ∨ (r = i ∧ q < n)) = (r < i + 1) := by apply propext; omega
        simp only [this]
       ·
        omega
    ·
     have hki : i = k := by omega
     rw [hki] at hcf
     have hcf' : ∀ r q, r < n → q < n → cf n C r q = msC rows m r q := fun r q hr hq => by
      rw [hcf r q hr hq]
      by_cases h5 : r < k
      ·
       rw [if_pos h5]
      ·
       unfold msC; rw [if_neg h5, if_neg (by omega)]
     have hC : CostOk n C := ⟨hCl, fun r q hr hq => by
      rw [hcf' r q hr hq]
      exact msC_rng hcel⟩
     clear hcf
     refine W_seq (W_region (L_lss rfl rfl rfl (dfalse (by omega)) ?_))
     refine RL_then (W_seq (W_if_false rfl (W_exit' (Ex_then_exit (Ex_loop_exit (Ex_block_hit (Nx_then (W_seq (W_region (L_move rfl rfl (L_call rfl Try.fun65 rfl (play_ok B c u vv o h n C w hC (by omega) (by omega) (HS.named (fun p hp => hs.has p hp) hs.nodup)) ?_)))))))))))
     rintro _ w3 ⟨U, V, of, has, hs3, hUl, hVl, hofl, hhasl, hSq, hhas0, hbU, hbV⟩
     replace hs := hs.callU (A := GameL B c u vv o h n C (List.replicate n 0) (List.replicate n 0) (List.replicate n (-1)) (List.replicate n 0)) (U := GameL B c u vv o h n C U V of has) (L2 := []) (N := []) rfl (by simpa using hs3) Own.nil
     rw [List.append_nil, List.append_nil] at hs
     obtain ⟨hPf, hhr⟩ := hSq.pf hhas0
     have hof : InR n of := ⟨hofl, hSq.all⟩
     have hhas : InR n has := ⟨hhasl, hhr⟩
     clear hs3 hSq hhas0 hhr
     refine RL_then (W_seq (W_region (L_move rfl rfl (L_move rfl rfl (L_len rfl Try.underlying89 rfl ?_)))))
     refine L_call rfl Try.fun66 rfl (first_ok B c u vv o h n C U V of has k w3 hC (by omega) (by omega) (by omega) hUl hVl hof hhas hbU hbV hPf (HS.named (fun p hp => hs.has p hp) hs.nodup)) ?_
     rintro _ w4 ⟨of', has', hs4, hof', hhas', hPf', hLM⟩
     replace hs := hs.callU (A := GameL B c u vv o h n C U V of has) (U := GameL B c u vv o h n C U V of' has') (L2 := []) (N := []) rfl (by simpa using hs4) Own.nil
     rw [List.append_nil, List.append_nil] at hs
     have hBest : Best n k (msC rows m) (toN has') := Best.congr (hPf'.best hLM) hcf'
     have hreal : ∀ q, q < k → (toN has' q < m → 0 ≤ el rows q (toN has' q)) ∧ (m ≤ toN has' q → toN has' q = m + q) := fun q hq => most_real (rows := rows) (n := m) hcel (m := k) (by rw [hk, ← hn]; exact hBest) (by omega)
     have hhl := hhas'.len
     clear hs4 hPf' hLM hPf hof hhas hof'
     refine RL_then (W_seq (W_seq (W_region (L_move rfl rfl (L_len rfl Try.underlying89 rfl (L_move rfl rfl (RL_then (W_block ?_))))))))
     refine W_loop7 (fun (i : Nat) (v1 : Value) (ms : List Int) (N : List (Nat × Obj)) (cnt : Int) (t : Int) (w : World) => [(0, .slice a k cp), (2, v1), (3, .int .i64 cnt), (4, .int .i64 t), (6, .int .i64 m), (7, .pointer (some ⟨B, 0, none⟩)), (87, .slice a k cp), (88, .int .i64 k), (89, .int .i64 i)]) (fun (i : Nat) (v1 : Value) (ms : List Int) (N : List (Nat × Obj)) (cnt : Int) (t : Int) (w : World) => w) (fun (i : Nat) (v1 : Value) (ms : List Int) (N : List (Nat × Obj)) (cnt : Int) (t : Int) (w : World) => (i ≤ k) ∧ (ms = (List.range i).map (fun q => if toN has' q < m then (toN has' q : Int) else -1)) ∧ (cnt = tot i (fun q => if toN has' q < m then 1 else 0)) ∧ (t = tot i (fun q => if toN has' q < m then el rows q (toN has' q) else 0)) ∧ (0 ≤ t ∧ t ≤ i * 1099511627776) ∧ (0 ≤ cnt ∧ cnt ≤ i) ∧ (Bl w0 3 1 v1 i (il ms) N) ∧ (HS w0 w (GameL B c u vv o h n C U V of' has' ++ N))) (fun (i : Nat) (v1 : Value) (ms : List Int) (N : List (Nat × Obj)) (cnt : Int) (t : Int) (w : World) => k - i) (0) (.slice none 0 0) ([]) ([]) (0) (0) (w4) (is := [0, 2, 3, 4, 6, 7, 87, 88, 89]) rfl rfl ?_ ?_
     ·
      exact ⟨Nat.zero_le _, rfl, rfl, rfl, ⟨by omega, by omega⟩, ⟨by omega, by omega⟩, Bl.nil, by simpa using hs⟩
     ·
      clear hs hki
      intro i v1 ms N cnt t w hI
      show W _ _ _ _ [(0, .slice a k cp), (2, v1), (3, .int .i64 cnt), (4, .int .i64 t), (6, .int .i64 m), (7, .pointer (some ⟨B, 0, none⟩)), (87, .slice a k cp), (88, .int .i64 k), (89, .int .i64 i)] w
      obtain ⟨hi, hms, hcnt, ht, htb, hcb, hbl, hs⟩ := hI
      by_cases hlt : i < k
      ·
       have hin : i < n := by omega
       obtain ⟨ai, ci, g1, g2, g3, g4⟩ := hr.row i (by omega)
       have hwi : (rows.getD i []).length = m := by rw [hm]; exact hF.same i (by omega)
       rw [hwi] at g1 g2 g3
       obtain ⟨hje, hjn⟩ := hhas'.nat hin
       have hreali := hreal i hlt
       obtain ⟨j, hj⟩ : ∃ j, j = toN has' i := ⟨_, rfl⟩
       rw [← hj] at hje hjn hreali
       refine W_seq (W_region (L_lss rfl rfl rfl (dtrue (by omega)) ?_))
       refine RL_then (W_seq (W_if_true rfl (W_skip' (Nx_then (W_seq (W_block (W_seq (W_region (L_move rfl rfl (L_idx1 rfl Try.underlying89 Try.ti93 rfl rfl (natc_k _) (by omega) (by exact hr.sl.ao (by omega)) ?_))))))))))
       refine L_load rfl Try.one93 rfl (by exact (hr.sl.old hs (hO0.app hbl.own)).get g1) ?_
       refine L_assign rfl rfl (L_assign rfl rfl (RL_then (W_seq (W_region (L_move rfl rfl (L_nilCheck rfl rfl (L_fieldAddr rfl (off := 5) Try.underlying120 rfl rfl Try.ti60 rfl (L_load rfl Try.one60 rfl (by exact hs.cellA (i := 5) rfl rfl) ?_))))))))
       refine L_move rfl rfl (L_idx1 rfl Try.underlying60 Try.ti3 rfl rfl (natc_k _) (by omega) (by rfl) ?_)
       refine L_load rfl Try.one3 rfl (by exact hs.cellA (i := 4) rfl (il_get (by omega))) ?_
       refine L_assign rfl rfl (RL_then (W_seq (W_seq (W_region ?_))))
       rw [hje]
       by_cases hjm : m ≤ j
       ·
        refine L_move rfl rfl (L_move rfl rfl (L_geq rfl rfl rfl (dtrue (by omega)) ?_))
        refine RL_then (W_if_true rfl (W_seq (W_region (L_move rfl rfl (L_buildSlice rfl hs Try.underlying60 Try.ti3 rfl (by decide) rfl (by simp [Value.cells]) ?_)))))
        intro b105 w hb105 hnb105 hs
        simp only [List.flatMap_cons, List.flatMap_nil, cells_int, cells_float, cells_complex, cells_bool, cells_string, cells_pointer, cells_slice, cells_map, cells_agg, List.append_nil, List.set_cons_succ, List.set_cons_zero, List.cons_append, List.nil_append] at hs
        refine L_appendT rfl Try.underlying60 Try.ti3 rfl (L := GameL B c u vv o h n C U V of' has') hs (by assumption) hbl rfl rfl rfl (by simp [Value.oneCell'] ) (by omega) (by omega) ?_
        intro v106 w M106 hs hbl
        refine L_assign rfl rfl (RL_then (W_exit' (Ex_then_exit (Ex_block_hit (Nx_then (W_region (L_add rfl rfl rfl (wrp_i64 (by omega)) ?_)))))))
        refine L_move rfl rfl (RL_nil' ?_)
        rw [show il ms ++ [Value.int IntKind.i64 (-1)] = il (ms ++ [-1]) from il_snoc ms (-1)] at hbl
        refine Nx_loopP (i + 1, v106, ms ++ [-1], M106, cnt, t, _) (is := [0, 2, 3, 4, 6, 7, 87, 88, 89]) (I' := (fun (i : Nat) (v1 : Value) (ms : List Int) (N : List (Nat × Obj)) (cnt : Int) (t : Int) (w : World) => (i ≤ k) ∧ (ms = (List.range i).map (fun q => if toN has' q < m then (toN has' q : Int) else -1)) ∧ (cnt = tot i (fun q => if toN has' q < m then 1 else 0)) ∧ (t = tot i (fun q => if toN has' q < m then el rows q (toN has' q) else 0)) ∧ (0 ≤ t ∧ t ≤ i * 1099511627776) ∧ (0 ≤ cnt ∧ cnt ≤ i) ∧ (Bl w0 3 1 v1 i (il ms) N) ∧ (HS w0 w (GameL B c u vv o h n C U V of' has' ++ N))) (i + 1) (v106) (ms ++ [-1]) (M106) (cnt) (t) (_)) rfl rfl rfl ?_ ?_
        ·
         refine ⟨by omega, by rw [List.range_succ, List.map_append, ← hms, List.map_cons, List.map_nil, ← hj, if_neg (by omega)], ?_, ?_, ⟨by omega, by omega⟩, ⟨by omega, by omega⟩, hbl, hs⟩
         ·
          rw [hcnt]; simp only [tot]; rw [← hj, if_neg (by omega)]; omega
         ·
          rw [ht]; simp only [tot]; rw [← hj, if_neg (by omega)]; omega
        ·
         omega
       ·
        have hel : (rows.getD i []).getD j 0 ≤ 1099511627776 := hcel i j (by omega) (by omega)
        have hel0 : 0 ≤ (rows.getD i []).getD j 0 := hreali.1 (by omega)
        refine L_move rfl rfl (L_move rfl rfl (L_geq rfl rfl rfl (dfalse (by omega)) ?_))
        refine RL_then (W_if_false rfl (W_skip' (Nx_then (W_seq (W_region (L_move rfl rfl (L_move rfl rfl (L_buildSlice rfl hs Try.underlying60 Try.ti3 rfl (by decide) rfl (by simp [Value.cells]) ?_))))))))
        intro b109 w hb109 hnb109 hs
        simp only [List.flatMap_cons, List.flatMap_nil, cells_int, cells_float, cells_complex, cells_bool, cells_string, cells_pointer, cells_slice, cells_map, cells_agg, List.append_nil, List.set_cons_succ, List.set_cons_zero, List.cons_append, List.nil_append] at hs
        refine L_appendT rfl Try.underlying60 Try.ti3 rfl (L := GameL B c u vv o h n C U V of' has') hs (by assumption) hbl rfl rfl rfl (by simp [Value.oneCell'] ) (by omega) (by omega) ?_
        intro v110 w M110 hs hbl
        refine L_assign rfl rfl (RL_then (W_seq (W_region (L_move rfl rfl (L_add rfl rfl rfl (wrp_i64 (by omega)) ?_)))))
        refine L_assign rfl rfl (RL_then (W_region (L_move rfl rfl (L_move rfl rfl (L_move rfl rfl ?_)))))
        refine L_idx1 rfl Try.underlying93 Try.ti2 rfl rfl (natc_k _) (by omega) (by exact g4.ao (by rw [il_length]; omega)) ?_
        refine L_load rfl Try.one2 rfl (by exact (g4.old hs (hO0.app hbl.own)).get (il_get (by omega))) ?_
        refine L_add rfl rfl rfl (wrp_i64 (by omega)) ?_
        refine L_assign rfl rfl (RL_nil' (Nx_block (Nx_then (W_region (L_add rfl rfl rfl (wrp_i64 (by omega)) ?_)))))
        refine L_move rfl rfl (RL_nil' ?_)
        rw [il_snoc] at hbl
        refine Nx_loopP (i + 1, v110, ms ++ [(j : Int)], M110, cnt + 1, t + (rows.getD i []).getD j 0, _) (is := [0, 2, 3, 4, 6, 7, 87, 88, 89]) (I' := (fun (i : Nat) (v1 : Value) (ms : List Int) (N : List (Nat × Obj)) (cnt : Int) (t : Int) (w : World) => (i ≤ k) ∧ (ms = (List.range i).map (fun q => if toN has' q < m then (toN has' q : Int) else -1)) ∧ (cnt = tot i (fun q => if toN has' q < m then 1 else 0)) ∧ (t = tot i (fun q => if toN has' q < m then el rows q (toN has' q) else 0)) ∧ (0 ≤ t ∧ t ≤ i * 1099511627776) ∧ (0 ≤ cnt ∧ cnt ≤ i) ∧ (Bl w0 3 1 v1 i (il ms) N) ∧ (HS w0 w (GameL B c u vv o h n C U V of' has' ++ N))) (i + 1) (v110) (ms ++ [(j : Int)]) (M110) (cnt + 1) (t + (rows.getD i []).getD j 0) (_)) rfl rfl rfl ?_ ?_
        ·
         refine ⟨by omega, by rw [List.range_succ, List.map_append, ← hms, List.map_cons, List.map_nil, ← hj, if_pos (by omega)], ?_, ?_, ⟨by omega, by omega⟩, ⟨by omega, by omega⟩, hbl, hs⟩
         ·
          rw [hcnt]; simp only [tot]; rw [← hj, if_pos (by omega)]
         ·
          rw [ht]; simp only [tot]; rw [← hj, if_pos (by omega)]
        ·
         omega
      ·
       obtain rfl : k = i := by omega
       refine W_seq (W_region (L_lss rfl rfl rfl (dfalse (by omega)) ?_))
       refine RL_then (W_seq (W_if_false rfl (W_exit' (Ex_then_exit (Ex_loop_exit (Ex_block_hit (Nx_then (W_seq (W_region (L_move rfl rfl (L_move rfl rfl (L_move rfl rfl ?_))))))))))))
       refine L_assign rfl rfl (L_assign rfl rfl (L_assign rfl rfl (L_assign rfl rfl (RL_then (W_ret' (Ex_done4 rfl rfl rfl rfl rfl ?_))))))
       have hml : ms.length = k := by rw [hms]; simp
       refine ⟨_, rfl, v1, N, ms, cnt, t, 0, rfl, hs.dropL hO0, by rw [hml]; exact hbl, .inr ⟨he0, by omega, toN has', ?_, ?_, ?_, ?_, rfl⟩⟩
       ·
        rw [show wid rows 0 = m from hm.symm, hk, ← hn]; exact hBest
       ·
        rw [show wid rows 0 = m from hm.symm, hk]; exact hms
       ·
        rw [show wid rows 0 = m from hm.symm, hk]; exact hcnt
       ·
        rw [show wid rows 0 = m from hm.symm, hk]; exact ht
end Go.Proofs.Ytknpoemkmcdgcaa

namespace Go.Proofs.Ytknpoemkmcdgcaa
open Go Go.Lk
theorem cellsAt_part {w : World} {b T j n : Nat} {xs cs : List Value} (h : w.heap[b]? = some (Row T xs)) (hx : (xs.drop j).take n = cs) : CellsAt w ((Addr.mk b 0 none).add j) cs :=
 cellsAt_row cs h fun q v hq => by
  subst hx
  have hlt : q < n := by
   apply Classical.byContradiction
   intro hn
   rw [List.getElem?_take, if_neg hn] at hq; cases hq
  rw [List.getElem?_take_of_lt hlt, List.getElem?_drop] at hq
  exact hq
theorem cellsAt_lit {w : World} {b T j n : Nat} {xs cs : List Value} (h : w.heap[b]? = some (Row T xs)) (hx : (xs.drop j).take n = cs) : CellsAt w ⟨b, j, none⟩ cs := by
 have := cellsAt_part (j := j) h hx
 rwa [add_lit0] at this
/-- a firm track at a place -/
def trk (x y : Nat) : Tk := ⟨0, 1, x, 0, 0, 0, 0, y, 0, 0, 0, 0, 0, 0, 0⟩
def SPF (m : Int) (k : Nat) (f : FuncId) (args : Array Value) (v : Value) : Prop := match f, args.toList with
 | 28, [.agg s, .agg p] => (match s.toList, p.toList with
  | [.float .f64 sx, .float .f64 sy, .float .f64 st], [.float .f64 px, .float .f64 py] => MovR sx sy st px py v
  | _, _ => False)
 | 42, _ => v = .int .i64 m
 | 44, [.agg p, .agg q] => (match p.toList, q.toList with
  | [.float .f64 a, .float .f64 b], [.float .f64 c, .float .f64 d] => ∃ x y, v = .agg #[.float .f64 x, .float .f64 y] ∧ cn x = fop .add a c ∧ cn y = fop .add b d
  | _, _ => False)
 | 45, [_, .agg p] => (match p.toList with
  | [.float .f64 a, .float .f64 b] => ∃ x y, v = .agg #[.float .f64 x, .float .f64 y] ∧ cn x = fop .quo a (FloatKind.f64.nearest (k : Int)) ∧ cn y = fop .quo b (FloatKind.f64.nearest (k : Int))
  | _ => False)
 | _, _ => False
theorem movedH {w0 w : World} {L : Bks} (m : Int) (k : Nat) (hs : HS w0 w L) (sx sy st px py : Nat) (ht : st < 18446744073709551616) : Ret Try.prog 28 [.agg #[.float .f64 sx, .float .f64 sy, .float .f64 st], .agg #[.float .f64 px, .float .f64 py]] w fun v w' => SPF m k 28 [.agg #[.float .f64 sx, .float .f64 sy, .float .f64 st], .agg #[.float .f64 px, .float .f64 py]].toArray v ∧ HS w0 w' L :=
 Calls.mono (moved_ok sx sy st px py ht w) fun e w' => by
  rintro ⟨v, rfl, hv, hs'⟩
  exact ⟨_, rfl, hv, hs.nil hs'⟩
theorem paddH {w0 w : World} {L : Bks} (m : Int) (k : Nat) (hs : HS w0 w L) (a b c d : Nat) : Ret Try.prog 44 [.agg #[.float .f64 a, .float .f64 b], .agg #[.float .f64 c, .float .f64 d]] w fun v w' => SPF m k 44 [.agg #[.float .f64 a, .float .f64 b], .agg #[.float .f64 c, .float .f64 d]].toArray v ∧ HS w0 w' L :=
 Calls.mono (padd_ok a b c d w) fun e w' => by
  rintro ⟨v, rfl, x, y, rfl, hs', h1, h2⟩
  exact ⟨_, rfl, ⟨x, y, rfl, h1, h2⟩, hs.nil hs'⟩
theorem partH {w0 w : World} {L : Bks} (m : Int) (hs : HS w0 w L) (A px py n c : Nat) (a : Option Addr) (hse : w.cell? ⟨A, 4, none⟩ = some (.slice a n c)) : Ret Try.prog 45 [.pointer (some ⟨A, 0, none⟩), .agg #[.float .f64 px, .float .f64 py]] w fun v w' => SPF m n 45 [.pointer (some ⟨A, 0, none⟩), .agg #[.float .f64 px, .float .f64 py]].toArray v ∧ HS w0 w' L :=
 Calls.mono (part_ok A px py n c a w hse) fun e w' => by
  rintro ⟨v, rfl, x, y, rfl, hs', h1, h2⟩
  exact ⟨_, rfl, ⟨x, y, rfl, h1, h2⟩, hs.nil hs'⟩
theorem most_empty {ms : List Int} {cnt t e : Int} (h : MostAns [[]] ms cnt t e) : ms = [-1] := by
 rcases h with ⟨h, _⟩ | ⟨_, _, f, _, hm, _⟩
 ·
  rcases h with h | h
  ·
   exact absurd (by decide +kernel) h
  ·
   cases h
 ·
  rw [hm]
  show [if f 0 < 0 then (f 0 : Int) else -1] = [-1]
  rw [if_neg (by omega)]
open Go.Pr in
theorem most_one {ms : List Int} {cnt t e : Int} (h : MostAns [[41943]] ms cnt t e) : ms = [0] := by
 rcases h with ⟨h, _⟩ | ⟨_, _, f, hB, hm, _⟩
 ·
  rcases h with h | h
  ·
   exact absurd (by decide +kernel) h
  ·
   cases h
 ·
  have h0 := best_is (G := [0, 1]) (by decide) hB (by decide) (by decide) (by decide +kernel) 0 (by decide)
  have h1 : f 0 = 0 := h0
  rw [hm]
  show [if f 0 < 1 then (f 0 : Int) else -1] = [0]
  rw [if_pos (by omega), h1]; rfl
theorem slc_nil (w : World) : SlC w none [] := ⟨fun h => absurd h (Nat.lt_irrefl _), fun j v hv => by simp at hv⟩
end Go.Proofs.Ytknpoemkmcdgcaa

namespace Go.Proofs.Ytknpoemkmcdgcaa
open Go Go.Lk
/-! ### Things: what they are, and how they lie in memory -/
structure ST where
 ax : Nat
 ay : Nat
 vx : Nat
 vy : Nat
 seen : List Int
def st0 : ST := ⟨0, 0, 0, 0, []⟩
structure Th where
 p : Nat
 ax : Nat
 ay : Nat
 vx : Nat
 vy : Nat
 seen : List Int
 v : Value
 M : Bks
def th0 : Th := ⟨0, 0, 0, 0, 0, [], .slice none 0 0, []⟩
def Th.s (t : Th) : ST := ⟨cn t.ax, cn t.ay, cn t.vx, cn t.vy, t.seen⟩
def Th.cells (t : Th) : List Value := [.float .f64 t.ax, .float .f64 t.ay, .float .f64 t.vx, .float .f64 t.vy, t.v]
def Th.row (t : Th) : Nat × Obj := (t.p, Row 92 t.cells)
def Th.bks (t : Th) : Bks := t.row :: t.M
def Th.ptr (t : Th) : Value := .pointer (some ⟨t.p, 0, none⟩)
def Th.ok (w0 : World) (t : Th) : Prop := w0.heap.size ≤ t.p ∧ Bl w0 3 1 t.v t.seen.length (il t.seen) t.M
def tbs (ts : List Th) : Bks := ts.flatMap Th.bks
def ptrs (ts : List Th) : List Value := ts.map Th.ptr
theorem ptrs_len (ts : List Th) : (ptrs ts).length = ts.length := List.length_map ..
theorem ptrs_get {ts : List Th} {i : Nat} (h : i < ts.length) : (ptrs ts)[i]? = some (ts.getD i th0).ptr := by
 unfold ptrs
 rw [List.getElem?_map, List.getElem?_eq_getElem h, List.getD_eq_getElem?_getD, List.getElem?_eq_getElem h]; rfl
theorem ptrs_app (ts us : List Th) : ptrs (ts ++ us) = ptrs ts ++ ptrs us := List.map_append ..
theorem tbs_app (ts us : List Th) : tbs (ts ++ us) = tbs ts ++ tbs us := List.flatMap_append ..
theorem tbs_one (t : Th) : tbs [t] = t.bks := by simp [tbs]
theorem Th.ok.own {w0 : World} {t : Th} (h : t.ok w0) : Own w0 t.bks := Own.cons h.1 h.2.own
theorem tbs_own {w0 : World} {ts : List Th} (h : ∀ t ∈ ts, t.ok w0) : Own w0 (tbs ts) := fun p hp => by
 obtain ⟨t, ht, hp⟩ := List.mem_flatMap.1 hp
 exact (h t ht).own p hp
theorem getD_mem {α : Type} {l : List α} {i : Nat} {d : α} (h : i < l.length) : l.getD i d ∈ l := by
 rw [List.getD_eq_getElem?_getD, List.getElem?_eq_getElem h]; exact List.getElem_mem h
theorem tbs_mem {ts : List Th} {i : Nat} (h : i < ts.length) : (ts.getD i th0).row ∈ tbs ts := List.mem_flatMap.2 ⟨_, getD_mem h, List.mem_cons_self ..⟩
theorem split_at {α : Type} {l : List α} {i : Nat} {d : α} (h : i < l.length) : l = l.take i ++ l.getD i d :: l.drop (i + 1) := by
 have e : l.getD i d = l[i] := by rw [List.getD_eq_getElem?_getD, List.getElem?_eq_getElem h]; rfl
 rw [e, ← List.drop_eq_getElem_cons h, List.take_append_drop]
theorem set_ok {w0 : World} {ts : List Th} {i : Nat} {t : Th} (h : ∀ t ∈ ts, t.ok w0) (ht : t.ok w0) : ∀ u ∈ ts.set i t, u.ok w0 := fun u hu => by
 rcases List.mem_or_eq_of_mem_set hu with h1 | h1
 ·
  exact h u h1
 ·
  rw [h1]; exact ht
theorem ptrs_set {ts : List Th} {i : Nat} {t : Th} (h : i < ts.length) (hp : t.p = (ts.getD i th0).p) : ptrs (ts.set i t) = ptrs ts := by
 unfold ptrs
 rw [List.map_set]
 apply List.ext_getElem?
 intro j
 rw [List.getElem?_set]
 by_cases hij : i = j
 ·
  subst hij
  have := ptrs_get h
  unfold ptrs at this
  simp only [List.length_map, h, if_true]
  rw [this]; unfold Th.ptr; rw [hp]
 ·
  rw [if_neg hij]
/-! ### Radars, and the rounds of joining -/
structure Rd where
 x : Nat
 y : Nat
 t : Nat
 a : Option Addr
 c : Nat
 ts : List Tk
def rd0 : Rd := ⟨0, 0, 0, none, 0, []⟩
def Rd.cells (r : Rd) : List Value := [.float .f64 r.x, .float .f64 r.y, .float .f64 r.t, .slice r.a r.ts.length r.c]
def rcs (rs : List Rd) : List Value := rs.flatMap Rd.cells
theorem rcs_len (rs : List Rd) : (rcs rs).length = rs.length * 4 := by
 induction rs with
 | nil => rfl
 | cons r rs ih =>
  show (r.cells ++ rcs rs).length = _
  rw [List.length_append, ih, List.length_cons]
  show 4 + _ = _
  omega
theorem rcs_get : ∀ {rs : List Rd} {i q : Nat} {v : Value}, i < rs.length → (rs.getD i rd0).cells[q]? = some v → (rcs rs)[i * 4 + q]? = some v
 | r :: rs, 0, q, v, _, h => by
  show (r.cells ++ rcs rs)[0 * 4 + q]? = some v
  rw [Nat.zero_mul, Nat.zero_add]
  have hq : q < r.cells.length := (List.getElem?_eq_some_iff.1 h).1
  rw [List.getElem?_append_left hq]; exact h
 | r :: rs, i + 1, q, v, hi, h => by
  show (r.cells ++ rcs rs)[(i + 1) * 4 + q]? = some v
  have hl : r.cells.length = 4 := rfl
  rw [List.getElem?_append_right (by omega), show (i + 1) * 4 + q - r.cells.length = i * 4 + q by omega]
  exact rcs_get (by simpa using hi) h
theorem rd_at {w : World} {a : Option Addr} {rs : List Rd} (h : SlC w a (rcs rs)) {i : Nat} (hi : i < rs.length) : CellsAt w ((aD a).add (i * 4)) (rs.getD i rd0).cells := h.sub fun _ _ hv => rcs_get hi hv
/-- a net as it lies in memory, to be read -/
structure NetAt (w : World) (B far : Nat) (rs : List Rd) : Prop where
 far : w.cell? ⟨B, 0, none⟩ = some (.float .f64 far)
 rads : ∃ a c, w.cell? ⟨B, 1, none⟩ = some (.slice a rs.length c) ∧ SlC w a (rcs rs)
 each : ∀ i, i < rs.length → SlC w (rs.getD i rd0).a (tcs (rs.getD i rd0).ts)
theorem NetAt.old {w0 w : World} {B far : Nat} {rs : List Rd} {L : Bks} (h : NetAt w0 B far rs) (hs : HS w0 w L) (ho : Own w0 L) : NetAt w B far rs := by
 obtain ⟨a, c, h1, h2⟩ := h.rads
 exact ⟨hs.oldcell h.far (ho.notin (World.block_lt_of_cell? w0 _ h.far)), ⟨a, c, hs.oldcell h1 (ho.notin (World.block_lt_of_cell? w0 _ h1)), h2.old hs ho⟩, fun i hi => (h.each i hi).old hs ho⟩
def newS (r : Rd) (i : Nat) (k : Tk) : ST := ⟨mvX r.x r.t k.xx k.yx, mvY r.y r.t k.xx k.yx, mvX 0 r.t k.xv k.yv, mvY 0 r.t k.xv k.yv, [(i : Int)]⟩
def rowS (far : Nat) (S : List ST) (x : ST) : List Int := S.map fun t => costF far x.ax x.ay t.ax t.ay t.seen.length
def mrgS (i : Nat) (t x : ST) : ST := ⟨fop .add t.ax x.ax, fop .add t.ay x.ay, fop .add t.vx x.vx, fop .add t.vy x.vy, t.seen ++ [(i : Int)]⟩
def stp (i : Nat) (S : List ST) (y : ST × Int) : List ST := if 0 ≤ y.2 then S.set y.2.toNat (mrgS i (S.getD y.2.toNat st0) y.1) else S ++ [y.1]
def ownS (rs : List Rd) (i : Nat) : List ST := (rs.getD i rd0).ts.map (newS (rs.getD i rd0) i)
def rowsS (far : Nat) (rs : List Rd) (i : Nat) (S : List ST) : List (List Int) := (ownS rs i).map (rowS far (S.take 256))
inductive FusTo (far : Nat) (rs : List Rd) : Nat → List ST → Prop
 | zero : FusTo far rs 0 []
 | step {i : Nat} {S : List ST} {ms : List Int} {cnt t e : Int} (h : FusTo far rs i S) (hi : i < rs.length) (hm : MostAns (rowsS far rs i S) ms cnt t e) : FusTo far rs (i + 1) (((ownS rs i).zip ms).foldl (stp i) S)
theorem rowsS_len (far : Nat) (rs : List Rd) (i : Nat) (S : List ST) : (rowsS far rs i S).length = (rs.getD i rd0).ts.length := by simp [rowsS, ownS]
theorem rowsS_row {far : Nat} {rs : List Rd} {i : Nat} {S : List ST} {r : List Int} (h : r ∈ rowsS far rs i S) : ∃ x, r = rowS far (S.take 256) x := by
 obtain ⟨x, _, rfl⟩ := List.mem_map.1 h
 exact ⟨x, rfl⟩
theorem rowsS_fine {far : Nat} {rs : List Rd} {i : Nat} {S : List ST} (hf : FarOk far) (hn : (rs.getD i rd0).ts.length ≤ 256) : chk (rowsS far rs i S) = 0 := by
 have hl : ∀ r ∈ rowsS far rs i S, r.length = (S.take 256).length := fun r hr => by
  obtain ⟨x, rfl⟩ := rowsS_row hr
  exact List.length_map ..
 have hl2 : (S.take 256).length ≤ 256 := by rw [List.length_take]; omega
 unfold chk
 rw [if_neg, if_neg, if_neg]
 ·
  simp only [List.any_eq_true, decide_eq_true_eq, not_exists, not_and]
  intro r hr c hc
  obtain ⟨x, rfl⟩ := rowsS_row hr
  obtain ⟨t, _, rfl⟩ := List.mem_map.1 hc
  rcases costF_rng (px := x.ax) (py := x.ay) (ax := t.ax) (ay := t.ay) (n := t.seen.length) hf with h | h <;> omega
 ·
  simp only [List.any_eq_true, decide_eq_true_eq, not_exists, not_and]
  intro r hr h
  cases hR : rowsS far rs i S with
  | nil => rw [hR] at hr; cases hr
  | cons r0 R =>
   rw [hR] at h hl hr
   exact h ((hl r hr).trans (hl r0 (List.mem_cons_self ..)).symm)
 ·
  rw [rowsS_len]
  simp only [Bool.or_eq_true, decide_eq_true_eq, List.any_eq_true, not_or, not_exists, not_and]
  exact ⟨by omega, fun r hr => by rw [hl r hr]; omega⟩
/-- what the mates are, of a round -/
theorem mates_ok {far : Nat} {rs : List Rd} {i : Nat} {S : List ST} {ms : List Int} {cnt t e : Int} (hf : FarOk far) (hn : (rs.getD i rd0).ts.length ≤ 256) (hm : MostAns (rowsS far rs i S) ms cnt t e) :
  ms.length = (rs.getD i rd0).ts.length ∧ ∀ k, k < ms.length → ms.getD k 0 < ((S.take 256).length : Int) ∧ -1 ≤ ms.getD k 0 := by
 have hc := rowsS_fine (i := i) (S := S) hf hn
 rcases hm with ⟨h | h, rfl, _⟩ | ⟨_, h0, f, _, rfl, _⟩
 ·
  exact absurd hc h
 ·
  rw [rowsS_len] at h
  exact ⟨h.symm, fun k hk => absurd hk (Nat.not_lt_zero _)⟩
 ·
  refine ⟨by rw [List.length_map, List.length_range, rowsS_len], fun k hk => ?_⟩
  have hw : wid (rowsS far rs i S) 0 = (S.take 256).length := by
   have hm : (rowsS far rs i S).getD 0 [] ∈ rowsS far rs i S := getD_mem (by omega)
   obtain ⟨x, hx⟩ := rowsS_row hm
   show ((rowsS far rs i S).getD 0 []).length = _
   rw [hx]; exact List.length_map ..
  rw [List.length_map, List.length_range] at hk
  rw [List.getD_eq_getElem?_getD, List.getElem?_map, List.getElem?_range hk]
  show (if f k < _ then _ else _ : Int) < _ ∧ _ ≤ (if f k < _ then _ else _ : Int)
  rw [hw]
  split <;> omega
end Go.Proofs.Ytknpoemkmcdgcaa

namespace Go.Proofs.Ytknpoemkmcdgcaa
open Go Go.Lk
/-! ### Small laws for the walk of 'Fused' -/
theorem minI_256 (n : Nat) : (if (256 : Int) < (n : Int) then 256 else (n : Int)) = ((min n 256 : Nat) : Int) := by
 split <;> omega
theorem set_rep {α : Type} (xs : List α) (m k : Nat) (z v : α) (hk : xs.length = k) : (xs ++ List.replicate (m + 1) z).set k v = (xs ++ [v]) ++ List.replicate m z := by
 subst hk
 rw [List.set_append_right _ _ (Nat.le_refl _), Nat.sub_self, List.replicate_succ, List.set_cons_zero, List.append_assoc]; rfl
theorem get_mid {α : Type} (xs ys : List α) (v : α) (k : Nat) (hk : xs.length = k) : (xs ++ v :: ys)[k]? = some v := by
 subst hk
 rw [List.getElem?_append_right (Nat.le_refl _), Nat.sub_self]; rfl
theorem set_mid' {α : Type} (xs ys : List α) (v u : α) (k : Nat) (hk : xs.length = k) : (xs ++ v :: ys).set k u = xs ++ u :: ys := by
 subst hk
 rw [List.set_append_right _ _ (Nat.le_refl _), Nat.sub_self, List.set_cons_zero]
theorem HS.push {w0 w : World} {p : Nat × Obj} {L : Bks} (h : HS w0 w (L ++ [p])) : HS w0 w (p :: L) := h.mem_perm (List.perm_append_comm (l₂ := [_]))
theorem HS.pop {w0 w : World} {p : Nat × Obj} {L : Bks} (h : HS w0 w (p :: L)) (hp : w0.heap.size ≤ p.1) : HS w0 w L := HS.drop1 h hp
theorem HS.re {w0 w : World} {L L' : Bks} (h : HS w0 w L) (hc : ∀ c : Nat × Obj → Nat, (L.map c).sum = (L'.map c).sum) : HS w0 w L' := h.mem_perm (perm_by hc)
theorem thing_cell {w0 w : World} {L : Bks} (hs : HS w0 w L) {t : Th} (hm : t.row ∈ L) {j : Nat} {v : Value} (hv : t.cells[j]? = some v) : w.cell? ⟨t.p, j, none⟩ = some v := Lk.cell_of_row (hs.has _ hm) hv
theorem cellAM {w0 w : World} {L : Bks} (h : HS w0 w L) {b j : Nat} {T : TypeId} {cs : List Value} {v : Value} (hm : (b, Row T cs) ∈ L) (hv : cs[j]? = some v) : w.cell? ((Addr.mk b 0 none).add j) = some v := by
 rw [add_lit0]; exact Lk.cell_of_row (h.has _ hm) hv
theorem thing_at {w0 w : World} {L : Bks} (hs : HS w0 w L) {t : Th} (hm : t.row ∈ L) : CellsAt w ⟨t.p, 0, none⟩ [.float .f64 t.ax, .float .f64 t.ay] := fun q v hv => by
 rw [add_lit0]
 match q, hv with
 | 0, rfl => exact thing_cell hs hm rfl
 | 1, rfl => exact thing_cell hs hm rfl
theorem thing_vel {w0 w : World} {L : Bks} (hs : HS w0 w L) {t : Th} (hm : t.row ∈ L) : CellsAt w ⟨t.p, 2, none⟩ [.float .f64 t.vx, .float .f64 t.vy] := fun q v hv => by
 rw [Addr.add_lit]
 match q, hv with
 | 0, rfl => exact thing_cell hs hm rfl
 | 1, rfl => exact thing_cell hs hm rfl
theorem costG {w0 w : World} {L : Bks} {B far : Nat} {rs : List Rd} (hs : HS w0 w L) (ho : Own w0 L) (hN : NetAt w0 B far rs) (hf : FarOk far) (px py : Nat) {t : Th} {a : Option Addr} {c : Nat} (hv : t.v = .slice a t.seen.length c) (hm : t.row ∈ L) :
  Ret Try.prog 42 [.pointer (some ⟨B, 0, none⟩), .agg #[.float .f64 px, .float .f64 py], .pointer (some ⟨t.p, 0, none⟩)] w fun v w' => SPF (costF far px py t.ax t.ay t.seen.length) 0 42 [.pointer (some ⟨B, 0, none⟩), .agg #[.float .f64 px, .float .f64 py], .pointer (some ⟨t.p, 0, none⟩)].toArray v ∧ HS w0 w' L :=
 Calls.mono (cost_ok B t.p far px py t.ax t.ay t.seen.length c a w hf (hN.old hs ho).far (thing_cell hs hm rfl) (thing_cell hs hm rfl) (thing_cell hs hm (by rw [← hv]; rfl))) fun e w' => by
  rintro ⟨v, rfl, rfl, hs'⟩
  exact ⟨_, rfl, rfl, hs.nil hs'⟩
theorem take_snoc {α : Type} {l : List α} {j : Nat} {x : α} (h : l[j]? = some x) : l.take (j + 1) = l.take j ++ [x] := by
 rw [List.take_add_one, h]; rfl
/-- rows that were made: each with its slice and its blocks -/
structure RR where
 xs : List Int
 v : Value
 M : Bks
def rr0 : RR := ⟨[], .slice none 0 0, []⟩
def RR.ok (w0 : World) (r : RR) : Prop := Bl w0 2 1 r.v r.xs.length (il r.xs) r.M
def rvs (rr : List RR) : List Value := rr.map RR.v
def rbs (rr : List RR) : Bks := rr.flatMap RR.M
theorem rbs_own {w0 : World} {rr : List RR} (h : ∀ r ∈ rr, r.ok w0) : Own w0 (rbs rr) := fun p hp => by
 obtain ⟨r, hr, hp⟩ := List.mem_flatMap.1 hp
 exact (h r hr).own p hp
theorem Bl.slcM {w0 w : World} {E : TypeId} {sz : Nat} {a : Option Addr} {n c k : Nat} {xs : List Value} {L M : Bks} (h : Bl w0 E sz (.slice a n c) k xs M) (hs : HS w0 w L) (hM : ∀ p ∈ M, p ∈ L) : SlC w a xs := by
 have hs' : HS w w ([] ++ M) := HS.named (fun p hp => hs.has p (hM p hp)) (by
  cases h with
  | nil => exact List.nodup_nil
  | row => exact List.nodup_cons.2 ⟨List.not_mem_nil, List.nodup_nil⟩)
 have h' : Bl w E sz (.slice a n c) k xs M ∨ True := .inr trivial
 clear h'
 cases h with
 | nil => exact ⟨fun h => absurd h (Nat.lt_irrefl _), fun j v hv => by simp at hv⟩
 | row => exact SlC.of_row (hs.has _ (hM _ (List.mem_cons_self ..)))
theorem Bl.view {w0 : World} {E : TypeId} {a : Option Addr} {n c k : Nat} {xs ks rest : List Value} {M K : Bks} (h : Bl w0 E 1 (.slice a n c) k xs M) (hx : xs = ks ++ rest) : KV E ks a (M ++ K) := by
 cases h with
 | nil => exact .inl (List.append_eq_nil_iff.1 hx.symm).1
 | @row g n cap xs sp => exact .inr ⟨g, rest ++ sp, rfl, by rw [hx]; simp⟩
theorem tbs_split {ts : List Th} {q : Nat} (h : q < ts.length) : tbs ts = tbs (ts.take q) ++ ((ts.getD q th0).row :: ((ts.getD q th0).M ++ tbs (ts.drop (q + 1)))) := by
 have e := congrArg tbs (split_at (d := th0) h)
 rw [tbs_app] at e
 exact e
theorem tbs_set {ts : List Th} {q : Nat} (h : q < ts.length) (t : Th) : tbs (ts.set q t) = tbs (ts.take q) ++ (t.row :: (t.M ++ tbs (ts.drop (q + 1)))) := by
 rw [List.set_eq_take_append_cons_drop, if_pos h, tbs_app]; rfl
theorem tbs_drop {ts : List Th} {q : Nat} (h : q < ts.length) : tbs (ts.drop q) = (ts.getD q th0).row :: ((ts.getD q th0).M ++ tbs (ts.drop (q + 1))) := by
 have e : ts.drop q = ts.getD q th0 :: ts.drop (q + 1) := by
  rw [List.drop_eq_getElem_cons h, List.getD_eq_getElem?_getD, List.getElem?_eq_getElem h]; rfl
 rw [e]; rfl
theorem get_of_map {α β : Type} {l : List α} {f : α → β} {m : List β} (h : l.map f = m) {k : Nat} {d : α} (hk : k < l.length) : m[k]? = some (f (l.getD k d)) := by
 rw [← h, List.getElem?_map, List.getElem?_eq_getElem hk, List.getD_eq_getElem?_getD, List.getElem?_eq_getElem hk]; rfl
/-- a thing told: its sums divided -/
def prt (s : ST) : ST := ⟨fop .quo s.ax (FloatKind.f64.nearest (s.seen.length : Int)), fop .quo s.ay (FloatKind.f64.nearest (s.seen.length : Int)), fop .quo s.vx (FloatKind.f64.nearest (s.seen.length : Int)), fop .quo s.vy (FloatKind.f64.nearest (s.seen.length : Int)), s.seen⟩
def fcs (fs : List Th) : List Value := fs.flatMap Th.cells
def fms (fs : List Th) : Bks := fs.flatMap Th.M
theorem fms_sub : ∀ (ts : List Th), (fms ts).Sublist (tbs ts)
 | [] => List.Sublist.slnil
 | t :: ts => by
  show (t.M ++ fms ts).Sublist ((t.row :: t.M) ++ tbs ts)
  exact (List.sublist_cons_self ..).append (fms_sub ts)
theorem fms_of {fs ts : List Th} (h : fs.map Th.M = ts.map Th.M) : fms fs = fms ts := by
 have e : ∀ l : List Th, fms l = (l.map Th.M).flatten := fun l => by unfold fms; rw [List.flatMap_def]
 rw [e, e, h]
theorem rowsI_of {w0 w : World} {g n : Nat} {rr : List RR} {L : Bks} (hs : HS w0 w L) (hg : (g, Row 93 (rvs rr)) ∈ L) (hr : ∀ r ∈ rr, r.ok w0) (hm : ∀ p ∈ rbs rr, p ∈ L) (hl : ∀ r ∈ rr, r.xs.length ≤ n) (hn : n ≤ 1000) : RowsI w (some ⟨g, 0, none⟩) (rr.map RR.xs) (rvs rr) := by
 refine ⟨SlC.of_row (sp := []) (by rw [List.append_nil]; exact hs.has _ hg), by simp [rvs], fun i hi => ?_⟩
 rw [List.length_map] at hi
 have hm' : rr.getD i rr0 ∈ rr := getD_mem hi
 have e1 : (rvs rr)[i]? = some (rr.getD i rr0).v := by
  unfold rvs; rw [List.getElem?_map, List.getElem?_eq_getElem hi, List.getD_eq_getElem?_getD, List.getElem?_eq_getElem hi]; rfl
 have e2 : (rr.map RR.xs).getD i [] = (rr.getD i rr0).xs := by
  rw [List.getD_eq_getElem?_getD, List.getElem?_map, List.getElem?_eq_getElem hi, List.getD_eq_getElem?_getD, List.getElem?_eq_getElem hi]; rfl
 have hb := hr _ hm'
 obtain ⟨a, c, hv, hc⟩ := Bl.slice hb
 have hl' := hl _ hm'
 rw [e1, e2, hv]
 refine ⟨a, c, rfl, hc, by omega, ?_⟩
 unfold RR.ok at hb
 rw [hv] at hb
 exact Bl.slcM hb hs (fun p hp => hm _ (List.mem_flatMap.2 ⟨_, hm', hp⟩))
end Go.Proofs.Ytknpoemkmcdgcaa
