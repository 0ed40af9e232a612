/-
  A part of the proof: what functions that the statement reaches do, or a plain law on what they do. Each theorem holds under its own premises alone.
-/
import Derived.Test.YtihhloeakenfgaaTD5
namespace Go.Proofs.Ytihhloeakenfgaa
open Go Go.Lk
theorem slA_at {A n q : Nat} (hn : 0 < n) : slA (some ⟨A, 0, none⟩) (q * n) (q * n + n) 1 = some ⟨A, q * n, none⟩ := by
  rw [slA_in hn, add_lit0]
theorem idx_lt {m n p g : Nat} (hp : p < m) (hg : g < n) : p * n + g < m * n := by
  have : (p + 1) * n ≤ m * n := Nat.mul_le_mul_right n (by omega)
  rw [Nat.add_mul, Nat.one_mul] at this
  omega
theorem idx_inj {n r q i j : Nat} (hq : q < n) (hj : j < n) (h : r * n + q = i * n + j) : r = i ∧ q = j := by
  have h1 : (r * n + q) / n = r := by rw [Nat.mul_comm, Nat.mul_add_div (by omega), Nat.div_eq_of_lt hq, Nat.add_zero]
  have h2 : (i * n + j) / n = i := by rw [Nat.mul_comm, Nat.mul_add_div (by omega), Nat.div_eq_of_lt hj, Nat.add_zero]
  have h3 : r = i := by rw [← h1, h, h2]
  subst h3
  exact ⟨rfl, by omega⟩
theorem chk_zero {rows : List CL} {e : Int} (h : chkF rows e = 0) : (∀ i, i < rows.length → (rows.getD i []).length = widC rows) ∧ rows.length ≤ 256 ∧ widC rows ≤ 16384 ∧ (rows.length : Int) * (widC rows : Int) ≤ 262144 := by
  unfold chkF at h
  split at h
  · cases h
  · rename_i h1
    split at h
    · cases h
    · rename_i h2
      refine ⟨fun i hi => Classical.byContradiction fun hne => h1 ⟨i, hi, hne⟩, ?_, ?_, ?_⟩ <;> exact Classical.byContradiction fun hne => h2 (by omega)
theorem doppler_bad (a b : Option Addr) (k cp lw cw : Nat) (rows : List CL) (rvs : List Value) (w0 : World) (hr : RowsC w0 a rows rvs) (hk : rows.length = k) (hk2 : k ≤ 1000000) (hl : ∀ i, i < k → (rows.getD i []).length ≤ 1000000) (hne : lw ≠ k) :
    Ret Try.prog 10 [.slice a k cp, .slice b lw cw] w0 fun v w' => v = .tuple #[.slice none 0 0, .int .i64 5] ∧ HS w0 w' [] := by
  refine Ret.start fun w hs => ?_
  refine calls_of_W Try.func10 rfl rfl rfl ?_
  refine W_seq ?_
  refine W_region ?_
  refine L_assign rfl rfl ?_
  refine L_assign rfl rfl ?_
  refine RL_then ?_
  refine W_seq ?_
  refine W_region ?_
  refine L_move rfl rfl ?_
  refine L_call rfl Try.fun20 rfl (columns_ok a k cp rows rvs w (hr.old hs Own.nil) hk hk2 hl) ?_
  rintro _ w1 ⟨n, ok, rfl, hs', hC⟩
  replace hs := hs.nil hs'
  clear hs'
  cases ok
  · refine L_move rfl rfl ?_
    refine L_extract rfl rfl rfl ?_
    refine L_extract rfl rfl rfl ?_
    refine L_assign rfl rfl ?_
    refine L_assign rfl rfl ?_
    refine RL_then ?_
    refine W_seq ?_
    refine W_seq ?_
    refine W_region ?_
    refine L_move rfl rfl ?_
    refine L_not rfl rfl ?_
    refine L_move rfl rfl ?_
    first | (refine RL_want rfl rfl ?_; refine L_move rfl rfl ?_) | refine RL_skip rfl rfl rfl rfl ?_ | refine RL_skipU rfl rfl rfl ?_
    first | (refine RL_want rfl rfl ?_; refine L_len rfl Try.underlying44 rfl ?_) | refine RL_skip rfl rfl rfl rfl ?_ | refine RL_skipU rfl rfl rfl ?_
    first | (refine RL_want rfl rfl ?_; refine L_move rfl rfl ?_) | refine RL_skip rfl rfl rfl rfl ?_ | refine RL_skipU rfl rfl rfl ?_
    first | (refine RL_want rfl rfl ?_; refine L_len rfl Try.underlying39 rfl ?_) | refine RL_skip rfl rfl rfl rfl ?_ | refine RL_skipU rfl rfl rfl ?_
    first | (refine RL_want rfl rfl ?_; (first | refine L_neq rfl rfl rfl (dtrue (by omega)) ?_ | refine L_neq rfl rfl rfl (dfalse (by omega)) ?_ | refine L_neq rfl rfl rfl rfl ?_)) | refine RL_skip rfl rfl rfl rfl ?_ | refine RL_skipU rfl rfl rfl ?_
    first | refine L_pick_t rfl rfl rfl ?_ | refine L_pick_f rfl rfl rfl ?_
    refine RL_then ?_
    refine W_if_true rfl ?_
    refine W_seq ?_
    refine W_region ?_
    refine L_assign rfl rfl ?_
    refine L_assign rfl rfl ?_
    refine RL_then ?_
    refine W_ret' ?_
    refine Ex_then_ret ?_
    refine Ex_done2 rfl rfl rfl ?_
    exact ⟨_, rfl, rfl, hs⟩
  · refine L_move rfl rfl ?_
    refine L_extract rfl rfl rfl ?_
    refine L_extract rfl rfl rfl ?_
    refine L_assign rfl rfl ?_
    refine L_assign rfl rfl ?_
    refine RL_then ?_
    refine W_seq ?_
    refine W_seq ?_
    refine W_region ?_
    refine L_move rfl rfl ?_
    refine L_not rfl rfl ?_
    refine L_move rfl rfl ?_
    first | (refine RL_want rfl rfl ?_; refine L_move rfl rfl ?_) | refine RL_skip rfl rfl rfl rfl ?_ | refine RL_skipU rfl rfl rfl ?_
    first | (refine RL_want rfl rfl ?_; refine L_len rfl Try.underlying44 rfl ?_) | refine RL_skip rfl rfl rfl rfl ?_ | refine RL_skipU rfl rfl rfl ?_
    first | (refine RL_want rfl rfl ?_; refine L_move rfl rfl ?_) | refine RL_skip rfl rfl rfl rfl ?_ | refine RL_skipU rfl rfl rfl ?_
    first | (refine RL_want rfl rfl ?_; refine L_len rfl Try.underlying39 rfl ?_) | refine RL_skip rfl rfl rfl rfl ?_ | refine RL_skipU rfl rfl rfl ?_
    first | (refine RL_want rfl rfl ?_; (first | refine L_neq rfl rfl rfl (dtrue (by omega)) ?_ | refine L_neq rfl rfl rfl (dfalse (by omega)) ?_ | refine L_neq rfl rfl rfl rfl ?_)) | refine RL_skip rfl rfl rfl rfl ?_ | refine RL_skipU rfl rfl rfl ?_
    first | refine L_pick_t rfl rfl rfl ?_ | refine L_pick_f rfl rfl rfl ?_
    refine RL_then ?_
    refine W_if_true rfl ?_
    refine W_seq ?_
    refine W_region ?_
    refine L_assign rfl rfl ?_
    refine L_assign rfl rfl ?_
    refine RL_then ?_
    refine W_ret' ?_
    refine Ex_then_ret ?_
    refine Ex_done2 rfl rfl rfl ?_
    exact ⟨_, rfl, rfl, hs⟩
def DopR (rows : List CL) (ws : List Nat) (zs : CL) (k n g : Nat) : Prop := ∃ xs ys : CL, xs.length = k ∧ ys.length = k ∧ (∀ p, p < k → cn (xs.getD p (0, 0)).1 = fop .mul ((rows.getD p []).getD g (0, 0)).1 (ws.getD p 0) ∧ cn (xs.getD p (0, 0)).2 = fop .mul ((rows.getD p []).getD g (0, 0)).2 (ws.getD p 0)) ∧ SlowR xs ys k ∧ ∀ p, p < k → zs.getD (p * n + g) (0, 0) = ys.getD p (0, 0)
set_option maxHeartbeats 1000000 in
theorem doppler_ok (a b : Option Addr) (k cp n cw : Nat) (rows : List CL) (rvs : List Value) (ws : List Nat) (w0 : World) (hr : RowsC w0 a rows rvs) (hk : rows.length = k) (hn : widC rows = n) (hc : chkF rows k = 0) (hw : SlC w0 b (fl ws)) (hwl : ws.length = k) :
    Ret Try.prog 10 [.slice a k cp, .slice b k cw] w0 fun v w' => ∃ A Bk vs zs, v = .tuple #[.slice (some ⟨Bk, 0, none⟩) k k, .int .i64 0] ∧ HS w0 w' [(A, Row 28 (cl zs)), (Bk, Row 27 vs)] ∧ w0.heap.size ≤ A ∧ w0.heap.size ≤ Bk ∧ vs.length = k ∧ (∀ q, q < k → vs[q]? = some (bval A n q)) ∧ zs.length = k * n ∧ ∀ g, g < n → DopR rows ws zs k n g := by
  refine Ret.start fun w hs => ?_
  obtain ⟨hun, hk256, hn16, hkn⟩ := chk_zero hc
  rw [hk] at hun hk256 hkn
  rw [hn] at hun hn16 hkn
  have hkn' : (k : Int) * (n : Int) = ((k * n : Nat) : Int) := by simp
  rw [hkn'] at hkn
  have hlen : ∀ i, i < k → (rows.getD i []).length ≤ 1000000 := fun i hi => by rw [hun i hi]; omega
  refine calls_of_W Try.func10 rfl rfl rfl ?_
  refine W_seq ?_
  refine W_region ?_
  refine L_assign rfl rfl ?_
  refine L_assign rfl rfl ?_
  refine RL_then ?_
  refine W_seq ?_
  refine W_region ?_
  refine L_move rfl rfl ?_
  refine L_call rfl Try.fun20 rfl (columns_ok a k cp rows rvs w (hr.old hs Own.nil) hk (by omega) hlen) ?_
  rintro _ w1 ⟨n', ok, rfl, hs', hC⟩
  obtain ⟨rfl, rfl, _⟩ := hC.resolve_right (fun h => by obtain ⟨_, _, i, hi, hne⟩ := h; exact hne (by rw [hn]; exact hun i (by omega)))
  replace hs := hs.nil hs'
  clear hs'
  rw [hn]
  refine L_move rfl rfl ?_
  refine L_extract rfl rfl rfl ?_
  refine L_extract rfl rfl rfl ?_
  refine L_assign rfl rfl ?_
  refine L_assign rfl rfl ?_
  refine RL_then ?_
  refine W_seq ?_
  refine W_seq ?_
  refine W_region ?_
  refine L_move rfl rfl ?_
  refine L_not rfl rfl ?_
  refine L_move rfl rfl ?_
  first | (refine RL_want rfl rfl ?_; refine L_move rfl rfl ?_) | refine RL_skip rfl rfl rfl rfl ?_ | refine RL_skipU rfl rfl rfl ?_
  first | (refine RL_want rfl rfl ?_; refine L_len rfl Try.underlying44 rfl ?_) | refine RL_skip rfl rfl rfl rfl ?_ | refine RL_skipU rfl rfl rfl ?_
  first | (refine RL_want rfl rfl ?_; refine L_move rfl rfl ?_) | refine RL_skip rfl rfl rfl rfl ?_ | refine RL_skipU rfl rfl rfl ?_
  first | (refine RL_want rfl rfl ?_; refine L_len rfl Try.underlying39 rfl ?_) | refine RL_skip rfl rfl rfl rfl ?_ | refine RL_skipU rfl rfl rfl ?_
  first | (refine RL_want rfl rfl ?_; (first | refine L_neq rfl rfl rfl (dtrue (by omega)) ?_ | refine L_neq rfl rfl rfl (dfalse (by omega)) ?_ | refine L_neq rfl rfl rfl rfl ?_)) | refine RL_skip rfl rfl rfl rfl ?_ | refine RL_skipU rfl rfl rfl ?_
  first | refine L_pick_t rfl rfl rfl ?_ | refine L_pick_f rfl rfl rfl ?_
  refine RL_then ?_
  refine W_if_false rfl ?_
  refine W_skip' ?_
  refine Nx_then ?_
  refine W_seq ?_
  refine W_seq ?_
  refine W_region ?_
  refine L_move rfl rfl ?_
  refine L_move rfl rfl ?_
  refine L_len rfl Try.underlying39 rfl ?_
  refine L_call rfl Try.fun21 rfl (check_ok a k cp k rows rvs w1 (hr.old hs Own.nil) hk (by omega) hlen (by omega)) ?_
  rintro _ w2 ⟨rfl, hs'⟩
  replace hs := hs.nil hs'
  clear hs'
  rw [hc]
  refine L_assign rfl rfl ?_
  refine RL_then ?_
  refine W_seq ?_
  refine W_region ?_
  refine L_move rfl rfl ?_
  first | refine L_neq rfl rfl rfl (dtrue (by omega)) ?_ | refine L_neq rfl rfl rfl (dfalse (by omega)) ?_ | refine L_neq rfl rfl rfl rfl ?_
  refine RL_then ?_
  refine W_if_false rfl ?_
  refine W_skip' ?_
  refine Nx_then ?_
  refine W_seq ?_
  refine W_sg Try.mixed ?_
  replace hs := hs.drewN 1
  refine SG_stage [0, 1, 2, 4, 5] [] [] (fun _ _ _ => False) (g' := 4) (by kernel_rfl) (by kernel_rfl) (fun _ _ _ _ _ h => h) hs ?_
  refine PL_val rfl (fun w => R_move rfl) ?_
  refine PL_val rfl (fun w => R_len Try.underlying39 rfl) ?_
  refine PL_val rfl (fun w => R_move rfl) ?_
  refine PL_val rfl (fun w => R_move rfl) ?_
  refine PL_val rfl (fun w => R_len Try.underlying39 rfl) ?_
  refine PL_end ?_
  refine HL_tail ?_
  intro w hs
  refine RL_sg ?_
  refine SG_join (g' := 1) (l' := #[true, true, true, true, true, true, true, true, false]) (fun S => ∀ (A : Nat) (Bk : Nat) (vs : List Value) (X : Nat) (w : World), (HS w0 w [(A, Row 28 (cl (List.replicate (k * n) (0, 0)))), (Bk, Row 27 vs), (X, Row 28 (List.replicate k (.complex .f64 0 0)))]) ∧ ((w0.heap.size ≤ A ∧ w0.heap.size ≤ Bk ∧ w0.heap.size ≤ X) ∧ vs.length = k ∧ ∀ q, q < k → vs[q]? = some (bval A n q)) → S [(0, .slice a k cp), (1, .slice b k cw), (6, .int .i64 n), (9, .slice (some ⟨Bk, 0, none⟩) k k), (45, .slice (some ⟨X, 0, none⟩) k k)] w) ?_ ?_
  · intro fin
    refine SG_pick2 (i := 3) (l1 := #[true, true, true, true, true, true, false, false, false]) (j := 6) (l2 := #[true, true, true, false, true, true, true, false, false]) (by kernel_rfl) (by kernel_rfl) (by kernel_rfl) (by kernel_rfl) ?_ ?_
    · refine L_call rfl Try.fun22 rfl (blank_ok k n (by omega) (by omega) (by omega) _) ?_; rintro _ w ⟨A, Bk, vs, rfl, hs', hA, hB, hvl, hv⟩; have hA2 := Nat.le_trans hs.size hA; have hB2 := Nat.le_trans hs.size hB; replace hs := hs.call hs' (Own.cons hA (Own.cons hB Own.nil))
      refine RL_sg ?_
      refine SG_pick2 (i := 6) (l1 := #[true, true, true, true, true, true, true, false, false]) (j := 7) (l2 := #[true, true, true, true, true, true, false, true, false]) (by kernel_rfl) (by kernel_rfl) (by kernel_rfl) (by kernel_rfl) ?_ ?_
      · refine L_make1 (l := k) (c := k) rfl hs Try.underlying27 Try.ti28 rfl rfl rfl rfl (Nat.le_refl _) (by omega) (by omega) rfl ?_; intro b45 w hb45 hnb45 hs
        refine RL_sg ?_
        refine SG_pick1 (i := 7) (l1 := #[true, true, true, true, true, true, true, true, false]) (by kernel_rfl) (by kernel_rfl) (by kernel_rfl) ?_
        refine L_assign rfl rfl ?_
        refine RL_sg ?_
        refine SG_env (fin A Bk vs b45 w ⟨by first | exact hs | exact hs.mem_perm (List.perm_append_comm (l₁ := [_])), ⟨hA2, hB2, hb45⟩, hvl, hv⟩) (looks_cons rfl (looks_cons rfl (looks_cons rfl (looks_cons rfl (looks_cons rfl looks_nil)))))
      · refine L_assign rfl rfl ?_
        refine RL_sg ?_
        refine SG_pick1 (i := 6) (l1 := #[true, true, true, true, true, true, true, true, false]) (by kernel_rfl) (by kernel_rfl) (by kernel_rfl) ?_
        refine L_make1 (l := k) (c := k) rfl hs Try.underlying27 Try.ti28 rfl rfl rfl rfl (Nat.le_refl _) (by omega) (by omega) rfl ?_; intro b45 w hb45 hnb45 hs
        refine RL_sg ?_
        refine SG_env (fin A Bk vs b45 w ⟨by first | exact hs | exact hs.mem_perm (List.perm_append_comm (l₁ := [_])), ⟨hA2, hB2, hb45⟩, hvl, hv⟩) (looks_cons rfl (looks_cons rfl (looks_cons rfl (looks_cons rfl (looks_cons rfl looks_nil)))))
    · refine L_make1 (l := k) (c := k) rfl hs Try.underlying27 Try.ti28 rfl rfl rfl rfl (Nat.le_refl _) (by omega) (by omega) rfl ?_; intro b45 w hb45 hnb45 hs
      refine RL_sg ?_
      refine SG_pick1 (i := 3) (l1 := #[true, true, true, true, true, true, true, false, false]) (by kernel_rfl) (by kernel_rfl) (by kernel_rfl) ?_
      refine L_call rfl Try.fun22 rfl (blank_ok k n (by omega) (by omega) (by omega) _) ?_; rintro _ w ⟨A, Bk, vs, rfl, hs', hA, hB, hvl, hv⟩; have hA2 := Nat.le_trans hs.size hA; have hB2 := Nat.le_trans hs.size hB; replace hs := hs.call hs' (Own.cons hA (Own.cons hB Own.nil))
      refine RL_sg ?_
      refine SG_pick1 (i := 7) (l1 := #[true, true, true, true, true, true, true, true, false]) (by kernel_rfl) (by kernel_rfl) (by kernel_rfl) ?_
      refine L_assign rfl rfl ?_
      refine RL_sg ?_
      refine SG_env (fin A Bk vs b45 w ⟨by first | exact hs | exact hs.mem_perm (List.perm_append_comm (l₁ := [_])), ⟨hA2, hB2, hb45⟩, hvl, hv⟩) (looks_cons rfl (looks_cons rfl (looks_cons rfl (looks_cons rfl (looks_cons rfl looks_nil)))))
  · clear hs
    intro A Bk vs X w hI
    show SG _ _ _ _ _ _ [(0, .slice a k cp), (1, .slice b k cw), (6, .int .i64 n), (9, .slice (some ⟨Bk, 0, none⟩) k k), (45, .slice (some ⟨X, 0, none⟩) k k)] w
    obtain ⟨hs, ⟨hA, hB, hX⟩, hvl, hv⟩ := hI
    replace hs : HS w0 w [(A, Row 28 (cl (List.replicate (k * n) (0, 0)))), (Bk, Row 27 vs), (X, Row 28 (cl (List.replicate k (0, 0))))] := by simpa [cl] using hs
    have hO : ∀ {o1 o2 o3 : Obj}, Own w0 [(A, o1), (Bk, o2), (X, o3)] := Own.cons hA (Own.cons hB (Own.cons hX Own.nil))
    refine SG_pick1 (i := 8) (l1 := #[true, true, true, true, true, true, true, true, true]) (by kernel_rfl) (by kernel_rfl) (by kernel_rfl) ?_
    refine L_assign rfl rfl ?_
    refine RL_sg ?_
    refine SG_end (by kernel_rfl) ?_
    refine Nx_then ?_
    refine W_seq ?_
    refine W_seq ?_
    refine W_region ?_
    refine L_move rfl rfl ?_
    refine L_move rfl rfl ?_
    refine RL_then ?_
    refine W_block ?_
    refine W_loop4 (fun (g : Nat) (zs : CL) (xs : CL) (w : World) => [(0, .slice a k cp), (1, .slice b k cw), (9, .slice (some ⟨Bk, 0, none⟩) k k), (10, .slice (some ⟨X, 0, none⟩) k k), (46, .int .i64 n), (47, .int .i64 g)]) (fun (g : Nat) (zs : CL) (xs : CL) (w : World) => w) (fun (g : Nat) (zs : CL) (xs : CL) (w : World) => (g ≤ n) ∧ (zs.length = k * n ∧ xs.length = k) ∧ (∀ q, q < g → DopR rows ws zs k n q) ∧ (HS w0 w [(A, Row 28 (cl zs)), (Bk, Row 27 vs), (X, Row 28 (cl xs))])) (fun (g : Nat) (zs : CL) (xs : CL) (w : World) => n - g) (0) (List.replicate (k * n) (0, 0)) (List.replicate k (0, 0)) (w) (is := [0, 1, 9, 10, 46, 47]) rfl rfl ?_ ?_
    · exact ⟨Nat.zero_le _, ⟨by simp, by simp⟩, fun _ h => absurd h (Nat.not_lt_zero _), hs⟩
    · clear hs
      intro g zs xs w hI
      show W _ _ _ _ [(0, .slice a k cp), (1, .slice b k cw), (9, .slice (some ⟨Bk, 0, none⟩) k k), (10, .slice (some ⟨X, 0, none⟩) k k), (46, .int .i64 n), (47, .int .i64 g)] w
      obtain ⟨hg, ⟨hzl, hxl⟩, hD, hs⟩ := hI
      by_cases hlt : g < n
      · refine W_seq ?_
        refine W_region ?_
        first | refine L_lss rfl rfl rfl (dtrue (by omega)) ?_ | refine L_lss rfl rfl rfl (dfalse (by omega)) ?_ | refine L_lss rfl rfl rfl rfl ?_
        refine RL_then ?_
        refine W_seq ?_
        refine W_if_true rfl ?_
        refine W_skip' ?_
        refine Nx_then ?_
        refine W_seq ?_
        refine W_block ?_
        refine W_seq ?_
        refine W_region ?_
        refine L_move rfl rfl ?_
        refine L_assign rfl rfl ?_
        refine RL_then ?_
        refine W_seq ?_
        refine W_seq ?_
        refine W_region ?_
        refine L_move rfl rfl ?_
        refine L_len rfl Try.underlying39 rfl ?_
        refine L_move rfl rfl ?_
        refine RL_then ?_
        refine W_block ?_
        refine W_loop3 (fun (p : Nat) (xs : CL) (w : World) => [(0, .slice a k cp), (1, .slice b k cw), (9, .slice (some ⟨Bk, 0, none⟩) k k), (10, .slice (some ⟨X, 0, none⟩) k k), (11, .int .i64 g), (46, .int .i64 n), (47, .int .i64 g), (50, .slice a k cp), (51, .int .i64 k), (52, .int .i64 p)]) (fun (p : Nat) (xs : CL) (w : World) => w) (fun (p : Nat) (xs : CL) (w : World) => (p ≤ k) ∧ (xs.length = k) ∧ (∀ q, q < p → cn (xs.getD q (0, 0)).1 = fop .mul ((rows.getD q []).getD g (0, 0)).1 (ws.getD q 0) ∧ cn (xs.getD q (0, 0)).2 = fop .mul ((rows.getD q []).getD g (0, 0)).2 (ws.getD q 0)) ∧ (HS w0 w [(A, Row 28 (cl zs)), (Bk, Row 27 vs), (X, Row 28 (cl xs))])) (fun (p : Nat) (xs : CL) (w : World) => k - p) (0) (xs) (w) (is := [0, 1, 9, 10, 11, 46, 47, 50, 51, 52]) rfl rfl ?_ ?_
        · exact ⟨Nat.zero_le _, hxl, fun _ h => absurd h (Nat.not_lt_zero _), hs⟩
        · clear hs hxl
          intro p xs w hI
          show W _ _ _ _ [(0, .slice a k cp), (1, .slice b k cw), (9, .slice (some ⟨Bk, 0, none⟩) k k), (10, .slice (some ⟨X, 0, none⟩) k k), (11, .int .i64 g), (46, .int .i64 n), (47, .int .i64 g), (50, .slice a k cp), (51, .int .i64 k), (52, .int .i64 p)] w
          obtain ⟨hp, hxl, hx, hs⟩ := hI
          by_cases hlt2 : p < k
          · obtain ⟨ai, ci, g1, g2, g3⟩ := hr.row p (by omega)
            have hrp := hun p hlt2
            rw [hrp] at g1 g2
            have ha1 := hr.sl.ao (by rw [hr.len]; omega)
            have ha2 := g3.ao (by rw [cl_length]; omega)
            have ha3 := hw.ao (by rw [fl_length]; omega)
            refine W_seq ?_
            refine W_region ?_
            first | refine L_lss rfl rfl rfl (dtrue (by omega)) ?_ | refine L_lss rfl rfl rfl (dfalse (by omega)) ?_ | refine L_lss rfl rfl rfl rfl ?_
            refine RL_then ?_
            refine W_seq ?_
            refine W_if_true rfl ?_
            refine W_skip' ?_
            refine Nx_then ?_
            refine W_seq ?_
            refine W_block ?_
            refine W_seq ?_
            refine W_region ?_
            refine L_move rfl rfl ?_
            refine L_idx1 rfl Try.underlying39 Try.ti27 rfl rfl (by with_reducible first | exact natc_k _ | exact natc_a1 _ | exact natc_0 | exact natc_1 | exact natc_2 | exact natc_s1 _ (by omega) | exact natc_a2 _ | exact natc_add _ _ | exact natc_mul _ _ | exact natc (by omega)) (by omega) ha1 ?_
            refine L_load rfl Try.one27 rfl (by exact (hr.sl.old hs hO).get g1) ?_
            refine L_assign rfl rfl ?_
            refine L_assign rfl rfl ?_
            refine RL_then ?_
            refine W_pht [0, 1, 2, 3, 4, 6, 7, 8] [5, 9] [10, 11, 12] (fun _ _ _ => False) Try.mixed (by kernel_rfl) (fun _ _ _ _ _ h => h) hs ?_
            refine PL_val rfl (fun w => R_move rfl) ?_
            refine PL_val rfl (fun w => R_move rfl) ?_
            refine PL_val rfl (fun w => R_move rfl) ?_
            refine PL_val rfl (fun w => R_move rfl) ?_
            refine PL_val rfl (fun w => R_idx1 Try.underlying27 Try.ti28 rfl rfl (by with_reducible first | exact natc_k _ | exact natc_a1 _ | exact natc_0 | exact natc_1 | exact natc_2 | exact natc_s1 _ (by omega) | exact natc_a2 _ | exact natc_add _ _ | exact natc_mul _ _ | exact natc (by omega)) (by omega) ha2) ?_
            refine PL_val rfl (fun w => R_move rfl) ?_
            refine PL_val rfl (fun w => R_move rfl) ?_
            refine PL_val rfl (fun w => R_idx1 Try.underlying44 Try.ti25 rfl rfl (by with_reducible first | exact natc_k _ | exact natc_a1 _ | exact natc_0 | exact natc_1 | exact natc_2 | exact natc_s1 _ (by omega) | exact natc_a2 _ | exact natc_add _ _ | exact natc_mul _ _ | exact natc (by omega)) (by omega) ha3) ?_
            refine PL_end ?_
            refine HL_val rfl (fun w hs => R_load Try.one28 rfl (by exact (g3.old hs hO).get (cl_get (by omega)))) ?_
            refine HL_val rfl (fun w hs => R_load Try.one25 rfl (by exact (hw.old hs hO).get (fl_get (by omega)))) ?_
            refine HL_tail ?_
            intro w hs
            refine L_call rfl Try.fun17 rfl (scale_ok _ _ _ w) ?_
            rintro _ w1 ⟨re, im, rfl, hs', hre, him⟩
            replace hs := hs.nil hs'
            clear hs'
            refine L_idx1 rfl Try.underlying27 Try.ti28 rfl rfl (by with_reducible first | exact natc_k _ | exact natc_a1 _ | exact natc_0 | exact natc_1 | exact natc_2 | exact natc_s1 _ (by omega) | exact natc_a2 _ | exact natc_add _ _ | exact natc_mul _ _ | exact natc (by omega)) (by omega) rfl ?_
            refine L_store hs (i := 2) rfl Try.ti28 rfl rfl (by first | rfl | exact add_lit0 _ _ | exact Addr.add_lit ..) (by simp; omega) rfl ?_
            intro w hs
            try dsimp only [List.set_cons_succ, List.set_cons_zero, List.cons_append, List.nil_append] at hs
            refine RL_nil' ?_
            refine Nx_block ?_
            refine Nx_then ?_
            refine W_region ?_
            first | refine L_add rfl rfl rfl (wrp_i64 (by omega)) ?_ | refine L_add rfl rfl rfl rfl ?_
            refine L_move rfl rfl ?_
            refine RL_nil' ?_
            rw [cl_set1] at hs
            refine Nx_loopP (p + 1, xs.set p (re, im), _) (is := [0, 1, 9, 10, 11, 46, 47, 50, 51, 52]) (I' := (fun (p : Nat) (xs : CL) (w : World) => (p ≤ k) ∧ (xs.length = k) ∧ (∀ q, q < p → cn (xs.getD q (0, 0)).1 = fop .mul ((rows.getD q []).getD g (0, 0)).1 (ws.getD q 0) ∧ cn (xs.getD q (0, 0)).2 = fop .mul ((rows.getD q []).getD g (0, 0)).2 (ws.getD q 0)) ∧ (HS w0 w [(A, Row 28 (cl zs)), (Bk, Row 27 vs), (X, Row 28 (cl xs))])) (p + 1) (xs.set p (re, im)) (_)) rfl rfl rfl ?_ ?_
            · refine ⟨by omega, by simp [hxl], fun q hq => ?_, hs⟩
              rw [czset (by omega)]
              by_cases hqp : q = p
              · rw [if_pos hqp, hqp]; exact ⟨hre, him⟩
              · rw [if_neg hqp]; exact hx q (by omega)
            · omega
          · obtain rfl : k = p := by omega
            refine W_seq ?_
            refine W_region ?_
            first | refine L_lss rfl rfl rfl (dtrue (by omega)) ?_ | refine L_lss rfl rfl rfl (dfalse (by omega)) ?_ | refine L_lss rfl rfl rfl rfl ?_
            refine RL_then ?_
            refine W_seq ?_
            refine W_if_false rfl ?_
            refine W_exit' ?_
            refine Ex_then_exit ?_
            refine Ex_loop_exit ?_
            refine Ex_block_hit ?_
            refine Nx_then ?_
            refine W_seq ?_
            refine W_region ?_
            refine L_move rfl rfl ?_
            refine L_call rfl Try.fun23 rfl (slow_ok (some ⟨X, 0, none⟩) k k xs w (SlC.of_row (sp := []) (by rw [List.append_nil]; exact hs.get (i := 2) rfl)) hxl (by omega)) ?_
            rintro _ w1 ⟨go, ys, N, rfl, hs', hgo, hN, hyl, hS⟩
            have hgo0 := Nat.le_trans hs.size hgo
            have hN0 := hN.le hs.size
            replace hs := hs.call hs' (Own.cons hgo hN)
            clear hs'
            replace hs : HS w0 w1 (([(A, Row 28 (cl zs)), (Bk, Row 27 vs), (go, Row 28 (cl ys)), (X, Row 28 (cl xs))]) ++ N) := hs.mem_perm (perm_by fun c => by simp only [List.map_append, List.map_cons, List.map_nil, List.sum_append, List.sum_cons, List.sum_nil] <;> omega)
            replace hs := hs.dropR hN0
            refine L_move rfl rfl ?_
            refine L_extract rfl rfl rfl ?_
            refine L_extract rfl rfl rfl ?_
            refine L_assign rfl rfl ?_
            refine L_assign rfl rfl ?_
            refine RL_then ?_
            refine W_seq ?_
            refine W_region ?_
            refine L_move rfl rfl ?_
            refine L_len rfl Try.underlying27 rfl ?_
            refine L_move rfl rfl ?_
            refine RL_then ?_
            refine W_block ?_
            refine W_loop3 (fun (p : Nat) (zs' : CL) (w : World) => [(0, .slice a k cp), (1, .slice b k cw), (9, .slice (some ⟨Bk, 0, none⟩) k k), (10, .slice (some ⟨X, 0, none⟩) k k), (11, .int .i64 g), (46, .int .i64 n), (47, .int .i64 g), (75, .slice (some ⟨go, 0, none⟩) k k), (76, .int .i64 k), (77, .int .i64 p)]) (fun (p : Nat) (zs' : CL) (w : World) => w) (fun (p : Nat) (zs' : CL) (w : World) => (p ≤ k) ∧ (zs'.length = k * n) ∧ (∀ q h, q < k → h < n → zs'.getD (q * n + h) (0, 0) = if h = g ∧ q < p then ys.getD q (0, 0) else zs.getD (q * n + h) (0, 0)) ∧ (HS w0 w [(A, Row 28 (cl zs')), (Bk, Row 27 vs), (go, Row 28 (cl ys)), (X, Row 28 (cl xs))])) (fun (p : Nat) (zs' : CL) (w : World) => k - p) (0) (zs) (w1) (is := [0, 1, 9, 10, 11, 46, 47, 75, 76, 77]) rfl rfl ?_ ?_
            · exact ⟨Nat.zero_le _, hzl, fun q h _ _ => by rw [if_neg (fun h => absurd h.2 (Nat.not_lt_zero _))], hs⟩
            · clear hs hp
              intro p zs' w hI
              show W _ _ _ _ [(0, .slice a k cp), (1, .slice b k cw), (9, .slice (some ⟨Bk, 0, none⟩) k k), (10, .slice (some ⟨X, 0, none⟩) k k), (11, .int .i64 g), (46, .int .i64 n), (47, .int .i64 g), (75, .slice (some ⟨go, 0, none⟩) k k), (76, .int .i64 k), (77, .int .i64 p)] w
              obtain ⟨hp, hzl', hz', hs⟩ := hI
              by_cases hlt2 : p < k
              · have hb1 := hv p hlt2
                have hpg := idx_lt hlt2 hlt
                have ha4 := slA_at (A := A) (q := p) (show 0 < n by omega)
                have hb2 : vs[p]? = some (.slice (some ⟨A, p * n, none⟩) n n) := by rw [hb1]; unfold bval; rw [ha4]
                refine W_seq ?_
                refine W_region ?_
                first | refine L_lss rfl rfl rfl (dtrue (by omega)) ?_ | refine L_lss rfl rfl rfl (dfalse (by omega)) ?_ | refine L_lss rfl rfl rfl rfl ?_
                refine RL_then ?_
                refine W_seq ?_
                refine W_if_true rfl ?_
                refine W_skip' ?_
                refine Nx_then ?_
                refine W_seq ?_
                refine W_block ?_
                refine W_seq ?_
                refine W_region ?_
                refine L_move rfl rfl ?_
                refine L_idx1 rfl Try.underlying27 Try.ti28 rfl rfl (by with_reducible first | exact natc_k _ | exact natc_a1 _ | exact natc_0 | exact natc_1 | exact natc_2 | exact natc_s1 _ (by omega) | exact natc_a2 _ | exact natc_add _ _ | exact natc_mul _ _ | exact natc (by omega)) (by omega) rfl ?_
                refine L_load rfl Try.one28 rfl (by exact hs.cellA (i := 2) rfl (cl_get (by omega))) ?_
                refine L_assign rfl rfl ?_
                refine L_assign rfl rfl ?_
                refine RL_then ?_
                refine W_region ?_
                refine L_move rfl rfl ?_
                refine L_move rfl rfl ?_
                refine L_idx1 rfl Try.underlying39 Try.ti27 rfl rfl (by with_reducible first | exact natc_k _ | exact natc_a1 _ | exact natc_0 | exact natc_1 | exact natc_2 | exact natc_s1 _ (by omega) | exact natc_a2 _ | exact natc_add _ _ | exact natc_mul _ _ | exact natc (by omega)) (by omega) rfl ?_
                refine L_load rfl Try.one27 rfl (by exact hs.cellA (i := 1) rfl hb2) ?_
                refine L_move rfl rfl ?_
                refine L_move rfl rfl ?_
                refine L_idx1 rfl Try.underlying27 Try.ti28 rfl rfl (by with_reducible first | exact natc_k _ | exact natc_a1 _ | exact natc_0 | exact natc_1 | exact natc_2 | exact natc_s1 _ (by omega) | exact natc_a2 _ | exact natc_add _ _ | exact natc_mul _ _ | exact natc (by omega)) (by omega) rfl ?_
                refine L_store hs (i := 0) rfl Try.ti28 rfl rfl (by first | rfl | exact add_lit0 _ _ | exact Addr.add_lit ..) (by rw [cl_length]; omega) rfl ?_
                intro w hs
                try dsimp only [List.set_cons_succ, List.set_cons_zero, List.cons_append, List.nil_append] at hs
                refine RL_nil' ?_
                refine Nx_block ?_
                refine Nx_then ?_
                refine W_region ?_
                first | refine L_add rfl rfl rfl (wrp_i64 (by omega)) ?_ | refine L_add rfl rfl rfl rfl ?_
                refine L_move rfl rfl ?_
                refine RL_nil' ?_
                rw [cl_set1] at hs
                refine Nx_loopP (p + 1, zs'.set (p * n + g) (ys.getD p (0, 0)), _) (is := [0, 1, 9, 10, 11, 46, 47, 75, 76, 77]) (I' := (fun (p : Nat) (zs' : CL) (w : World) => (p ≤ k) ∧ (zs'.length = k * n) ∧ (∀ q h, q < k → h < n → zs'.getD (q * n + h) (0, 0) = if h = g ∧ q < p then ys.getD q (0, 0) else zs.getD (q * n + h) (0, 0)) ∧ (HS w0 w [(A, Row 28 (cl zs')), (Bk, Row 27 vs), (go, Row 28 (cl ys)), (X, Row 28 (cl xs))])) (p + 1) (zs'.set (p * n + g) (ys.getD p (0, 0))) (_)) rfl rfl rfl ?_ ?_
                · refine ⟨by omega, by simp [hzl'], fun q h hq hh => ?_, hs⟩
                  rw [czset (by omega)]
                  by_cases he : q * n + h = p * n + g
                  · obtain ⟨rfl, rfl⟩ := idx_inj hh hlt he
                    rw [if_pos rfl, if_pos ⟨rfl, by omega⟩]
                  · rw [if_neg he, hz' q h hq hh]
                    by_cases hg2 : h = g
                    · subst hg2
                      have hqp : q ≠ p := fun hqp => he (by rw [hqp])
                      by_cases hqp2 : q < p
                      · rw [if_pos ⟨rfl, hqp2⟩, if_pos ⟨rfl, by omega⟩]
                      · rw [if_neg (fun h => hqp2 h.2), if_neg (fun h => by have := h.2; omega)]
                    · rw [if_neg (fun h => hg2 h.1), if_neg (fun h => hg2 h.1)]
                · omega
              · obtain rfl : k = p := by omega
                replace hs : HS w0 w (([(A, Row 28 (cl zs')), (Bk, Row 27 vs), (X, Row 28 (cl xs))]) ++ [(go, Row 28 (cl ys))]) := hs.mem_perm (perm_by fun c => by simp only [List.map_append, List.map_cons, List.map_nil, List.sum_append, List.sum_cons, List.sum_nil] <;> omega)
                replace hs := hs.dropR (Own.cons hgo0 Own.nil)
                refine W_seq ?_
                refine W_region ?_
                first | refine L_lss rfl rfl rfl (dtrue (by omega)) ?_ | refine L_lss rfl rfl rfl (dfalse (by omega)) ?_ | refine L_lss rfl rfl rfl rfl ?_
                refine RL_then ?_
                refine W_seq ?_
                refine W_if_false rfl ?_
                refine W_exit' ?_
                refine Ex_then_exit ?_
                refine Ex_loop_exit ?_
                refine Ex_block_hit ?_
                refine Nx_block ?_
                refine Nx_then ?_
                refine W_region ?_
                first | refine L_add rfl rfl rfl (wrp_i64 (by omega)) ?_ | refine L_add rfl rfl rfl rfl ?_
                refine L_move rfl rfl ?_
                refine RL_nil' ?_
                refine Nx_loopP (g + 1, zs', xs, _) (is := [0, 1, 9, 10, 46, 47]) (I' := (fun (g : Nat) (zs : CL) (xs : CL) (w : World) => (g ≤ n) ∧ (zs.length = k * n ∧ xs.length = k) ∧ (∀ q, q < g → DopR rows ws zs k n q) ∧ (HS w0 w [(A, Row 28 (cl zs)), (Bk, Row 27 vs), (X, Row 28 (cl xs))])) (g + 1) (zs') (xs) (_)) rfl rfl rfl ?_ ?_
                · refine ⟨by omega, ⟨hzl', hxl⟩, fun q hq => ?_, hs⟩
                  by_cases hqg : q = g
                  · subst hqg
                    exact ⟨xs, ys, hxl, hyl, hx, hS, fun r hr => by rw [hz' r q hr hlt, if_pos ⟨rfl, hr⟩]⟩
                  · obtain ⟨xs1, ys1, x1, x2, x3, x4, x5⟩ := hD q (by omega)
                    exact ⟨xs1, ys1, x1, x2, x3, x4, fun r hr => by rw [hz' r q hr (by omega), if_neg (fun h => hqg h.1)]; exact x5 r hr⟩
                · omega
      · obtain rfl : n = g := by omega
        replace hs := HS.dropR (L := [(A, Row 28 (cl zs)), (Bk, Row 27 vs)]) (M := [(X, Row 28 (cl xs))]) hs (Own.cons hX Own.nil)
        refine W_seq ?_
        refine W_region ?_
        first | refine L_lss rfl rfl rfl (dtrue (by omega)) ?_ | refine L_lss rfl rfl rfl (dfalse (by omega)) ?_ | refine L_lss rfl rfl rfl rfl ?_
        refine RL_then ?_
        refine W_seq ?_
        refine W_if_false rfl ?_
        refine W_exit' ?_
        refine Ex_then_exit ?_
        refine Ex_loop_exit ?_
        refine Ex_block_hit ?_
        refine Nx_then ?_
        refine W_seq ?_
        refine W_region ?_
        refine L_move rfl rfl ?_
        refine L_assign rfl rfl ?_
        refine L_assign rfl rfl ?_
        refine RL_then ?_
        refine W_ret' ?_
        refine Ex_done2 rfl rfl rfl ?_
        exact ⟨_, rfl, A, Bk, vs, zs, rfl, hs, hA, hB, hvl, hv, hzl, hD⟩
end Go.Proofs.Ytihhloeakenfgaa
