/-
  A part of the proof: what functions that the statement reaches do, or a plain law on what they do. Each theorem holds under its own premises alone.
-/
import Derived.Test.YtdllakfojligjaaTTC1
import Derived.Test.YtdllakfojligjaaKitY
namespace Go.Proofs.Ytdllakfojligjaa
open Go Go.Lk
/-! ### TopTracks: the same floats, states; what may be -/
theorem sameF_ok (x : Nat) (w0 : World) : Ret Try.prog 15 [.float .f64 x, .float .f64 x] w0 fun v w' => v = .bool true ∧ w' = w0 := by
 refine calls_of_W Try.func15 rfl rfl rfl ?_
 refine W_seq ?_
 refine W_region ?_
 refine L_assign rfl rfl ?_
 refine RL_then ?_
 refine W_seq ?_
 refine W_region ?_
 refine L_move rfl rfl ?_
 refine RL_val rfl (R_f64bits Try.ext46 rfl) ?_
 refine L_move rfl rfl ?_
 refine RL_val rfl (R_f64bits Try.ext46 rfl) ?_
 first | refine L_eql rfl rfl rfl (dtrue (by omega)) ?_ | refine L_eql rfl rfl rfl (dfalse (by omega)) ?_ | refine L_eql rfl rfl rfl rfl ?_
 refine L_move rfl rfl ?_
 first | (refine RL_want rfl rfl ?_; refine L_move rfl rfl ?_) | refine RL_skip rfl rfl rfl rfl ?_ | refine RL_skipU rfl rfl rfl ?_
 first | (refine RL_want rfl rfl ?_; refine L_move rfl rfl ?_) | refine RL_skip rfl rfl rfl rfl ?_ | refine RL_skipU rfl rfl rfl ?_
 first | (refine RL_want rfl rfl ?_; refine L_fcmp rfl rfl rfl (fun _ => by rw [binOp_float_cmp_neq]; rfl) ?_) | refine RL_skip rfl rfl rfl rfl ?_ | refine RL_skipU rfl rfl rfl ?_
 first | (refine RL_want rfl rfl ?_; refine L_move rfl rfl ?_) | refine RL_skip rfl rfl rfl rfl ?_ | refine RL_skipU rfl rfl rfl ?_
 first | (refine RL_want rfl rfl ?_; refine L_move rfl rfl ?_) | refine RL_skip rfl rfl rfl rfl ?_ | refine RL_skipU rfl rfl rfl ?_
 first | (refine RL_want rfl rfl ?_; refine L_move rfl rfl ?_) | refine RL_skip rfl rfl rfl rfl ?_ | refine RL_skipU rfl rfl rfl ?_
 first | (refine RL_want rfl rfl ?_; refine L_fcmp rfl rfl rfl (fun _ => by rw [binOp_float_cmp_neq]; rfl) ?_) | refine RL_skip rfl rfl rfl rfl ?_ | refine RL_skipU rfl rfl rfl ?_
 first | (refine RL_want rfl rfl ?_; (first | refine L_pick_t rfl rfl rfl ?_ | refine L_pick_f rfl rfl rfl ?_)) | refine RL_skip rfl rfl rfl rfl ?_ | refine RL_skipU rfl rfl rfl ?_
 first | refine L_pick_t rfl rfl rfl ?_ | refine L_pick_f rfl rfl rfl ?_
 refine L_assign rfl rfl ?_
 refine RL_then ?_
 refine W_ret' ?_
 refine Ex_done1 rfl rfl ?_
 exact ⟨_, rfl, rfl, rfl⟩
theorem sameS_ok (s : Stt) (w0 : World) : Ret Try.prog 17 [.agg s.cells.toArray, .agg s.cells.toArray] w0 fun v w' => v = .bool true ∧ HS w0 w' [] := by
 refine Ret.start fun w hs => ?_
 refine calls_of_W Try.func17 rfl rfl rfl ?_
 refine W_seq ?_
 refine W_region ?_
 refine L_box rfl hs rfl ?_
 intro b2 w hb2 hnb2 hs
 try dsimp only [List.set_cons_succ, List.set_cons_zero, List.cons_append, List.nil_append] at hs
 refine L_box rfl hs rfl ?_
 intro b3 w hb3 hnb3 hs
 try dsimp only [List.set_cons_succ, List.set_cons_zero, List.cons_append, List.nil_append] at hs
 replace hs : HS w0 w [(b2, Row 46 s.cells), (b3, Row 46 s.cells)] := hs
 refine L_assign rfl rfl ?_
 refine RL_then ?_
 refine W_seq ?_
 refine W_region ?_
 refine L_fieldAddr rfl (off := 0) Try.underlying46 rfl rfl Try.ti23 rfl ?_
 refine L_load rfl Try.one23 rfl (by first | exact hs.cellA (i := 0) rfl rfl | exact hs.cellA (i := 1) rfl rfl | exact hs.cell (i := 0) rfl rfl | exact hs.cell (i := 1) rfl rfl) ?_
 refine L_fieldAddr rfl (off := 0) Try.underlying46 rfl rfl Try.ti23 rfl ?_
 refine L_load rfl Try.one23 rfl (by first | exact hs.cellA (i := 0) rfl rfl | exact hs.cellA (i := 1) rfl rfl | exact hs.cell (i := 0) rfl rfl | exact hs.cell (i := 1) rfl rfl) ?_
 refine L_call rfl Try.fun15 rfl (sameF_ok s.x w) ?_
 rintro _ w ⟨rfl, rfl⟩
 refine L_move rfl rfl ?_
 first | (refine RL_want rfl rfl ?_; refine L_fieldAddr rfl (off := 1) Try.underlying46 rfl rfl Try.ti23 rfl ?_) | refine RL_skip rfl rfl rfl rfl ?_ | refine RL_skipU rfl rfl rfl ?_
 first | (refine RL_want rfl rfl ?_; refine L_load rfl Try.one23 rfl (by first | exact hs.cellA (i := 0) rfl rfl | exact hs.cellA (i := 1) rfl rfl | exact hs.cell (i := 0) rfl rfl | exact hs.cell (i := 1) rfl rfl) ?_) | refine RL_skip rfl rfl rfl rfl ?_ | refine RL_skipU rfl rfl rfl ?_
 first | (refine RL_want rfl rfl ?_; refine L_fieldAddr rfl (off := 1) Try.underlying46 rfl rfl Try.ti23 rfl ?_) | refine RL_skip rfl rfl rfl rfl ?_ | refine RL_skipU rfl rfl rfl ?_
 first | (refine RL_want rfl rfl ?_; refine L_load rfl Try.one23 rfl (by first | exact hs.cellA (i := 0) rfl rfl | exact hs.cellA (i := 1) rfl rfl | exact hs.cell (i := 0) rfl rfl | exact hs.cell (i := 1) rfl rfl) ?_) | refine RL_skip rfl rfl rfl rfl ?_ | refine RL_skipU rfl rfl rfl ?_
 refine RL_want rfl rfl ?_
 refine L_call rfl Try.fun15 rfl (sameF_ok s.v w) ?_
 rintro _ w ⟨rfl, rfl⟩
 first | refine L_pick_t rfl rfl rfl ?_ | refine L_pick_f rfl rfl rfl ?_
 refine L_move rfl rfl ?_
 first | (refine RL_want rfl rfl ?_; refine L_fieldAddr rfl (off := 2) Try.underlying46 rfl rfl Try.ti23 rfl ?_) | refine RL_skip rfl rfl rfl rfl ?_ | refine RL_skipU rfl rfl rfl ?_
 first | (refine RL_want rfl rfl ?_; refine L_load rfl Try.one23 rfl (by first | exact hs.cellA (i := 0) rfl rfl | exact hs.cellA (i := 1) rfl rfl | exact hs.cell (i := 0) rfl rfl | exact hs.cell (i := 1) rfl rfl) ?_) | refine RL_skip rfl rfl rfl rfl ?_ | refine RL_skipU rfl rfl rfl ?_
 first | (refine RL_want rfl rfl ?_; refine L_fieldAddr rfl (off := 2) Try.underlying46 rfl rfl Try.ti23 rfl ?_) | refine RL_skip rfl rfl rfl rfl ?_ | refine RL_skipU rfl rfl rfl ?_
 first | (refine RL_want rfl rfl ?_; refine L_load rfl Try.one23 rfl (by first | exact hs.cellA (i := 0) rfl rfl | exact hs.cellA (i := 1) rfl rfl | exact hs.cell (i := 0) rfl rfl | exact hs.cell (i := 1) rfl rfl) ?_) | refine RL_skip rfl rfl rfl rfl ?_ | refine RL_skipU rfl rfl rfl ?_
 refine RL_want rfl rfl ?_
 refine L_call rfl Try.fun15 rfl (sameF_ok s.p w) ?_
 rintro _ w ⟨rfl, rfl⟩
 first | refine L_pick_t rfl rfl rfl ?_ | refine L_pick_f rfl rfl rfl ?_
 refine L_move rfl rfl ?_
 first | (refine RL_want rfl rfl ?_; refine L_fieldAddr rfl (off := 3) Try.underlying46 rfl rfl Try.ti23 rfl ?_) | refine RL_skip rfl rfl rfl rfl ?_ | refine RL_skipU rfl rfl rfl ?_
 first | (refine RL_want rfl rfl ?_; refine L_load rfl Try.one23 rfl (by first | exact hs.cellA (i := 0) rfl rfl | exact hs.cellA (i := 1) rfl rfl | exact hs.cell (i := 0) rfl rfl | exact hs.cell (i := 1) rfl rfl) ?_) | refine RL_skip rfl rfl rfl rfl ?_ | refine RL_skipU rfl rfl rfl ?_
 first | (refine RL_want rfl rfl ?_; refine L_fieldAddr rfl (off := 3) Try.underlying46 rfl rfl Try.ti23 rfl ?_) | refine RL_skip rfl rfl rfl rfl ?_ | refine RL_skipU rfl rfl rfl ?_
 first | (refine RL_want rfl rfl ?_; refine L_load rfl Try.one23 rfl (by first | exact hs.cellA (i := 0) rfl rfl | exact hs.cellA (i := 1) rfl rfl | exact hs.cell (i := 0) rfl rfl | exact hs.cell (i := 1) rfl rfl) ?_) | refine RL_skip rfl rfl rfl rfl ?_ | refine RL_skipU rfl rfl rfl ?_
 refine RL_want rfl rfl ?_
 refine L_call rfl Try.fun15 rfl (sameF_ok s.q w) ?_
 rintro _ w ⟨rfl, rfl⟩
 first | refine L_pick_t rfl rfl rfl ?_ | refine L_pick_f rfl rfl rfl ?_
 refine L_move rfl rfl ?_
 first | (refine RL_want rfl rfl ?_; refine L_fieldAddr rfl (off := 4) Try.underlying46 rfl rfl Try.ti23 rfl ?_) | refine RL_skip rfl rfl rfl rfl ?_ | refine RL_skipU rfl rfl rfl ?_
 first | (refine RL_want rfl rfl ?_; refine L_load rfl Try.one23 rfl (by first | exact hs.cellA (i := 0) rfl rfl | exact hs.cellA (i := 1) rfl rfl | exact hs.cell (i := 0) rfl rfl | exact hs.cell (i := 1) rfl rfl) ?_) | refine RL_skip rfl rfl rfl rfl ?_ | refine RL_skipU rfl rfl rfl ?_
 first | (refine RL_want rfl rfl ?_; refine L_fieldAddr rfl (off := 4) Try.underlying46 rfl rfl Try.ti23 rfl ?_) | refine RL_skip rfl rfl rfl rfl ?_ | refine RL_skipU rfl rfl rfl ?_
 first | (refine RL_want rfl rfl ?_; refine L_load rfl Try.one23 rfl (by first | exact hs.cellA (i := 0) rfl rfl | exact hs.cellA (i := 1) rfl rfl | exact hs.cell (i := 0) rfl rfl | exact hs.cell (i := 1) rfl rfl) ?_) | refine RL_skip rfl rfl rfl rfl ?_ | refine RL_skipU rfl rfl rfl ?_
 refine RL_want rfl rfl ?_
 refine L_call rfl Try.fun15 rfl (sameF_ok s.r w) ?_
 rintro _ w ⟨rfl, rfl⟩
 first | refine L_pick_t rfl rfl rfl ?_ | refine L_pick_f rfl rfl rfl ?_
 refine L_assign rfl rfl ?_
 refine RL_then ?_
 refine W_ret' ?_
 refine Ex_done1 rfl rfl ?_
 exact ⟨_, rfl, rfl, hs.forget (Own.cons hb2 (Own.cons hb3 Own.nil))⟩
structure MayOk (s : Stt) : Prop where
 fin : ∀ i, i < 5 → ∃ x v, s.cells[i]? = some (.float .f64 x) ∧ FV x v
 p : ∃ v, FV s.p v ∧ 0 ≤ v
 r : ∃ v, FV s.r v ∧ 0 ≤ v
theorem fin1_of {x : Nat} {v : Int} (h : FV x v) : Fin1 x := by
 refine ⟨fv_lt64 h, by rw [h.order h, Int.compare_eq_eq.2 rfl], fun h1 => ?_⟩
 have h2 := h.abs
 have h3 := h2.gtt (FV.nat (r := 9218868437227405311) (by decide))
 rw [h1] at h3
 have h4 : ((rv 9218868437227405311 : Nat) : Int) < (v.natAbs : Int) := of_decide_eq_true h3.symm
 obtain ⟨s, r, _, hr, hv⟩ := h2
 have h5 : rv r ≤ rv 9218868437227405311 := rv_le.2 (by omega)
 generalize rv 9218868437227405311 = big at h4 h5
 cases s <;> simp at hv <;> omega
theorem may_ok (s : Stt) (h : MayOk s) (w0 : World) : Ret Try.prog 14 [.agg s.cells.toArray] w0 fun v w' => v = .bool true ∧ HS w0 w' [] := by
 refine Ret.start fun w hs => ?_
 refine calls_of_W Try.func14 rfl rfl rfl ?_
 refine W_seq ?_
 refine W_region ?_
 refine L_box rfl hs rfl ?_
 intro b1 w hb1 hnb1 hs
 try dsimp only [List.set_cons_succ, List.set_cons_zero, List.cons_append, List.nil_append] at hs
 replace hs : HS w0 w [(b1, Row 46 s.cells)] := hs
 have hb1o : Own w0 [(b1, Row 46 s.cells)] := Own.cons hb1 Own.nil
 refine L_assign rfl rfl ?_
 refine RL_then ?_
 refine W_seq ?_
 refine W_seq ?_
 refine W_region ?_
 refine L_fieldAddr rfl (off := 0) Try.underlying46 rfl rfl Try.ti23 rfl ?_
 refine L_load rfl Try.one23 rfl (by first | exact hs.cellA (i := 0) rfl rfl | exact hs.cell (i := 0) rfl rfl) ?_
 refine L_fieldAddr rfl (off := 1) Try.underlying46 rfl rfl Try.ti23 rfl ?_
 refine L_load rfl Try.one23 rfl (by first | exact hs.cellA (i := 0) rfl rfl | exact hs.cell (i := 0) rfl rfl) ?_
 refine L_fieldAddr rfl (off := 2) Try.underlying46 rfl rfl Try.ti23 rfl ?_
 refine L_load rfl Try.one23 rfl (by first | exact hs.cellA (i := 0) rfl rfl | exact hs.cell (i := 0) rfl rfl) ?_
 refine L_fieldAddr rfl (off := 3) Try.underlying46 rfl rfl Try.ti23 rfl ?_
 refine L_load rfl Try.one23 rfl (by first | exact hs.cellA (i := 0) rfl rfl | exact hs.cell (i := 0) rfl rfl) ?_
 refine L_fieldAddr rfl (off := 4) Try.underlying46 rfl rfl Try.ti23 rfl ?_
 refine L_load rfl Try.one23 rfl (by first | exact hs.cellA (i := 0) rfl rfl | exact hs.cell (i := 0) rfl rfl) ?_
 refine L_build rfl rfl (by exact builtF5 (z0 := .float .f64 0) (z1 := .float .f64 0) (z2 := .float .f64 0) (z3 := .float .f64 0) (z4 := .float .f64 0) (by kernel_rfl) Try.underlying105 (by kernel_rfl) .f64 _ _ _ _ _) ?_
 refine RL_set 15 (v' := .agg s.cells.toArray) rfl (rfl) ?_
 refine L_move rfl rfl ?_
 refine RL_then ?_
 refine W_block ?_
 refine W_loop2 (fun (i : Nat) (w : World) => [(1, .pointer (some ⟨b1, 0, none⟩)), (15, .agg s.cells.toArray), (16, .int .i64 i)]) (fun (i : Nat) (w : World) => w) (fun (i : Nat) (w : World) => (i ≤ 5) ∧ (HS w0 w [(b1, Row 46 s.cells)])) (fun (i : Nat) (w : World) => 5 - i) (0) (_) (is := [1, 15, 16]) rfl rfl ?_ ?_
 ·
  exact ⟨Nat.zero_le _, hs⟩
 ·
  clear hs
  intro i w hI
  show W _ _ _ _ [(1, .pointer (some ⟨b1, 0, none⟩)), (15, .agg s.cells.toArray), (16, .int .i64 i)] w
  obtain ⟨hi, hs⟩ := hI
  by_cases hlt : i < 5
  ·
   obtain ⟨x, v, hx, hv⟩ := h.fin i hlt
   refine W_seq ?_
   refine W_region ?_
   first | refine L_lss rfl rfl rfl (dtrue (by omega)) ?_ | refine L_lss rfl rfl rfl (dfalse (by omega)) ?_ | refine L_lss rfl rfl rfl rfl ?_
   refine RL_then ?_
   refine W_seq ?_
   refine W_if_true rfl ?_
   refine W_skip' ?_
   refine Nx_then ?_
   refine W_seq ?_
   refine W_block ?_
   refine W_seq ?_
   refine W_region ?_
   refine RL_val rfl (R_indexA Try.underlying105 Try.one23 Try.ti23 rfl rfl (by with_reducible first | exact natc_k _ | exact natc_a1 _ | exact natc_0 | exact natc_1 | exact natc_2 | exact natc_s1 _ (by omega) | exact natc_a2 _ | exact natc_add _ _ | exact natc_mul _ _ | exact natc (by omega)) (by omega) hx) ?_
   refine L_assign rfl rfl ?_
   refine RL_then ?_
   refine W_seq ?_
   refine W_region ?_
   refine L_move rfl rfl ?_
   refine L_call rfl Try.fun31 rfl (isnan_ok x (fin1_of hv) w) ?_
   rintro _ w ⟨rfl, rfl⟩
   refine L_move rfl rfl ?_
   first | (refine RL_want rfl rfl ?_; refine L_move rfl rfl ?_) | refine RL_skip rfl rfl rfl rfl ?_ | refine RL_skipU rfl rfl rfl ?_
   refine RL_want rfl rfl ?_
   refine L_call rfl Try.fun32 rfl (isinf_ok x (fin1_of hv) w) ?_
   rintro _ w ⟨rfl, rfl⟩
   first | refine L_pick_t rfl rfl rfl ?_ | refine L_pick_f rfl rfl rfl ?_
   refine RL_then ?_
   refine W_if_false rfl ?_
   refine W_skip' ?_
   refine Nx_block ?_
   refine Nx_then ?_
   refine W_region ?_
   first | refine L_add rfl rfl rfl (wrp_i64 (by omega)) ?_ | refine L_add rfl rfl rfl rfl ?_
   refine L_move rfl rfl ?_
   refine RL_nil' ?_
   refine Nx_loopP (i + 1, _) (is := [1, 15, 16]) (I' := (fun (i : Nat) (w : World) => (i ≤ 5) ∧ (HS w0 w [(b1, Row 46 s.cells)])) (i + 1) (_)) rfl rfl rfl ?_ ?_
   ·
    exact ⟨by omega, hs⟩
   ·
    show 5 - (i + 1) < 5 - i; omega
  ·
   obtain ⟨pv, p1, p2⟩ := h.p
   obtain ⟨rv', r1, r2⟩ := h.r
   have g1 : (FloatKind.f64.format.order s.p 0 == some .gt || FloatKind.f64.format.order s.p 0 == some .eq) = true := (p1.geq fv_0).trans (decide_eq_true (by omega))
   have g2 : (FloatKind.f64.format.order s.r 0 == some .gt || FloatKind.f64.format.order s.r 0 == some .eq) = true := (r1.geq fv_0).trans (decide_eq_true (by omega))
   refine W_seq ?_
   refine W_region ?_
   first | refine L_lss rfl rfl rfl (dtrue (by omega)) ?_ | refine L_lss rfl rfl rfl (dfalse (by omega)) ?_ | refine L_lss rfl rfl rfl rfl ?_
   refine RL_then ?_
   refine W_seq ?_
   refine W_if_false rfl ?_
   refine W_exit' ?_
   refine Ex_then_exit ?_
   refine Ex_loop_exit ?_
   refine Ex_block_hit ?_
   refine Nx_then ?_
   refine W_seq ?_
   refine W_region ?_
   refine L_fieldAddr rfl (off := 2) Try.underlying46 rfl rfl Try.ti23 rfl ?_
   refine L_load rfl Try.one23 rfl (by exact hs.cellA (i := 0) (j := 2) rfl rfl) ?_
   refine L_fcmp rfl rfl rfl (fun _ => by rw [binOp_float_cmp_geq, g1]; rfl) ?_
   refine L_move rfl rfl ?_
   first | (refine RL_want rfl rfl ?_; refine L_fieldAddr rfl (off := 4) Try.underlying46 rfl rfl Try.ti23 rfl ?_) | refine RL_skip rfl rfl rfl rfl ?_ | refine RL_skipU rfl rfl rfl ?_
   first | (refine RL_want rfl rfl ?_; refine L_load rfl Try.one23 rfl (by exact hs.cellA (i := 0) (j := 4) rfl rfl) ?_) | refine RL_skip rfl rfl rfl rfl ?_ | refine RL_skipU rfl rfl rfl ?_
   first | (refine RL_want rfl rfl ?_; refine L_fcmp rfl rfl rfl (fun _ => by rw [binOp_float_cmp_geq, g2]; rfl) ?_) | refine RL_skip rfl rfl rfl rfl ?_ | refine RL_skipU rfl rfl rfl ?_
   first | refine L_pick_t rfl rfl rfl ?_ | refine L_pick_f rfl rfl rfl ?_
   refine L_assign rfl rfl ?_
   refine RL_then ?_
   refine W_ret' ?_
   refine Ex_done1 rfl rfl ?_
   exact ⟨_, rfl, rfl, hs.forget hb1o⟩
end Go.Proofs.Ytdllakfojligjaa
