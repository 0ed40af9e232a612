/-
  A part of the proof: what functions that the statement reaches do, or a plain law on what they do. Each theorem holds under its own premises alone.
-/
import Derived.Test.YtknpoemkmcdgcaaTND
import Derived.Test.YtknpoemkmcdgcaaKitY
namespace Go.Proofs.Ytknpoemkmcdgcaa
open Go Go.Lk
theorem Tk.one (t : Tk) : ∀ v ∈ t.cells, v.oneCell' = true := fun v hv => tcs_one [t] v (by simpa [tcs] using hv)
theorem HS.drop1 {w0 w : World} {p : Nat × Obj} {L : Bks} (h : HS w0 w (p :: L)) (hp : w0.heap.size ≤ p.1) : HS w0 w L :=
  h.sub (fun _ hq => List.mem_cons_of_mem _ hq) (by have := h.nodup; simp only [List.map_cons, List.nodup_cons] at this; exact this.2) (fun q hq => by
    rcases List.mem_cons.1 hq with rfl | hq
    · exact .inr hp
    · exact .inl hq)
/-- what a track's places and speeds must be -/
def Tk.fine (t : Tk) : Prop := [t.xx, t.xv, t.yx, t.yv].all finB = true ∧ t.xx < 18446744073709551616 ∧ t.xv < 18446744073709551616 ∧ t.yx < 18446744073709551616 ∧ t.yv < 18446744073709551616
abbrev NetL (B far g k cap : Nat) (zs : List Value) (R : Bks) : Bks := (B, Row 76 [.float .f64 far, .slice (some ⟨g, 0, none⟩) k cap]) :: (g, Row 84 zs) :: R
theorem tell_ok (w0 w : World) (B far g k cap q : Nat) (zs : List Value) (R : Bks) (a : Option Addr) (n c : Nat) (ts : List Tk) (hs : HS w0 w (NetL B far g k cap zs R)) (hzl : zs.length = cap * 4) (hkc : k ≤ cap) (hk16 : k ≤ 16) (hq : q < k)
    (hA : ∀ w' L', HS w0 w' L' → (∀ p ∈ NetL B far g k cap zs R, p ∈ L') → SlC w' a (tcs ts)) (hn : ts.length = n) (hn2 : n ≤ 256) (hfirm : ∀ i, i < n → (ts.getD i tk0).kind = 1) (hfine : ∀ i, i < n → (ts.getD i tk0).fine) :
    Ret Try.prog 21 [.pointer (some ⟨B, 0, none⟩), .int .i64 q, .slice a n c] w fun r w' => ∃ v2 M2, r = .int .i64 0 ∧ HS w0 w' (NetL B far g k cap (zs.set (q * 4 + 3) v2) R ++ M2) ∧ Bl w0 48 15 v2 n (tcs ts) M2 := by
  have hA0 := hA w _ hs (fun _ h => h)
  refine calls_of_W Try.func21 rfl rfl rfl ?_
  refine W_seq ?_
  refine W_region ?_
  refine L_assign rfl rfl ?_
  refine RL_then ?_
  refine W_seq ?_
  refine W_block ?_
  refine W_seq ?_
  refine W_region ?_
  refine L_move rfl rfl ?_
  refine L_ptrNil rfl Try.underlying26 rfl rfl ?_
  refine L_assign rfl rfl ?_
  refine RL_then ?_
  refine W_if_false rfl ?_
  refine W_seq ?_
  refine W_region ?_
  refine L_move rfl rfl ?_
  first | refine L_lss rfl rfl rfl (dtrue (by omega)) ?_ | refine L_lss rfl rfl rfl (dfalse (by omega)) ?_ | refine L_lss rfl rfl rfl rfl ?_
  refine L_move rfl rfl ?_
  first | (refine RL_want rfl rfl ?_; refine L_move rfl rfl ?_) | refine RL_skip rfl rfl rfl rfl ?_ | refine RL_skipU rfl rfl rfl ?_
  first | (refine RL_want rfl rfl ?_; refine L_move rfl rfl ?_) | refine RL_skip rfl rfl rfl rfl ?_ | refine RL_skipU rfl rfl rfl ?_
  first | (refine RL_want rfl rfl ?_; refine L_nilCheck rfl rfl ?_) | refine RL_skip rfl rfl rfl rfl ?_ | refine RL_skipU rfl rfl rfl ?_
  first | (refine RL_want rfl rfl ?_; refine L_fieldAddr rfl (off := 1) Try.underlying76 rfl rfl Try.ti74 rfl ?_) | refine RL_skip rfl rfl rfl rfl ?_ | refine RL_skipU rfl rfl rfl ?_
  first | (refine RL_want rfl rfl ?_; refine L_load rfl Try.one74 rfl (by first | exact hs.cell (i := 0) rfl rfl) ?_) | refine RL_skip rfl rfl rfl rfl ?_ | refine RL_skipU rfl rfl rfl ?_
  first | (refine RL_want rfl rfl ?_; refine L_len rfl Try.underlying74 rfl ?_) | refine RL_skip rfl rfl rfl rfl ?_ | refine RL_skipU rfl rfl rfl ?_
  first | (refine RL_want rfl rfl ?_; (first | refine L_geq rfl rfl rfl (dtrue (by omega)) ?_ | refine L_geq rfl rfl rfl (dfalse (by omega)) ?_ | refine L_geq rfl rfl rfl rfl ?_)) | refine RL_skip rfl rfl rfl rfl ?_ | refine RL_skipU rfl rfl rfl ?_
  first | refine L_pick_t rfl rfl rfl ?_ | refine L_pick_f rfl rfl rfl ?_
  refine L_assign rfl rfl ?_
  refine RL_then ?_
  refine W_if_false rfl ?_
  refine W_seq ?_
  refine W_region ?_
  refine L_move rfl rfl ?_
  refine L_len rfl Try.underlying38 rfl ?_
  first | refine L_gtr rfl rfl rfl (dtrue (by omega)) ?_ | refine L_gtr rfl rfl rfl (dfalse (by omega)) ?_ | refine L_gtr rfl rfl rfl rfl ?_
  refine L_assign rfl rfl ?_
  refine RL_then ?_
  refine W_if_false rfl ?_
  refine W_skip' ?_
  refine Nx_block ?_
  refine Nx_then ?_
  refine W_seq ?_
  refine W_seq ?_
  refine W_region ?_
  refine L_move rfl rfl ?_
  refine L_len rfl Try.underlying38 rfl ?_
  refine L_move rfl rfl ?_
  refine RL_then ?_
  refine W_block ?_
  refine W_loop2 (fun (i : Nat) (w : World) => [(0, .pointer (some ⟨B, 0, none⟩)), (1, .int .i64 q), (2, .slice a n c), (28, .slice a n c), (29, .int .i64 n), (30, .int .i64 i)]) (fun (i : Nat) (w : World) => w) (fun (i : Nat) (w : World) => (i ≤ n) ∧ (HS w0 w (NetL B far g k cap zs R))) (fun (i : Nat) (w : World) => n - i) (0) (w) (is := [0, 1, 2, 28, 29, 30]) rfl rfl ?_ ?_
  · exact ⟨Nat.zero_le _, hs⟩
  · clear hs
    intro i w hI
    show W _ _ _ _ [(0, .pointer (some ⟨B, 0, none⟩)), (1, .int .i64 q), (2, .slice a n c), (28, .slice a n c), (29, .int .i64 n), (30, .int .i64 i)] w
    obtain ⟨hi, hs⟩ := hI
    by_cases hlt : i < n
    · have hA1 := hA w _ hs (fun _ h => h)
      refine W_seq ?_
      refine W_region ?_
      first | refine L_lss rfl rfl rfl (dtrue (by omega)) ?_ | refine L_lss rfl rfl rfl (dfalse (by omega)) ?_ | refine L_lss rfl rfl rfl rfl ?_
      refine RL_then ?_
      refine W_seq ?_
      refine W_if_true rfl ?_
      refine W_skip' ?_
      refine Nx_then ?_
      refine W_seq ?_
      refine W_block ?_
      refine W_seq ?_
      refine W_region ?_
      refine L_idxN rfl Try.underlying38 Try.ti48 rfl rfl (by with_reducible first | exact natc_k _ | exact natc_a1 _ | exact natc_0 | exact natc_1 | exact natc_2 | exact natc_s1 _ (by omega) | exact natc_a2 _ | exact natc_add _ _ | exact natc_mul _ _ | exact natc (by omega)) (by omega) (hA1.ao (by rw [tcs_len]; omega)) ?_
      refine L_loadA rfl Try.agg48 Try.ti48 rfl (by exact tk_at hA1 (by omega)) ?_
      refine L_alloc rfl hs Try.ti48 ?_; intro b8 w hb8 _ hs; replace hs := HS.ins1 hs
      refine L_storeA hs (i := 0) rfl Try.ti48 rfl rfl (by first | rfl | exact add_lit0 _ _ | exact Addr.add_lit .. | (rw [add_add]; exact add_lit0 _ _)) (by simp [Tk.cells]) (by exact Tk.one _) ?_
      intro w hs
      try dsimp only [List.set_cons_succ, List.set_cons_zero, List.cons_append, List.nil_append] at hs
      refine RL_then ?_
      refine W_seq ?_
      refine W_region ?_
      replace hs : HS w0 w ((b8, Row 48 (ts.getD i tk0).cells) :: NetL B far g k cap zs R) := hs
      refine L_fieldAddr rfl (off := 2) Try.underlying48 rfl rfl Try.ti45 rfl ?_
      refine L_fieldAddr rfl (off := 0) Try.underlying45 rfl rfl Try.ti22 rfl ?_
      refine L_load rfl Try.one22 rfl (by first | exact hs.cell (i := 0) rfl rfl) ?_
      refine L_fieldAddr rfl (off := 2) Try.underlying48 rfl rfl Try.ti45 rfl ?_
      refine L_fieldAddr rfl (off := 1) Try.underlying45 rfl rfl Try.ti22 rfl ?_
      refine L_load rfl Try.one22 rfl (by first | exact hs.cell (i := 0) rfl rfl) ?_
      refine L_fieldAddr rfl (off := 7) Try.underlying48 rfl rfl Try.ti45 rfl ?_
      refine L_fieldAddr rfl (off := 0) Try.underlying45 rfl rfl Try.ti22 rfl ?_
      refine L_load rfl Try.one22 rfl (by first | exact hs.cell (i := 0) rfl rfl) ?_
      refine L_fieldAddr rfl (off := 7) Try.underlying48 rfl rfl Try.ti45 rfl ?_
      refine L_fieldAddr rfl (off := 1) Try.underlying45 rfl rfl Try.ti22 rfl ?_
      refine L_load rfl Try.one22 rfl (by first | exact hs.cell (i := 0) rfl rfl) ?_
      refine L_buildSlice1 rfl hs Try.underlying106 Try.ti22 rfl (by decide) rfl rfl ?_
      intro b46 w hb46 hnb46 hs
      simp only [List.map_cons, List.map_nil] at hs
      try dsimp only [List.set_cons_succ, List.set_cons_zero, List.cons_append, List.nil_append] at hs
      have hf := hfine i hlt
      replace hs : HS w0 w (((b8, Row 48 (ts.getD i tk0).cells) :: NetL B far g k cap zs R) ++ [(b46, Row 22 (fl [(ts.getD i tk0).xx, (ts.getD i tk0).xv, (ts.getD i tk0).yx, (ts.getD i tk0).yv]))]) := hs
      have hx : SlC w (some ⟨b46, 0, none⟩) (fl [(ts.getD i tk0).xx, (ts.getD i tk0).xv, (ts.getD i tk0).yx, (ts.getD i tk0).yv]) := SlC.of_row (sp := []) (hs.has _ (List.mem_append_right _ (List.mem_cons_self ..)))
      replace hs := hs.dropR (Own.cons hb46 Own.nil)
      replace hs := (HS.drop1 hs hb8)
      refine L_call rfl Try.fun30 rfl (finite_ok (some ⟨b46, 0, none⟩) 4 4 _ w hx rfl (by decide) (fun z hz => by match z, hz with | 0, _ => exact hf.2.1 | 1, _ => exact hf.2.2.1 | 2, _ => exact hf.2.2.2.1 | 3, _ => exact hf.2.2.2.2)) ?_
      rw [hf.1]
      rintro _ w1 ⟨rfl, hs'⟩
      replace hs := hs.nil hs'
      clear hs' hx
      refine L_not rfl rfl ?_
      refine RL_then ?_
      refine W_if_false rfl ?_
      refine W_skip' ?_
      refine Nx_block ?_
      refine Nx_then ?_
      refine W_region ?_
      first | refine L_add rfl rfl rfl (wrp_i64 (by omega)) ?_ | refine L_add rfl rfl rfl rfl ?_
      refine L_move rfl rfl ?_
      refine RL_nil' ?_
      refine Nx_loopP (i + 1, _) (is := [0, 1, 2, 28, 29, 30]) (I' := (fun (i : Nat) (w : World) => (i ≤ n) ∧ (HS w0 w (NetL B far g k cap zs R))) (i + 1) (_)) rfl rfl rfl ?_ ?_
      · exact ⟨by omega, hs⟩
      · omega
    · obtain rfl : i = n := by omega
      refine W_seq ?_
      refine W_region ?_
      first | refine L_lss rfl rfl rfl (dtrue (by omega)) ?_ | refine L_lss rfl rfl rfl (dfalse (by omega)) ?_ | refine L_lss rfl rfl rfl rfl ?_
      refine RL_then ?_
      refine W_seq ?_
      refine W_if_false rfl ?_
      refine W_exit' ?_
      refine Ex_then_exit ?_
      refine Ex_loop_exit ?_
      refine Ex_block_hit ?_
      refine Nx_then ?_
      refine W_seq ?_
      refine W_sg Try.mixed ?_
      replace hs := hs.drewN 1
      refine SG_stage [0, 1, 2, 4, 5] [] [] (fun _ _ _ => False) (g' := 6) (by kernel_rfl) (by kernel_rfl) (fun _ _ _ _ _ h => h) hs ?_
      refine PL_val rfl (fun w => R_move rfl) ?_
      refine PL_val rfl (fun w => R_nilCheck rfl) ?_
      refine PL_val rfl (fun w => R_fieldAddr (off := 1) Try.underlying76 rfl rfl Try.ti74 rfl) ?_
      refine PL_val rfl (fun w => R_move rfl) ?_
      refine PL_val rfl (fun w => R_move rfl) ?_
      refine PL_end ?_
      refine HL_tail ?_
      intro w hs
      refine RL_sg ?_
      refine SG_join (g' := 3) (l' := #[true, true, true, true, true, true, true, true, false, false, false]) (fun S => ∀ (v2 : Value) (M2 : Bks) (w : World), (Bl w0 48 15 v2 i (tcs ts) M2) ∧ (HS w0 w (NetL B far g k cap zs R ++ M2)) → S [(53, .slice (some ⟨g, 0, none⟩) k cap), (54, .int .i64 q), (57, v2)] w) ?_ ?_
      · intro fin
        refine SG_pick2 (i := 3) (l1 := #[true, true, true, true, true, true, false, false, false, false, false]) (j := 6) (l2 := #[true, true, true, false, true, true, true, false, false, false, false]) (by kernel_rfl) (by kernel_rfl) (by kernel_rfl) (by kernel_rfl) ?_ ?_
        · refine L_load rfl Try.one74 rfl (by first | exact hs.cell (i := 0) rfl rfl) ?_
          refine RL_sg ?_
          refine SG_pick1 (i := 6) (l1 := #[true, true, true, true, true, true, true, false, false, false, false]) (by kernel_rfl) (by kernel_rfl) (by kernel_rfl) ?_
          refine L_call rfl Try.fun40 rfl (clone_ok a i c ts w (hA _ _ hs (fun _ h => h)) hn (by omega)) ?_; rintro v2 w2 ⟨M2, hs', hb2⟩; replace hs' := hs.call hs' hb2.own; replace hb2 := hb2.mono hs.size; clear hs; have hs := hs'; clear hs'; obtain ⟨a2, c2, rfl, hc2⟩ := hb2.slice
          refine RL_sg ?_
          refine SG_pick1 (i := 7) (l1 := #[true, true, true, true, true, true, true, true, false, false, false]) (by kernel_rfl) (by kernel_rfl) (by kernel_rfl) ?_
          refine L_call rfl Try.fun39 rfl (delete_firm a2 i c2 ts _ (hb2.slc hs) hn (by omega) hfirm) ?_; rintro _ w3 ⟨rfl, hs'⟩; replace hs' := hs.nil hs'; clear hs; have hs := hs'; clear hs'
          refine RL_sg ?_
          refine SG_env (fin _ M2 _ ⟨hb2, hs⟩) (looks_cons rfl (looks_cons rfl (looks_cons rfl looks_nil)))
        · refine L_call rfl Try.fun40 rfl (clone_ok a i c ts w (hA _ _ hs (fun _ h => h)) hn (by omega)) ?_; rintro v2 w2 ⟨M2, hs', hb2⟩; replace hs' := hs.call hs' hb2.own; replace hb2 := hb2.mono hs.size; clear hs; have hs := hs'; clear hs'; obtain ⟨a2, c2, rfl, hc2⟩ := hb2.slice
          refine RL_sg ?_
          refine SG_pick2 (i := 3) (l1 := #[true, true, true, true, true, true, true, false, false, false, false]) (j := 7) (l2 := #[true, true, true, false, true, true, true, true, false, false, false]) (by kernel_rfl) (by kernel_rfl) (by kernel_rfl) (by kernel_rfl) ?_ ?_
          · refine L_load rfl Try.one74 rfl (by first | exact hs.cell (i := 0) rfl rfl) ?_
            refine RL_sg ?_
            refine SG_pick1 (i := 7) (l1 := #[true, true, true, true, true, true, true, true, false, false, false]) (by kernel_rfl) (by kernel_rfl) (by kernel_rfl) ?_
            refine L_call rfl Try.fun39 rfl (delete_firm a2 i c2 ts _ (hb2.slc hs) hn (by omega) hfirm) ?_; rintro _ w3 ⟨rfl, hs'⟩; replace hs' := hs.nil hs'; clear hs; have hs := hs'; clear hs'
            refine RL_sg ?_
            refine SG_env (fin _ M2 _ ⟨hb2, hs⟩) (looks_cons rfl (looks_cons rfl (looks_cons rfl looks_nil)))
          · refine L_call rfl Try.fun39 rfl (delete_firm a2 i c2 ts _ (hb2.slc hs) hn (by omega) hfirm) ?_; rintro _ w3 ⟨rfl, hs'⟩; replace hs' := hs.nil hs'; clear hs; have hs := hs'; clear hs'
            refine RL_sg ?_
            refine SG_pick1 (i := 3) (l1 := #[true, true, true, true, true, true, true, true, false, false, false]) (by kernel_rfl) (by kernel_rfl) (by kernel_rfl) ?_
            refine L_load rfl Try.one74 rfl (by first | exact hs.cell (i := 0) rfl rfl) ?_
            refine RL_sg ?_
            refine SG_env (fin _ M2 _ ⟨hb2, hs⟩) (looks_cons rfl (looks_cons rfl (looks_cons rfl looks_nil)))
      · clear hs
        intro v2 M2 w hI
        show SG _ _ _ _ _ _ [(53, .slice (some ⟨g, 0, none⟩) k cap), (54, .int .i64 q), (57, v2)] w
        obtain ⟨hb2, hs⟩ := hI
        obtain ⟨a2, c2, rfl, hc2⟩ := hb2.slice
        refine SG_pick1 (i := 8) (l1 := #[true, true, true, true, true, true, true, true, true, false, false]) (by kernel_rfl) (by kernel_rfl) (by kernel_rfl) ?_
        refine L_idxN rfl Try.underlying74 Try.ti84 rfl rfl (by with_reducible first | exact natc_k _ | exact natc_a1 _ | exact natc_0 | exact natc_1 | exact natc_2 | exact natc_s1 _ (by omega) | exact natc_a2 _ | exact natc_add _ _ | exact natc_mul _ _ | exact natc (by omega)) (by omega) rfl ?_
        refine RL_sg ?_
        refine SG_pick1 (i := 9) (l1 := #[true, true, true, true, true, true, true, true, true, true, false]) (by kernel_rfl) (by kernel_rfl) (by kernel_rfl) ?_
        refine L_fieldAddr rfl (off := 3) Try.underlying84 rfl rfl Try.ti38 rfl ?_
        refine RL_sg ?_
        refine SG_pick1 (i := 10) (l1 := #[true, true, true, true, true, true, true, true, true, true, true]) (by kernel_rfl) (by kernel_rfl) (by kernel_rfl) ?_
        refine L_store hs (i := 1) rfl Try.ti38 rfl rfl (by first | rfl | exact add_lit0 _ _ | exact Addr.add_lit .. | (rw [add_add]; exact add_lit0 _ _)) (by simp [hzl]; omega) rfl ?_
        intro w hs
        try dsimp only [List.set_cons_succ, List.set_cons_zero, List.cons_append, List.nil_append] at hs
        refine RL_sg ?_
        refine SG_end (by kernel_rfl) ?_
        refine Nx_then ?_
        refine W_seq ?_
        refine W_region ?_
        refine L_assign rfl rfl ?_
        refine RL_then ?_
        refine W_ret' ?_
        refine Ex_done1 rfl rfl ?_
        exact ⟨_, rfl, _, M2, rfl, hs, hb2⟩
end Go.Proofs.Ytknpoemkmcdgcaa
