/-
 A part of the proof: what functions that the statement reaches do, or a plain law on what they do. Each theorem holds under its own premises alone.
-/
import Derived.Test.YtffobakdngbadaaTKO2
import Derived.Test.YtffobakdngbadaaTKY
namespace Go.Proofs.Ytffobakdngbadaa
open Go Go.Lk
/-! ### TracksOnce -/
theorem All2.tmap {l m : List On} (h : All2 OEq l m) : All2 TEq (l.map On.t) (m.map On.t) := by
 induction h with
 | nil => exact .nil
 | cons a _ ih => exact .cons a.t ih
theorem All2.symmE {l m : List On} (h : All2 OEq l m) : All2 OEq m l := by
 induction h with
 | nil => exact .nil
 | cons a _ ih => exact .cons ⟨⟨a.t.id.symm, a.t.kind.symm, a.t.seen.symm, a.t.steps.symm, a.t.last.symm, a.t.x.symm, a.t.y.symm⟩, a.xs.symm, a.ys.symm⟩ ih
theorem ids_asc {w0 : World} {n : Nat} {k : Bok} (h : k.ok w0 n) {i : Nat} (hi : i + 1 < k.os.length) : ((k.os.map On.t).getD i trk0).id < ((k.os.map On.t).getD (i + 1) trk0).id := by
 have h1 := h.ents.asc
 rw [k.ids] at h1
 have h2 := List.pairwise_iff_getElem.1 h1 i (i + 1) (by rw [List.length_map]; omega) (by rw [List.length_map]; omega) (by omega)
 rw [List.getElem_map, List.getElem_map] at h2
 rw [List.getD_eq_getElem?_getD, List.getElem?_map, List.getElem?_eq_getElem (by omega), List.getD_eq_getElem?_getD, List.getElem?_map, List.getElem?_eq_getElem (by omega)]
 exact h2
theorem on_uniq {w0 : World} {n : Nat} {k : Bok} (h : k.ok w0 n) {o u : On} (ho : o ∈ k.os) (hu : u ∈ k.os) (he : o.t.id = u.t.id) : o = u := by
 have h1 : (k.os.map fun o => o.t.id).Nodup := by rw [← k.ids]; exact h.ents.keys
 obtain ⟨i, hi, rfl⟩ := List.getElem_of_mem ho
 obtain ⟨j, hj, rfl⟩ := List.getElem_of_mem hu
 have : i = j := nodup_at h1 (i := i) (j := j) (x := k.os[i].t.id) (by rw [List.getElem?_map, List.getElem?_eq_getElem hi]; rfl) (by rw [List.getElem?_map, List.getElem?_eq_getElem hj, he]; rfl)
 subst this; rfl
theorem once_has {w0 : World} {N n : Nat} {k k' : Bok} {told : List Int} (hk : k'.ok w0 N) (hO : Once k k' n told) {q : Nat} (h0 : told.getD q 0 ≠ 0) {t : Trk} {f : Bool} (h1 : f = true → t ∈ k'.os.map On.t ∧ t.id = told.getD q 0) (h2 : f = false → ∀ u ∈ k'.os.map On.t, u.id ≠ told.getD q 0) :
  f = true ∧ t.seen % 2 = 1 := by
 obtain ⟨o, ho, e1, e2⟩ := hO.ex q h0
 cases f with
 | false => exact absurd e1 (h2 rfl _ (List.mem_map.2 ⟨o, ho, rfl⟩))
 | true =>
  obtain ⟨h3, h4⟩ := h1 rfl
  obtain ⟨u, hu, rfl⟩ := List.mem_map.1 h3
  rw [on_uniq hk hu ho (by rw [h4, e1])]
  exact ⟨rfl, e2⟩
set_option maxHeartbeats 8000000 in
theorem tracksOnce_law (r : Rul) (hr : RulLt r) (a : Option Addr) (n c : Nat) (l : List Mv) (w0 : World) (ha : SlC w0 a (mcs l)) (hn : l.length = n) (hn2 : n ≤ 1000000000000000) (hm : ∀ i, i < n → MvOk w0 (l.getD i mv0)) :
  Ret Try.prog 5 [.agg r.cells.toArray, .slice a n c] w0 fun v w' => v = .bool true ∧ HS w0 w' [] := by
 refine Ret.start fun w hs => ?_
 refine calls_of_W Try.func5 rfl rfl rfl (W_seq (W_region (L_box rfl hs rfl ?_)))
 intro b2 w hb2 hnb2 hs
 dsimp only [List.set_cons_succ, List.set_cons_zero, List.cons_append, List.nil_append] at hs
 refine L_assign rfl rfl (RL_then (W_seq (W_seq (W_region (L_move rfl rfl ?_)))))
 replace hs : HS w0 w [(b2, Row 49 r.cells)] := hs
 have hb2o : Own w0 [(b2, Row 49 r.cells)] := Own.cons hb2 Own.nil
 refine L_call rfl Try.fun14 rfl (great_ok a n c l w (ha.old hs hb2o) hn hn2 (fun i hi => (hm i hi).len)) ?_
 rintro _ w1 ⟨g, rfl, hs', hg⟩
 replace hs := hs.nil hs'
 clear hs'
 cases g
 ·
  obtain ⟨hn300, hpl⟩ := hg rfl
  clear hg
  refine RL_then (W_if_false rfl (W_skip' (Nx_then (W_seq (W_region (L_loadA rfl Try.agg49 Try.ti49 rfl (by exact cellsAt_whole (cs := r.cells) (hs.get (i := 0) rfl)) ?_))))))
  refine L_call rfl Try.fun15 rfl (new_ok r hr.noise hr.sway hr.gate w1) ?_
  rintro _ w2 (⟨hne, rfl, hs'⟩ | ⟨hne, B, mb, rfl, hs', hk'⟩)
  ·
   replace hs := hs.nil hs'
   clear hs'
   refine L_move rfl rfl (L_extract rfl rfl rfl (L_extract rfl rfl rfl (L_assign rfl rfl (L_assign rfl rfl (RL_then (W_seq (W_region (L_loadA rfl Try.agg49 Try.ti49 rfl (by exact cellsAt_whole (cs := r.cells) (hs.get (i := 0) rfl)) ?_))))))))
   refine L_call rfl Try.fun15 rfl (new_ok r hr.noise hr.sway hr.gate w2) ?_
   rintro _ w3 (⟨_, rfl, hs'⟩ | ⟨hne', _⟩)
   ·
    replace hs := hs.nil hs'
    clear hs'
    obtain ⟨er, her⟩ : ∃ er, er = newE r := ⟨_, rfl⟩
    rw [← her] at hne ⊢
    refine L_move rfl rfl (L_extract rfl rfl rfl (L_extract rfl rfl rfl (L_assign rfl rfl (L_assign rfl rfl (RL_then (W_seq (W_seq (W_region (L_move rfl rfl (L_move rfl rfl (L_neq rfl rfl rfl (dfalse (by omega)) ?_)))))))))))
    refine L_move rfl rfl (RL_want rfl rfl (L_move rfl rfl (RL_want rfl rfl (L_ptrNil rfl Try.underlying26 rfl rfl (RL_want rfl rfl (L_move rfl rfl (RL_want rfl rfl (L_ptrNil rfl Try.underlying26 rfl rfl (RL_want rfl rfl (RL_val rfl (R_bneq Try.underlying4 rfl rfl) (L_pick_f rfl rfl rfl (L_move rfl rfl ?_))))))))))))
    refine RL_want rfl rfl (L_move rfl rfl (RL_want rfl rfl (L_ptrNil rfl Try.underlying26 rfl rfl (RL_want rfl rfl (L_move rfl rfl (RL_want rfl rfl (L_neq rfl rfl rfl (dtrue (by omega)) ?_)))))))
    refine RL_want rfl rfl (RL_val rfl (R_bneq Try.underlying4 rfl rfl) (L_pick_f rfl rfl rfl (RL_then (W_if_false rfl (W_skip' (Nx_then (W_seq (W_region (L_assign rfl rfl (RL_then (W_seq (W_seq ?_))))))))))))
    refine W_region (L_assign rfl rfl (RL_then (W_block ?_)))
    refine W_loop1 (fun (w : World) => [(1, .slice a n c), (5, .pointer none), (10, .int .i64 0)]) (fun (w : World) => w) (fun (w : World) => (HS w0 w [(b2, Row 49 r.cells)])) (fun (w : World) => 0) (_) (is := [1, 5, 10]) rfl rfl ?_ ?_
    ·
     exact hs
    ·
     clear hs
     intro w hI
     show W _ _ _ _ [(1, .slice a n c), (5, .pointer none), (10, .int .i64 0)] w
     obtain hs := hI
     have hs := hI
     clear hI
     by_cases hlt : 0 < n
     ·
      refine W_seq (W_seq (W_region (L_move rfl rfl (L_move rfl rfl (L_len rfl Try.underlying50 rfl (L_lss rfl rfl rfl (dtrue (by omega)) ?_))))))
      refine L_move rfl rfl (RL_want rfl rfl (L_move rfl rfl (RL_want rfl rfl (L_ptrNotNil rfl Try.underlying26 rfl rfl (L_pick_t rfl rfl rfl (RL_then (W_if_false rfl (W_exit' (Ex_then_exit (Ex_loop_exit (Ex_block_hit (Nx_then ?_))))))))))))
      refine W_seq (W_region (L_call rfl Try.fun13 rfl (wakes_ok w) ?_))
      rintro _ w3 ⟨rfl, hs'⟩
      replace hs := hs.nil hs'
      refine L_assign rfl rfl (RL_then (W_ret' (Ex_done1 rfl rfl ?_)))
      exact ⟨_, rfl, rfl, hs.forget hb2o⟩
     ·
      refine W_seq (W_seq (W_region (L_move rfl rfl (L_move rfl rfl (L_len rfl Try.underlying50 rfl (L_lss rfl rfl rfl (dfalse (by omega)) ?_))))))
      refine L_move rfl rfl (RL_skip rfl rfl rfl rfl (RL_skip rfl rfl rfl rfl (L_pick_f rfl rfl rfl (RL_then (W_if_false rfl (W_exit' (Ex_then_exit (Ex_loop_exit (Ex_block_hit (Nx_then (W_seq (W_region ?_))))))))))))
      refine L_call rfl Try.fun13 rfl (wakes_ok w) ?_
      rintro _ w3 ⟨rfl, hs'⟩
      replace hs := hs.nil hs'
      refine L_assign rfl rfl (RL_then (W_ret' (Ex_done1 rfl rfl ?_)))
      exact ⟨_, rfl, rfl, hs.forget hb2o⟩
   ·
    exact absurd hne' hne
  ·
   have hk0 := hk'.mono hs.size
   obtain ⟨k0, hk0e⟩ : ∃ k0, k0 = bok0 r B mb := ⟨_, rfl⟩
   rw [← hk0e] at hk0 hs' hk'
   have hs1 := hs.call hs' hk'.own
   clear hs hs' hk'
   have hs := hs1
   clear hs1
   refine L_move rfl rfl (L_extract rfl rfl rfl (L_extract rfl rfl rfl (L_assign rfl rfl (L_assign rfl rfl (RL_then (W_seq (W_region (L_loadA rfl Try.agg49 Try.ti49 rfl (by exact cellsAt_whole (cs := r.cells) (hs.has _ (List.mem_append_left _ (List.mem_cons_self ..)))) ?_))))))))
   refine L_call rfl Try.fun15 rfl (new_ok r hr.noise hr.sway hr.gate w2) ?_
   rintro _ w3 (⟨hne', _⟩ | ⟨_, C, mc, rfl, hs', hk'⟩)
   ·
    exact absurd hne hne'
   ·
    have hq0 := hk'.mono hs.size
    obtain ⟨q0, hq0e⟩ : ∃ q0, q0 = bok0 r C mc := ⟨_, rfl⟩
    rw [← hq0e] at hq0 hs' hk'
    have hs1 : HS w0 w3 (k0.bks ++ (q0.bks ++ [(b2, Row 49 r.cells)])) := by
     have h1 := hs.call hs' hk'.own
     exact HS.re h1 (fun c => by simp only [List.map_append, List.map_cons, List.map_nil, List.sum_append, List.sum_cons, List.sum_nil]; omega)
    clear hs hs' hk'
    have hs := hs1
    clear hs1
    refine L_move rfl rfl (L_extract rfl rfl rfl (L_extract rfl rfl rfl (L_assign rfl rfl (L_assign rfl rfl (RL_then (W_seq (W_seq (W_region (L_move rfl rfl (L_move rfl rfl (L_neq rfl rfl rfl (dfalse (by omega)) ?_)))))))))))
    refine L_move rfl rfl (RL_want rfl rfl (L_move rfl rfl (RL_want rfl rfl (L_ptrNil rfl Try.underlying26 rfl rfl (RL_want rfl rfl (L_move rfl rfl (RL_want rfl rfl (L_ptrNil rfl Try.underlying26 rfl rfl (RL_want rfl rfl (RL_val rfl (R_bneq Try.underlying4 rfl rfl) (L_pick_f rfl rfl rfl (L_move rfl rfl ?_))))))))))))
    refine RL_want rfl rfl (L_move rfl rfl (RL_want rfl rfl (L_ptrNil rfl Try.underlying26 rfl rfl (RL_want rfl rfl (L_move rfl rfl (RL_want rfl rfl (L_neq rfl rfl rfl (dfalse (by omega)) ?_)))))))
    refine RL_want rfl rfl (RL_val rfl (R_bneq Try.underlying4 rfl rfl) (L_pick_f rfl rfl rfl (RL_then (W_if_false rfl (W_skip' (Nx_then (W_seq (W_region (L_assign rfl rfl (RL_then (W_seq (W_seq ?_))))))))))))
    refine W_region (L_assign rfl rfl (RL_then (W_block ?_)))
    refine W_loop5 (fun (k : Bok) (z : Bok) (gr : Int) (i : Nat) (w : World) => [(1, .slice a n c), (2, .pointer (some ⟨b2, 0, none⟩)), (5, bv B), (7, bv C), (9, .int .i64 gr), (10, .int .i64 i)]) (fun (k : Bok) (z : Bok) (gr : Int) (i : Nat) (w : World) => w) (fun (k : Bok) (z : Bok) (gr : Int) (i : Nat) (w : World) => (i ≤ n) ∧ (k.B = B ∧ k.r = r ∧ z.B = C ∧ z.r = r) ∧ (k.ok w0 i ∧ z.ok w0 i) ∧ (BEq k z) ∧ (k.next ≤ 1 + 256 * i ∧ gr < k.next) ∧ (HS w0 w (k.bks ++ (z.bks ++ [(b2, Row 49 r.cells)])))) (fun (k : Bok) (z : Bok) (gr : Int) (i : Nat) (w : World) => n - i) (k0) (q0) (0) (0) (_) (is := [1, 2, 5, 7, 9, 10]) rfl rfl ?_ ?_
    ·
     exact ⟨Nat.zero_le _, by rw [hk0e, hq0e]; exact ⟨rfl, rfl, rfl, rfl⟩, ⟨hk0, hq0⟩, by rw [hk0e, hq0e]; exact ⟨rfl, .nil, rfl, rfl⟩, by rw [hk0e]; exact ⟨by show (1 : Int) ≤ 1 + 256 * ((0 : Nat) : Int); decide, by show (0 : Int) < 1; decide⟩, hs⟩
    ·
     clear hs hk0 hq0
     intro k z gr i w hI
     show W _ _ _ _ [(1, .slice a n c), (2, .pointer (some ⟨b2, 0, none⟩)), (5, bv B), (7, bv C), (9, .int .i64 gr), (10, .int .i64 i)] w
     obtain ⟨hi, ⟨hkB, hkr, hzB, hzr⟩, ⟨hk, hz⟩, hbe, ⟨hnx, hgr⟩, hs⟩ := hI
     by_cases hlt : i < n
     ·
      obtain ⟨m, hme⟩ : ∃ m, m = l.getD i mv0 := ⟨_, rfl⟩
      have hmk := hm i hlt
      have hml := hpl i hlt
      rw [← hme] at hmk hml
      refine W_seq (W_seq (W_region (L_move rfl rfl (L_move rfl rfl (L_len rfl Try.underlying50 rfl (L_lss rfl rfl rfl (dtrue (by omega)) ?_))))))
      refine L_move rfl rfl (RL_want rfl rfl (L_move rfl rfl (RL_want rfl rfl (L_ptrNotNil rfl Try.underlying26 rfl rfl (L_pick_t rfl rfl rfl (RL_then (W_if_true rfl ?_)))))))
      obtain ⟨L0, hL0⟩ : ∃ L0, L0 = z.bks ++ [(b2, Row 49 r.cells)] := ⟨_, rfl⟩
      have hL0o : Own w0 L0 := by rw [hL0]; exact hz.own.app hb2o
      rw [← hL0] at hs
      have hT := tracks_ok w0 w i k L0 hs hk hL0o
      rw [hkB] at hT
      refine W_skip' (Nx_then (W_seq (W_block (W_seq (W_region (L_move rfl rfl (L_call rfl Try.fun12 rfl (hT) ?_)))))))
      rintro _ w1 ⟨Mt, hs1, hbt⟩
      clear hs hT
      obtain ⟨at', ct, rfl, _⟩ := hbt.slice
      obtain ⟨L1, hL1⟩ : ∃ L1, L1 = L0 ++ Mt := ⟨_, rfl⟩
      have hL1o : Own w0 L1 := by rw [hL1]; exact hL0o.app hbt.own
      have hs : HS w0 w1 (k.bks ++ L1) := by rw [hL1, ← List.append_assoc]; exact hs1
      clear hs1
      have hAo : Own w0 (k.bks ++ L1) := hk.own.app hL1o
      refine L_assign rfl rfl (RL_then (W_seq (W_sg Try.mixed ?_)))
      replace hs := hs.drewN 1
      refine SG_stage [0, 1, 2, 3, 4, 6, 7, 8, 9] [5, 10] [11, 12] (fun _ _ _ => False) (g' := 4) (by kernel_rfl) (by kernel_rfl) (fun _ _ _ _ _ h => h) hs ?_
      refine PL_val rfl (fun w => R_move rfl) ?_
      refine PL_val rfl (fun w => R_move rfl) ?_
      refine PL_val rfl (fun w => R_move rfl) ?_
      refine PL_val rfl (fun w => R_idxN Try.underlying50 Try.ti25 rfl rfl (natc_k _) (by omega) ((ha.old hs hAo).ao (by rw [mcs_len]; omega))) ?_
      refine PL_val rfl (fun w => R_fieldAddr (off := 1) Try.underlying25 rfl rfl Try.ti22 rfl) ?_
      refine PL_val rfl (fun w => R_move rfl) ?_
      refine PL_val rfl (fun w => R_move rfl) ?_
      refine PL_val rfl (fun w => R_idxN Try.underlying50 Try.ti25 rfl rfl (natc_k _) (by omega) ((ha.old hs hAo).ao (by rw [mcs_len]; omega))) ?_
      refine PL_val rfl (fun w => R_fieldAddr (off := 2) Try.underlying25 rfl rfl Try.ti23 rfl) ?_
      refine PL_end ?_
      refine HL_val rfl (fun w hs => R_load Try.one22 rfl (by (rw [add_add]; exact (ha.old hs hAo).2 _ _ (mcs_get (ts := l) (i := i) (q := 1) (v := .float .f64 m.time) (by omega) (by rw [← hme]; rfl))))) ?_
      refine HL_val rfl (fun w hs => R_load Try.one23 rfl (by (rw [add_add]; exact (ha.old hs hAo).2 _ _ (mcs_get (ts := l) (i := i) (q := 2) (v := .slice m.a m.ps.length m.c) (by omega) (by rw [← hme]; rfl))))) ?_
      refine HL_tail ?_
      intro w hs
      have hI : StepIn w0 i m.ps.length k m.time m.a m.ps L1 := ⟨hk, by omega, hL1o, fun w' L' h1 h2 _ => hmk.pl.old h1 h2, rfl, by omega, hmk.lt, hmk.time, by omega⟩
      have hS := step_ok w0 w i m.ps.length k m.time m.a m.c m.ps L1 hs hI
      rw [hkB] at hS
      clear hI
      obtain ⟨er, her⟩ : ∃ er, er = refE k.last m.time m.ps := ⟨_, rfl⟩
      rw [← her] at hS
      refine L_call rfl Try.fun7 rfl (hS) ?_
      rintro _ w1 (⟨hne, rfl, hs1⟩ | ⟨hre, k', vt, M1, told, os2, ps, ms, os3, rfl, hs1, hb1, htl, hk', hst⟩)
      ·
       clear hs hS
       have hs := hs1
       clear hs1
       refine L_move rfl rfl (RL_sg (SG_stage [13, 14, 15, 16] [] [] (fun _ _ _ => False) (g' := 0) (by kernel_rfl) (by kernel_rfl) (fun _ _ _ _ _ h => h) hs ?_))
       refine PL_val rfl (fun w => R_extract rfl rfl) ?_
       refine PL_val rfl (fun w => R_extract rfl rfl) ?_
       refine PL_val rfl (fun w => R_assign rfl) ?_
       refine PL_val rfl (fun w => R_assign rfl) ?_
       refine PL_end (HL_tail ?_)
       intro w hs
       refine RL_sg (SG_end (by kernel_rfl) ?_)
       refine Nx_then (W_seq (W_region (L_move rfl rfl ?_)))
       have hT := tracks_ok w0 w i k L1 hs hk hL1o
       rw [hkB] at hT
       refine L_call rfl Try.fun12 rfl (hT) ?_
       rintro _ w2 ⟨Mn, hs1, hbn⟩
       clear hs hT
       obtain ⟨an, cn', rfl, _⟩ := hbn.slice
       have hs := hs1
       clear hs1
       refine L_assign rfl rfl (RL_then (W_seq (W_seq (W_region (L_move rfl rfl (L_neq rfl rfl rfl (dtrue (by omega)) ?_))))))
       refine RL_then (W_if_true rfl (W_seq (W_seq (W_region (L_move rfl rfl (L_len rfl Try.underlying27 rfl (L_neq rfl rfl rfl (dfalse (by omega)) ?_)))))))
       refine L_move rfl rfl (RL_want rfl rfl (L_move rfl rfl (RL_want rfl rfl (L_move rfl rfl ?_))))
       have hlen := hk.cnt
       refine RL_want rfl rfl ?_
       refine L_call rfl Try.fun21 rfl (sameAll_ok at' an k.os.length ct cn' (k.os.map On.t) (k.os.map On.t) (All2.refl TEq.refl _) w2 (Bl.slcM hbt hs (fun p hp => by rw [hL1]; exact List.mem_append_left _ (List.mem_append_right _ (List.mem_append_right _ hp)))) (Bl.slcM hbn hs (fun p hp => List.mem_append_right _ hp)) (List.length_map ..) (by omega)) ?_
       rintro _ w3 ⟨rfl, hs'⟩
       replace hs := hs.nil hs'
       clear hs'
       refine RL_want rfl rfl (L_not rfl rfl (L_pick_f rfl rfl rfl (RL_then (W_if_false rfl (W_skip' (Nx_then (W_exit' (Ex_then_exit (Ex_block_hit (Nx_then (W_region (L_move rfl rfl ?_))))))))))))
       refine L_add rfl rfl rfl (wrp_i64 (by omega)) ?_
       refine L_assign rfl rfl (RL_nil' ?_)
       refine Nx_loopP (k, z, gr, i + 1, _) (is := [1, 2, 5, 7, 9, 10]) (I' := (fun (k : Bok) (z : Bok) (gr : Int) (i : Nat) (w : World) => (i ≤ n) ∧ (k.B = B ∧ k.r = r ∧ z.B = C ∧ z.r = r) ∧ (k.ok w0 i ∧ z.ok w0 i) ∧ (BEq k z) ∧ (k.next ≤ 1 + 256 * i ∧ gr < k.next) ∧ (HS w0 w (k.bks ++ (z.bks ++ [(b2, Row 49 r.cells)])))) (k) (z) (gr) (i + 1) (_)) rfl rfl rfl ?_ ?_
       ·
        refine ⟨by omega, ⟨hkB, hkr, hzB, hzr⟩, ⟨hk.more (by omega), hz.more (by omega)⟩, hbe, ⟨by omega, hgr⟩, ?_⟩
        rw [hL1, hL0] at hs
        have h1 := HS.re (L' := (Mt ++ Mn) ++ (k.bks ++ (z.bks ++ [(b2, Row 49 r.cells)]))) hs (fun c => by simp only [List.map_append, List.map_cons, List.map_nil, List.sum_append, List.sum_cons, List.sum_nil]; omega)
        exact HS.dropL h1 (hbt.own.app hbn.own)
       ·
        show n - (i + 1) < n - i; omega
      ·
       clear hS
       have hre' : refE k.last m.time m.ps = 0 := by rw [← her]; exact hre
       subst hre
       have hlp := ref_len hre'
       have hO := step_once hk hlp hst
       have hk'B : k'.B = B := by rw [hst.sameB, hkB]
       have hk'r : k'.r = r := by rw [hst.samer, hkr]
       have hn1 : k.next ≤ k'.next ∧ k'.next ≤ k.next + (m.ps.length : Int) := ⟨(hst.news.facts hk.next1).2.1, (hst.news.facts hk.next1).2.2.1⟩
       have hnx' : k'.next ≤ 1 + 256 * ((i + 1 : Nat) : Int) := by omega
       have hcnt := hk.cnt
       have hcnt' := hk'.cnt
       obtain ⟨a1, c1, rfl, _⟩ := hb1.slice
       clear hs
       have hs : HS w0 w1 (k'.bks ++ (L1 ++ M1)) := by rw [← List.append_assoc]; exact hs1
       clear hs1
       refine L_move rfl rfl (RL_sg (SG_stage [13, 14, 15, 16] [] [] (fun _ _ _ => False) (g' := 0) (by kernel_rfl) (by kernel_rfl) (fun _ _ _ _ _ h => h) hs ?_))
       refine PL_val rfl (fun w => R_extract rfl rfl) ?_
       refine PL_val rfl (fun w => R_extract rfl rfl) ?_
       refine PL_val rfl (fun w => R_assign rfl) ?_
       refine PL_val rfl (fun w => R_assign rfl) ?_
       refine PL_end (HL_tail ?_)
       intro w hs
       refine RL_sg (SG_end (by kernel_rfl) ?_)
       refine Nx_then (W_seq (W_region (L_move rfl rfl ?_)))
       have hL1M : Own w0 (L1 ++ M1) := hL1o.app hb1.own
       have hT := tracks_ok w0 w (i + 1) k' (L1 ++ M1) hs hk' hL1M
       rw [hk'B] at hT
       refine L_call rfl Try.fun12 rfl (hT) ?_
       rintro _ w1 ⟨Mn, hs1, hbn⟩
       clear hs hT
       obtain ⟨an, cn', rfl, _⟩ := hbn.slice
       obtain ⟨A, hA⟩ : ∃ A, A = k'.bks ++ (L1 ++ M1) ++ Mn := ⟨_, rfl⟩
       have hs : HS w0 w1 (A ++ []) := by rw [hA, List.append_nil]; exact hs1
       clear hs1
       have hAo : Own w0 A := by rw [hA]; exact (hk'.own.app hL1M).app hbn.own
       have hMtA : ∀ p ∈ Mt, p ∈ A := fun p hp => by rw [hA, hL1]; exact List.mem_append_left _ (List.mem_append_right _ (List.mem_append_left _ (List.mem_append_right _ hp)))
       have hM1A : ∀ p ∈ M1, p ∈ A := fun p hp => by rw [hA]; exact List.mem_append_left _ (List.mem_append_right _ (List.mem_append_right _ hp))
       have hMnA : ∀ p ∈ Mn, p ∈ A := fun p hp => by rw [hA]; exact List.mem_append_right _ hp
       have hWs : ∀ {w' : World} {L' : Bks}, HS w0 w' L' → (∀ p ∈ A, p ∈ L') → SlC w' at' (tcs (k.os.map On.t)) := fun h1 h2 => Bl.slcM hbt h1 (fun p hp => h2 p (hMtA p hp))
       have hNs : ∀ {w' : World} {L' : Bks}, HS w0 w' L' → (∀ p ∈ A, p ∈ L') → SlC w' an (tcs (k'.os.map On.t)) := fun h1 h2 => Bl.slcM hbn h1 (fun p hp => h2 p (hMnA p hp))
       have hTs : ∀ {w' : World} {L' : Bks}, HS w0 w' L' → (∀ p ∈ A, p ∈ L') → SlC w' a1 (il told) := fun h1 h2 => Bl.slcM hb1 h1 (fun p hp => h2 p (hM1A p hp))
       have hApp : ∀ {R : Bks}, ∀ p ∈ A, p ∈ A ++ R := fun p hp => List.mem_append_left _ hp
       have hl2 : ∀ {w' : World} {L' : Bks}, HS w0 w' L' → Own w0 L' → w'.cell? ((aD a).add (i * 4 + 2)) = some (.slice m.a m.ps.length m.c) := fun h1 h2 => (ha.old h1 h2).2 _ _ (mcs_get (ts := l) (i := i) (q := 2) (by omega) (by rw [← hme]; rfl))
       have haoL : a = some (aD a) := (ha.old hs (hAo.app Own.nil)).ao (by rw [mcs_len]; omega)
       have htold : told.length = m.ps.length := htl
       refine L_assign rfl rfl (RL_then (W_seq (W_seq (W_region (L_move rfl rfl (L_neq rfl rfl rfl (dfalse (by omega)) ?_))))))
       refine RL_then (W_if_false rfl (W_skip' (Nx_then (W_seq (W_seq (W_region (L_move rfl rfl (L_len rfl Try.underlying27 rfl (L_move rfl rfl (L_move rfl rfl (L_idxN rfl Try.underlying50 Try.ti25 rfl rfl (natc_k _) (by omega) haoL ?_)))))))))))
       refine L_fieldAddr rfl (off := 2) Try.underlying25 rfl rfl Try.ti23 rfl ?_
       refine L_load rfl Try.one23 rfl (by (rw [add_add]; exact hl2 hs (hAo.app Own.nil))) ?_
       refine L_len rfl Try.underlying23 rfl (L_neq rfl rfl rfl (dfalse (by omega)) ?_)
       refine RL_then (W_if_false rfl (W_skip' (Nx_then (W_seq (W_region (L_assign rfl rfl (RL_then (W_seq (W_seq (W_region (L_assign rfl rfl (RL_then ?_))))))))))))
       refine W_block ?_
       refine W_loop5 (fun (pb : VB) (pl : List Plt) (g : Int) (q : Nat) (w : World) => [(1, .slice a n c), (2, .pointer (some ⟨b2, 0, none⟩)), (5, bv B), (7, bv C), (9, .int .i64 g), (10, .int .i64 i), (11, .slice at' k.os.length ct), (12, .slice a1 m.ps.length c1), (14, .slice an k'.os.length cn'), (15, pb.v), (16, .int .i64 q)]) (fun (pb : VB) (pl : List Plt) (g : Int) (q : Nat) (w : World) => w) (fun (pb : VB) (pl : List Plt) (g : Int) (q : Nat) (w : World) => (q ≤ m.ps.length) ∧ (All2 PltE (m.ps.take q) pl) ∧ (g < k'.next ∧ ∀ j, q ≤ j → k.next ≤ told.getD j 0 → g < told.getD j 0) ∧ (Bl w0 58 5 pb.v q (pcs pl) pb.M) ∧ (HS w0 w (A ++ pb.M))) (fun (pb : VB) (pl : List Plt) (g : Int) (q : Nat) (w : World) => m.ps.length - q) (⟨.slice none 0 0, []⟩) ([]) (gr) (0) (_) (is := [1, 2, 5, 7, 9, 10, 11, 12, 14, 15, 16]) rfl rfl ?_ ?_
       ·
        exact ⟨Nat.zero_le _, .nil, ⟨by omega, fun j _ hj => by omega⟩, .nil, hs⟩
       ·
        clear hs
        intro pb pl g q w hI
        show W _ _ _ _ [(1, .slice a n c), (2, .pointer (some ⟨b2, 0, none⟩)), (5, bv B), (7, bv C), (9, .int .i64 g), (10, .int .i64 i), (11, .slice at' k.os.length ct), (12, .slice a1 m.ps.length c1), (14, .slice an k'.os.length cn'), (15, pb.v), (16, .int .i64 q)] w
        obtain ⟨hq, hpe, ⟨hg1, hg2⟩, hbp, hs⟩ := hI
        by_cases hlt2 : q < m.ps.length
        ·
         have hAp : Own w0 (A ++ pb.M) := hAo.app hbp.own
         have hpA : SlC w m.a (pcs m.ps) := hmk.pl.old hs hAp
         have haoP : m.a = some (aD m.a) := hpA.ao (by rw [pcs_len]; omega)
         obtain ⟨p, hp⟩ : ∃ p, p = m.ps.getD q plt0 := ⟨_, rfl⟩
         have hpq : m.ps[q]? = some p := by rw [hp, List.getD_eq_getElem?_getD, List.getElem?_eq_getElem hlt2]; rfl
         have hpget : ∀ {w' : World} {z : Nat} {v : Value}, HS w0 w' (A ++ pb.M) → p.cells[z]? = some v → w'.cell? ((aD m.a).add (q * 5 + z)) = some v := fun {w' z v} h1 hv => (hmk.pl.old h1 hAp).2 _ _ (pcs_get (ts := m.ps) (i := q) hlt2 (by rw [← hp]; exact hv))
         refine W_seq (W_seq (W_region (L_move rfl rfl (L_move rfl rfl (L_len rfl Try.underlying27 rfl (L_lss rfl rfl rfl (dtrue (by omega)) ?_))))))
         refine RL_then (W_if_true rfl (W_skip' (Nx_then (W_seq (W_block (W_seq (W_pht [0, 1, 2, 3, 4, 6, 10, 11, 12, 13, 15, 19, 20] [5, 7, 8, 9, 14, 16, 17, 18, 21] [22, 23, 24] (fun _ _ _ => False) Try.mixed (by kernel_rfl) (fun _ _ _ _ _ h => h) hs ?_)))))))
         refine PL_val rfl (fun w => R_move rfl) ?_
         refine PL_val rfl (fun w => R_move rfl) ?_
         refine PL_val rfl (fun w => R_move rfl) ?_
         refine PL_val rfl (fun w => R_idxN Try.underlying50 Try.ti25 rfl rfl (natc_k _) (by omega) haoL) ?_
         refine PL_val rfl (fun w => R_fieldAddr (off := 2) Try.underlying25 rfl rfl Try.ti23 rfl) ?_
         refine PL_val rfl (fun w => R_move rfl) ?_
         refine PL_val rfl (fun w => R_move rfl) ?_
         refine PL_val rfl (fun w => R_move rfl) ?_
         refine PL_val rfl (fun w => R_idxN Try.underlying50 Try.ti25 rfl rfl (natc_k _) (by omega) haoL) ?_
         refine PL_val rfl (fun w => R_fieldAddr (off := 2) Try.underlying25 rfl rfl Try.ti23 rfl) ?_
         refine PL_val rfl (fun w => R_move rfl) ?_
         refine PL_val rfl (fun w => R_move rfl) ?_
         refine PL_val rfl (fun w => R_itof Try.underlying3 Try.underlying22 rfl) ?_
         refine PL_end ?_
         refine HL_val rfl (fun w hs => R_load Try.one23 rfl (by (rw [add_add]; exact hl2 hs hAp))) ?_
         refine HL_val rfl (fun w hs => R_idxN Try.underlying23 Try.ti58 rfl rfl (natc_k _) (by omega) haoP) ?_
         refine HL_val rfl (fun w hs => R_fieldAddr (off := 0) Try.underlying58 rfl rfl Try.ti22 rfl) ?_
         refine HL_val rfl (fun w hs => R_load Try.one22 rfl (by (rw [add_add]; exact hpget hs (z := 0) rfl))) ?_
         refine HL_val rfl (fun w hs => R_load Try.one23 rfl (by (rw [add_add]; exact hl2 hs hAp))) ?_
         refine HL_val rfl (fun w hs => R_idxN Try.underlying23 Try.ti58 rfl rfl (natc_k _) (by omega) haoP) ?_
         refine HL_val rfl (fun w hs => R_fieldAddr (off := 3) Try.underlying58 rfl rfl Try.ti22 rfl) ?_
         refine HL_val rfl (fun w hs => R_load Try.one22 rfl (by (rw [add_add]; exact hpget hs (z := 3) rfl))) ?_
         refine HL_val rfl (fun w hs => R_build rfl (Pl.built Try.pl58 rfl)) ?_
         refine HL_tail ?_
         intro w hs
         refine L_buildSlice rfl hs Try.underlying23 Try.ti58 rfl (by decide) rfl (by simp [Value.cells]) ?_
         intro b132 w hb132 hnb132 hs
         skip
         obtain ⟨np, hnp⟩ : ∃ np : Plt, np = ⟨p.r, 0, FloatKind.f64.nearest (q : Int), p.b, 0⟩ := ⟨_, rfl⟩
         have hs1 : HS w0 w ((A ++ pb.M) ++ [(b132, Row 58 np.cells)]) := by rw [hnp]; exact hs
         clear hs
         have hs := hs1
         clear hs1
         refine L_appendT (L := A) rfl Try.underlying23 Try.ti58 rfl hs hb132 hbp rfl rfl rfl (Plt.one _) (by omega) (by omega) ?_
         intro v' w M' hs hbp'
         have hpe' : All2 PltE (m.ps.take (q + 1)) (pl ++ [np]) := by
          rw [take_snoc hpq]
          exact hpe.snoc (by rw [hnp]; exact ⟨rfl, rfl⟩)
         have hbp2 : Bl w0 58 5 v' (q + 1) (pcs (pl ++ [np])) M' := by
          rw [show pcs (pl ++ [np]) = pcs pl ++ np.cells by unfold pcs; rw [List.flatMap_append, List.flatMap_singleton]]
          exact hbp'
         clear hpget hpA hAp hbp hbp' hpe
         have hAp : Own w0 (A ++ M') := hAo.app hbp2.own
         obtain ⟨tk, htk⟩ : ∃ tk, tk = told.getD q 0 := ⟨_, rfl⟩
         have hkT : (il told)[q]? = some (.int .i64 tk) := by rw [htk]; exact il_get (by omega)
         have haoT : a1 = some (aD a1) := (hTs hs hApp).ao (by rw [il_length]; omega)
         refine L_assign rfl rfl (RL_then (W_seq (W_seq (W_region (L_assign rfl rfl (RL_then (W_block ?_)))))))
         refine W_loop2 (fun (j : Nat) (w : World) => [(1, .slice a n c), (2, .pointer (some ⟨b2, 0, none⟩)), (5, bv B), (7, bv C), (9, .int .i64 g), (10, .int .i64 i), (11, .slice at' k.os.length ct), (12, .slice a1 m.ps.length c1), (14, .slice an k'.os.length cn'), (15, v'), (16, .int .i64 q), (17, .int .i64 j)]) (fun (j : Nat) (w : World) => w) (fun (j : Nat) (w : World) => (j ≤ q) ∧ (HS w0 w (A ++ M'))) (fun (j : Nat) (w : World) => q - j) (0) (_) (is := [1, 2, 5, 7, 9, 10, 11, 12, 14, 15, 16, 17]) rfl rfl ?_ ?_
         ·
          exact ⟨Nat.zero_le _, hs⟩
         ·
          clear hs
          intro j w hI
          show W _ _ _ _ [(1, .slice a n c), (2, .pointer (some ⟨b2, 0, none⟩)), (5, bv B), (7, bv C), (9, .int .i64 g), (10, .int .i64 i), (11, .slice at' k.os.length ct), (12, .slice a1 m.ps.length c1), (14, .slice an k'.os.length cn'), (15, v'), (16, .int .i64 q), (17, .int .i64 j)] w
          obtain ⟨hj, hs⟩ := hI
          by_cases hlt3 : j < q
          ·
           obtain ⟨tj, htj⟩ : ∃ tj, tj = told.getD j 0 := ⟨_, rfl⟩
           have hjT : (il told)[j]? = some (.int .i64 tj) := by rw [htj]; exact il_get (by omega)
           refine W_seq (W_seq (W_region (L_move rfl rfl (L_move rfl rfl (L_lss rfl rfl rfl (dtrue (by omega)) ?_)))))
           refine RL_then (W_if_true rfl (W_skip' (Nx_then (W_seq (W_block (W_seq ?_))))))
           by_cases hte : tj = tk
           ·
            have hz0 : tk = 0 := by rw [htk]; exact hO.inj j q hlt3 (by rw [← htj, ← htk, hte])
            refine W_pht [0, 1, 2, 4, 5, 6] [3, 7, 8, 9, 10, 11, 12, 13, 14, 15] [] (fun _ _ _ => False) Try.mixed (by kernel_rfl) (fun _ _ _ _ _ h => h) hs ?_
            refine PL_val rfl (fun w => R_move rfl) ?_
            refine PL_val rfl (fun w => R_move rfl) ?_
            refine PL_val rfl (fun w => R_idx1 Try.underlying27 Try.ti3 rfl rfl (natc_k _) (by omega) haoT) ?_
            refine PL_val rfl (fun w => R_move rfl) ?_
            refine PL_val rfl (fun w => R_move rfl) ?_
            refine PL_val rfl (fun w => R_idx1 Try.underlying27 Try.ti3 rfl rfl (natc_k _) (by omega) haoT) ?_
            refine PL_end (HL_val rfl (fun w hs => R_load Try.one3 rfl (by exact (hTs hs hApp).2 _ _ hjT)) ?_)
            refine HL_val rfl (fun w hs => R_load Try.one3 rfl (by exact (hTs hs hApp).2 _ _ hkT)) ?_
            refine HL_val rfl (fun w hs => R_eql rfl rfl (dtrue (by omega))) ?_
            refine HL_val rfl (fun w hs => R_move rfl) ?_
            refine HL_want rfl rfl (HL_val rfl (fun w hs => R_move rfl) ?_)
            refine HL_want rfl rfl (HL_val rfl (fun w hs => R_move rfl) ?_)
            refine HL_want rfl rfl (HL_val rfl (fun w hs => R_idx1 Try.underlying27 Try.ti3 rfl rfl (natc_k _) (by omega) haoT) ?_)
            refine HL_want rfl rfl (HL_val rfl (fun w hs => R_load Try.one3 rfl (by exact (hTs hs hApp).2 _ _ hkT)) ?_)
            refine HL_want rfl rfl (HL_val rfl (fun w hs => R_neq rfl rfl (dfalse (by omega))) ?_)
            refine HL_val rfl (fun w hs => R_pick_t rfl rfl) ?_
            refine HL_tail ?_
            intro w hs
            refine RL_then (W_if_false rfl (W_skip' (Nx_block (Nx_then (W_region (L_move rfl rfl (L_add rfl rfl rfl (wrp_i64 (by omega)) ?_)))))))
            refine L_assign rfl rfl (RL_nil' ?_)
            refine Nx_loopP (j + 1, _) (is := [1, 2, 5, 7, 9, 10, 11, 12, 14, 15, 16, 17]) (I' := (fun (j : Nat) (w : World) => (j ≤ q) ∧ (HS w0 w (A ++ M'))) (j + 1) (_)) rfl rfl rfl ?_ ?_
            ·
             exact ⟨by omega, hs⟩
            ·
             show q - (j + 1) < q - j; omega
           ·
            refine W_pht [0, 1, 2, 4, 5, 6] [3, 7, 8, 9, 10, 11, 12, 13, 14, 15] [] (fun _ _ _ => False) Try.mixed (by kernel_rfl) (fun _ _ _ _ _ h => h) hs ?_
            refine PL_val rfl (fun w => R_move rfl) ?_
            refine PL_val rfl (fun w => R_move rfl) ?_
            refine PL_val rfl (fun w => R_idx1 Try.underlying27 Try.ti3 rfl rfl (natc_k _) (by omega) haoT) ?_
            refine PL_val rfl (fun w => R_move rfl) ?_
            refine PL_val rfl (fun w => R_move rfl) ?_
            refine PL_val rfl (fun w => R_idx1 Try.underlying27 Try.ti3 rfl rfl (natc_k _) (by omega) haoT) ?_
            refine PL_end (HL_val rfl (fun w hs => R_load Try.one3 rfl (by exact (hTs hs hApp).2 _ _ hjT)) ?_)
            refine HL_val rfl (fun w hs => R_load Try.one3 rfl (by exact (hTs hs hApp).2 _ _ hkT)) ?_
            refine HL_val rfl (fun w hs => R_eql rfl rfl (dfalse (by omega))) ?_
            refine HL_val rfl (fun w hs => R_move rfl) ?_
            refine HL_skip rfl rfl rfl rfl (HL_skip rfl rfl rfl rfl (HL_skip rfl rfl rfl rfl (HL_skip rfl rfl rfl rfl (HL_skip rfl rfl rfl rfl (HL_val rfl (fun w hs => R_pick_f rfl rfl) ?_)))))
            refine HL_tail ?_
            intro w hs
            refine RL_then (W_if_false rfl (W_skip' (Nx_block (Nx_then (W_region (L_move rfl rfl (L_add rfl rfl rfl (wrp_i64 (by omega)) ?_)))))))
            refine L_assign rfl rfl (RL_nil' ?_)
            refine Nx_loopP (j + 1, _) (is := [1, 2, 5, 7, 9, 10, 11, 12, 14, 15, 16, 17]) (I' := (fun (j : Nat) (w : World) => (j ≤ q) ∧ (HS w0 w (A ++ M'))) (j + 1) (_)) rfl rfl rfl ?_ ?_
            ·
             exact ⟨by omega, hs⟩
            ·
             show q - (j + 1) < q - j; omega
          ·
           obtain rfl : q = j := by omega
           refine W_seq (W_seq (W_region (L_move rfl rfl (L_move rfl rfl (L_lss rfl rfl rfl (dfalse (by omega)) ?_)))))
           refine RL_then (W_if_false rfl (W_exit' (Ex_then_exit (Ex_loop_exit (Ex_block_hit (Nx_then (W_seq (W_region (L_move rfl rfl (L_move rfl rfl (L_move rfl rfl (L_idx1 rfl Try.underlying27 Try.ti3 rfl rfl (natc_k _) (by omega) haoT ?_))))))))))))
           refine L_load rfl Try.one3 rfl (by exact (hTs hs hApp).2 _ _ hkT) ?_
           refine L_call rfl Try.fun22 rfl (has_ok an k'.os.length cn' (k'.os.map On.t) tk w (hNs hs hApp) (List.length_map ..) (by omega)) ?_
           rintro _ w1 ⟨t1, f1, rfl, hs', hf1, hf1'⟩
           replace hs := hs.nil hs'
           clear hs'
           refine L_move rfl rfl (L_extract rfl rfl rfl (L_extract rfl rfl rfl ?_))
           refine L_alloc rfl hs Try.ti36 ?_; intro b18 w hb18 _ hs; replace hs := HS.push hs
           refine L_storeA hs (i := 0) rfl Try.ti36 rfl rfl (by rfl) (by simp [Trk.cells]) (by exact Trk.one _) ?_
           intro w hs
           dsimp only [List.set_cons_succ, List.set_cons_zero, List.cons_append, List.nil_append] at hs
           refine L_assign rfl rfl (RL_then (W_seq (W_region ?_)))
           have hs1 : HS w0 w ((b18, Row 36 t1.cells) :: (A ++ M')) := hs
           clear hs
           have hs := hs1
           clear hs1
           have hA1 : ∀ {x : Nat × Obj}, ∀ p ∈ A, p ∈ x :: (A ++ M') := fun p hp => List.mem_cons_of_mem _ (List.mem_append_left _ hp)
           refine L_move rfl rfl (L_move rfl rfl (L_move rfl rfl (L_idx1 rfl Try.underlying27 Try.ti3 rfl rfl (natc_k _) (by omega) haoT ?_)))
           refine L_load rfl Try.one3 rfl (by exact (hTs hs hA1).2 _ _ hkT) ?_
           refine L_call rfl Try.fun22 rfl (has_ok at' k.os.length ct (k.os.map On.t) tk w (hWs hs hA1) (List.length_map ..) (by omega)) ?_
           rintro _ w1 ⟨t2, f2, rfl, hs', hf2, hf2'⟩
           replace hs := hs.nil hs'
           clear hs'
           refine L_move rfl rfl (L_extract rfl rfl rfl (L_extract rfl rfl rfl ?_))
           refine L_alloc rfl hs Try.ti36 ?_; intro b20 w hb20 _ hs; replace hs := HS.push hs
           refine L_storeA hs (i := 0) rfl Try.ti36 rfl rfl (by rfl) (by simp [Trk.cells]) (by exact Trk.one _) ?_
           intro w hs
           dsimp only [List.set_cons_succ, List.set_cons_zero, List.cons_append, List.nil_append] at hs
           refine L_assign rfl rfl (RL_then (W_seq (W_seq (W_region ?_))))
           have hs1 : HS w0 w ((b20, Row 36 t2.cells) :: (b18, Row 36 t1.cells) :: (A ++ M')) := hs
           clear hs
           have hs := hs1
           clear hs1
           have hA2 : ∀ {x y : Nat × Obj}, ∀ p ∈ A, p ∈ x :: y :: (A ++ M') := fun p hp => List.mem_cons_of_mem _ (List.mem_cons_of_mem _ (List.mem_append_left _ hp))
           have hdrop : ∀ {w' : World}, HS w0 w' ((b20, Row 36 t2.cells) :: (b18, Row 36 t1.cells) :: (A ++ M')) → HS w0 w' (A ++ M') := fun h => HS.pop (HS.pop h hb20) hb18
           by_cases h0 : tk = 0
           ·
            refine L_move rfl rfl (L_move rfl rfl (L_idx1 rfl Try.underlying27 Try.ti3 rfl rfl (natc_k _) (by omega) haoT ?_))
            refine L_load rfl Try.one3 rfl (by exact (hTs hs hA2).2 _ _ hkT) ?_
            refine L_neq rfl rfl rfl (dfalse (by omega)) ?_
            refine L_move rfl rfl (RL_skip rfl rfl rfl rfl (RL_skip rfl rfl rfl rfl (RL_skip rfl rfl rfl rfl (RL_skipU rfl rfl rfl (RL_skipU rfl rfl rfl (RL_skipU rfl rfl rfl (RL_skipU rfl rfl rfl (RL_skip rfl rfl rfl rfl (RL_skip rfl rfl rfl rfl (RL_skipU rfl rfl rfl (RL_skipU rfl rfl rfl (RL_skipU rfl rfl rfl ?_))))))))))))
            refine RL_skipU rfl rfl rfl (RL_skipU rfl rfl rfl (RL_skipU rfl rfl rfl (RL_skipU rfl rfl rfl (RL_skipU rfl rfl rfl (RL_skipU rfl rfl rfl (RL_skipU rfl rfl rfl (RL_skip rfl rfl rfl rfl (L_pick_f rfl rfl rfl (RL_then (W_if_false rfl (W_skip' (Nx_then ?_))))))))))))
            refine W_seq (W_region (L_move rfl rfl (L_move rfl rfl (L_idx1 rfl Try.underlying27 Try.ti3 rfl rfl (natc_k _) (by omega) haoT ?_))))
            refine L_load rfl Try.one3 rfl (by exact (hTs hs hA2).2 _ _ hkT) ?_
            refine L_neq rfl rfl rfl (dfalse (by omega)) ?_
            refine L_move rfl rfl (RL_skip rfl rfl rfl rfl (RL_skip rfl rfl rfl rfl (L_pick_f rfl rfl rfl (RL_then (W_if_false rfl (W_skip' (Nx_block (Nx_then (W_region (L_move rfl rfl (L_add rfl rfl rfl (wrp_i64 (by omega)) ?_)))))))))))
            refine L_assign rfl rfl (RL_nil' ?_)
            refine Nx_loopP (⟨v', M'⟩, pl ++ [np], g, q + 1, _) (is := [1, 2, 5, 7, 9, 10, 11, 12, 14, 15, 16]) (I' := (fun (pb : VB) (pl : List Plt) (g : Int) (q : Nat) (w : World) => (q ≤ m.ps.length) ∧ (All2 PltE (m.ps.take q) pl) ∧ (g < k'.next ∧ ∀ j, q ≤ j → k.next ≤ told.getD j 0 → g < told.getD j 0) ∧ (Bl w0 58 5 pb.v q (pcs pl) pb.M) ∧ (HS w0 w (A ++ pb.M))) (⟨v', M'⟩) (pl ++ [np]) (g) (q + 1) (_)) rfl rfl rfl ?_ ?_
            ·
             exact ⟨by omega, hpe', ⟨hg1, fun j hj h => hg2 j (by omega) h⟩, hbp2, hdrop hs⟩
            ·
             show m.ps.length - (q + 1) < m.ps.length - q; omega
           ·
            obtain ⟨hf1t, hodd⟩ := once_has hk' hO (q := q) (t := t1) (f := f1) (by rw [← htk]; exact h0) (by rw [← htk]; exact hf1) (by rw [← htk]; exact hf1')
            subst hf1t
            have hodd' : ((t1.seen : Nat) : Int).tmod 2 = 1 := by
             rw [show ((t1.seen : Nat) : Int).tmod 2 = ((t1.seen % 2 : Nat) : Int) from rfl, hodd]; rfl
            cases f2
            ·
             have hnew : k.next ≤ tk := by
              rw [htk]
              exact hO.nw q (by rw [← htk]; exact h0) (fun o ho h => hf2' rfl _ (List.mem_map.2 ⟨o, ho, rfl⟩) (by rw [htk]; exact h))
             have hgt : g < tk := by rw [htk]; exact hg2 q (Nat.le_refl _) (by rw [← htk]; exact hnew)
             refine L_move rfl rfl (L_move rfl rfl (L_idx1 rfl Try.underlying27 Try.ti3 rfl rfl (natc_k _) (by omega) haoT ?_))
             refine L_load rfl Try.one3 rfl (by exact (hTs hs hA2).2 _ _ hkT) ?_
             refine L_neq rfl rfl rfl (dtrue (by omega)) ?_
             refine L_move rfl rfl (RL_want rfl rfl (L_move rfl rfl (RL_want rfl rfl (L_not rfl rfl (RL_want rfl rfl (L_move rfl rfl (RL_want rfl rfl (L_fieldAddr rfl (off := 12) Try.underlying36 rfl rfl Try.ti34 rfl (RL_want rfl rfl (L_load rfl Try.one34 rfl (by exact hs.cellA (i := 1) (j := 12) rfl rfl) ?_))))))))))
             refine RL_want rfl rfl (L_rem rfl rfl rfl (by omega) ?_)
             refine RL_want rfl rfl ?_
             refine L_neq rfl rfl rfl (dfalse (by rw [hodd']; decide)) ?_
             refine RL_want rfl rfl (L_pick_f rfl rfl rfl (RL_want rfl rfl (L_move rfl rfl (RL_want rfl rfl (L_move rfl rfl (RL_want rfl rfl (L_not rfl rfl (RL_want rfl rfl (L_move rfl rfl (RL_want rfl rfl (L_move rfl rfl (RL_want rfl rfl ?_))))))))))))
             refine L_move rfl rfl (RL_want rfl rfl (L_idx1 rfl Try.underlying27 Try.ti3 rfl rfl (natc_k _) (by omega) haoT ?_))
             refine RL_want rfl rfl (L_load rfl Try.one3 rfl (by exact (hTs hs hA2).2 _ _ hkT) ?_)
             refine RL_want rfl rfl (L_move rfl rfl (RL_want rfl rfl (L_leq rfl rfl rfl (dfalse (by omega)) ?_)))
             refine RL_want rfl rfl (L_pick_t rfl rfl rfl (RL_want rfl rfl (L_pick_f rfl rfl rfl (L_pick_t rfl rfl rfl (RL_then (W_if_false rfl (W_skip' (Nx_then (W_seq (W_region (L_move rfl rfl (L_move rfl rfl ?_))))))))))))
             refine L_idx1 rfl Try.underlying27 Try.ti3 rfl rfl (natc_k _) (by omega) haoT ?_
             refine L_load rfl Try.one3 rfl (by exact (hTs hs hA2).2 _ _ hkT) ?_
             refine L_neq rfl rfl rfl (dtrue (by omega)) ?_
             refine L_move rfl rfl (RL_want rfl rfl (L_move rfl rfl (RL_want rfl rfl (L_not rfl rfl (L_pick_t rfl rfl rfl (RL_then (W_if_true rfl (W_region (L_move rfl rfl (L_move rfl rfl (L_idx1 rfl Try.underlying27 Try.ti3 rfl rfl (natc_k _) (by omega) haoT ?_)))))))))))
             refine L_load rfl Try.one3 rfl (by exact (hTs hs hA2).2 _ _ hkT) ?_
             refine L_assign rfl rfl (RL_nil' (Nx_block (Nx_then (W_region (L_move rfl rfl (L_add rfl rfl rfl (wrp_i64 (by omega)) ?_))))))
             refine L_assign rfl rfl (RL_nil' ?_)
             refine Nx_loopP (⟨v', M'⟩, pl ++ [np], tk, q + 1, _) (is := [1, 2, 5, 7, 9, 10, 11, 12, 14, 15, 16]) (I' := (fun (pb : VB) (pl : List Plt) (g : Int) (q : Nat) (w : World) => (q ≤ m.ps.length) ∧ (All2 PltE (m.ps.take q) pl) ∧ (g < k'.next ∧ ∀ j, q ≤ j → k.next ≤ told.getD j 0 → g < told.getD j 0) ∧ (Bl w0 58 5 pb.v q (pcs pl) pb.M) ∧ (HS w0 w (A ++ pb.M))) (⟨v', M'⟩) (pl ++ [np]) (tk) (q + 1) (_)) rfl rfl rfl ?_ ?_
             ·
              exact ⟨by omega, hpe', ⟨by rw [htk]; exact hO.low q, fun j hj h => by rw [htk]; exact hO.asc q j (by omega) (by rw [← htk]; exact hnew) h⟩, hbp2, hdrop hs⟩
             ·
              show m.ps.length - (q + 1) < m.ps.length - q; omega
            ·
             refine L_move rfl rfl (L_move rfl rfl (L_idx1 rfl Try.underlying27 Try.ti3 rfl rfl (natc_k _) (by omega) haoT ?_))
             refine L_load rfl Try.one3 rfl (by exact (hTs hs hA2).2 _ _ hkT) ?_
             refine L_neq rfl rfl rfl (dtrue (by omega)) ?_
             refine L_move rfl rfl (RL_want rfl rfl (L_move rfl rfl (RL_want rfl rfl (L_not rfl rfl (RL_want rfl rfl (L_move rfl rfl (RL_want rfl rfl (L_fieldAddr rfl (off := 12) Try.underlying36 rfl rfl Try.ti34 rfl (RL_want rfl rfl (L_load rfl Try.one34 rfl (by exact hs.cellA (i := 1) (j := 12) rfl rfl) ?_))))))))))
             refine RL_want rfl rfl (L_rem rfl rfl rfl (by omega) ?_)
             refine RL_want rfl rfl ?_
             refine L_neq rfl rfl rfl (dfalse (by rw [hodd']; decide)) ?_
             refine RL_want rfl rfl (L_pick_f rfl rfl rfl (RL_want rfl rfl (L_move rfl rfl (RL_want rfl rfl (L_move rfl rfl (RL_want rfl rfl (L_not rfl rfl (RL_want rfl rfl (L_move rfl rfl (RL_skip rfl rfl rfl rfl (RL_skip rfl rfl rfl rfl (RL_skip rfl rfl rfl rfl ?_))))))))))))
             refine RL_skip rfl rfl rfl rfl (RL_skip rfl rfl rfl rfl (RL_skip rfl rfl rfl rfl (RL_want rfl rfl (L_pick_f rfl rfl rfl (RL_want rfl rfl (L_pick_f rfl rfl rfl (L_pick_t rfl rfl rfl (RL_then (W_if_false rfl (W_skip' (Nx_then (W_seq ?_))))))))))))
             refine W_region (L_move rfl rfl (L_move rfl rfl (L_idx1 rfl Try.underlying27 Try.ti3 rfl rfl (natc_k _) (by omega) haoT ?_)))
             refine L_load rfl Try.one3 rfl (by exact (hTs hs hA2).2 _ _ hkT) ?_
             refine L_neq rfl rfl rfl (dtrue (by omega)) ?_
             refine L_move rfl rfl (RL_want rfl rfl (L_move rfl rfl (RL_want rfl rfl (L_not rfl rfl (L_pick_t rfl rfl rfl (RL_then (W_if_false rfl (W_skip' (Nx_block (Nx_then (W_region (L_move rfl rfl ?_))))))))))))
             refine L_add rfl rfl rfl (wrp_i64 (by omega)) ?_
             refine L_assign rfl rfl (RL_nil' ?_)
             refine Nx_loopP (⟨v', M'⟩, pl ++ [np], g, q + 1, _) (is := [1, 2, 5, 7, 9, 10, 11, 12, 14, 15, 16]) (I' := (fun (pb : VB) (pl : List Plt) (g : Int) (q : Nat) (w : World) => (q ≤ m.ps.length) ∧ (All2 PltE (m.ps.take q) pl) ∧ (g < k'.next ∧ ∀ j, q ≤ j → k.next ≤ told.getD j 0 → g < told.getD j 0) ∧ (Bl w0 58 5 pb.v q (pcs pl) pb.M) ∧ (HS w0 w (A ++ pb.M))) (⟨v', M'⟩) (pl ++ [np]) (g) (q + 1) (_)) rfl rfl rfl ?_ ?_
             ·
              exact ⟨by omega, hpe', ⟨hg1, fun j hj h => hg2 j (by omega) h⟩, hbp2, hdrop hs⟩
             ·
              show m.ps.length - (q + 1) < m.ps.length - q; omega
        ·
         obtain rfl : m.ps.length = q := by omega
         rw [List.take_length] at hpe
         have hAp : Own w0 (A ++ pb.M) := hAo.app hbp.own
         refine W_seq (W_seq (W_region (L_move rfl rfl (L_move rfl rfl (L_len rfl Try.underlying27 rfl (L_lss rfl rfl rfl (dfalse (by omega)) ?_))))))
         refine RL_then (W_if_false rfl (W_exit' (Ex_then_exit (Ex_loop_exit (Ex_block_hit (Nx_then (W_seq (W_seq (W_region (L_assign rfl rfl (RL_then (W_block ?_))))))))))))
         obtain ⟨vp, Mp⟩ := pb
         have hs1 : HS w0 w ((A ++ Mp) ++ []) := by rw [List.append_nil]; exact hs
         clear hs
         have hs := hs1
         clear hs1
         have hbp : Bl w0 58 5 vp m.ps.length (pcs pl) Mp := hbp
         obtain ⟨WW, hW⟩ : ∃ WW, WW = A ++ Mp := ⟨_, rfl⟩
         have hWo : Own w0 WW := by rw [hW]; exact hAp
         have hAW : ∀ p ∈ A, p ∈ WW := fun p hp => by rw [hW]; exact List.mem_append_left _ hp
         have hMpW : ∀ p ∈ Mp, p ∈ WW := fun p hp => by rw [hW]; exact List.mem_append_right _ hp
         have hs1 : HS w0 w WW := by rw [hW, ← List.append_nil (A ++ Mp)]; exact hs
         clear hs
         have hs := hs1
         clear hs1 hAp
         obtain ⟨hpl', hplt⟩ : pl.length = m.ps.length ∧ ∀ x, x < m.ps.length → PltLt (pl.getD x plt0) := ⟨hpe.len, fun x hx => by
          have h1 := hpe.at (i := x) (da := plt0) (db := plt0) hx
          have h2 := hmk.lt x hx
          exact ⟨by rw [← h1.1]; exact h2.r, by rw [← h1.2]; exact h2.b⟩⟩
         have hnl : (k'.os.map On.t).length = k'.os.length := List.length_map ..
         refine W_loop2 (fun (j : Nat) (w : World) => [(1, .slice a n c), (2, .pointer (some ⟨b2, 0, none⟩)), (5, bv B), (7, bv C), (9, .int .i64 g), (10, .int .i64 i), (14, .slice an k'.os.length cn'), (15, vp), (22, .int .i64 j)]) (fun (j : Nat) (w : World) => w) (fun (j : Nat) (w : World) => (1 ≤ j) ∧ (HS w0 w WW)) (fun (j : Nat) (w : World) => k'.os.length - j) (1) (_) (is := [1, 2, 5, 7, 9, 10, 14, 15, 22]) rfl rfl ?_ ?_
         ·
          exact ⟨Nat.le_refl _, hs⟩
         ·
          clear hs
          intro j w hI
          show W _ _ _ _ [(1, .slice a n c), (2, .pointer (some ⟨b2, 0, none⟩)), (5, bv B), (7, bv C), (9, .int .i64 g), (10, .int .i64 i), (14, .slice an k'.os.length cn'), (15, vp), (22, .int .i64 j)] w
          obtain ⟨hj, hs⟩ := hI
          by_cases hlt3 : j < k'.os.length
          ·
           obtain ⟨e, rfl⟩ : ∃ e, j = e + 1 := ⟨j - 1, by omega⟩
           have hasc := ids_asc hk' (i := e) hlt3
           have haoN : an = some (aD an) := (hNs hs hAW).ao (by rw [tcs_len]; omega)
           have hc1 : ∀ {w' : World}, HS w0 w' WW → w'.cell? ((aD an).add (e * 15 + 0)) = some (.int .i64 ((k'.os.map On.t).getD e trk0).id) := fun h1 => (hNs h1 hAW).2 _ _ (tcs_get (ts := k'.os.map On.t) (by omega) rfl)
           have hc2 : ∀ {w' : World}, HS w0 w' WW → w'.cell? ((aD an).add ((e + 1) * 15 + 0)) = some (.int .i64 ((k'.os.map On.t).getD (e + 1) trk0).id) := fun h1 => (hNs h1 hAW).2 _ _ (tcs_get (ts := k'.os.map On.t) (by omega) rfl)
           refine W_seq (W_seq (W_region (L_move rfl rfl (L_move rfl rfl (L_len rfl Try.underlying44 rfl (L_lss rfl rfl rfl (dtrue (by omega)) ?_))))))
           refine RL_then (W_if_true rfl (W_skip' (Nx_then (W_seq (W_block (W_seq (W_pht [0, 1, 2, 3, 4, 6, 7, 8, 9] [5, 10, 11] [] (fun _ _ _ => False) Try.mixed (by kernel_rfl) (fun _ _ _ _ _ h => h) hs ?_)))))))
           refine PL_val rfl (fun w => R_move rfl) ?_
           refine PL_val rfl (fun w => R_move rfl) ?_
           refine PL_val rfl (fun w => R_sub rfl rfl (wrp_i64 (by omega))) ?_
           refine PL_val rfl (fun w => R_idxN Try.underlying44 Try.ti36 rfl rfl (by exact natc_s1 _ (by omega)) (by omega) haoN) ?_
           refine PL_val rfl (fun w => R_fieldAddr (off := 0) Try.underlying36 rfl rfl Try.ti3 rfl) ?_
           refine PL_val rfl (fun w => R_move rfl) ?_
           refine PL_val rfl (fun w => R_move rfl) ?_
           refine PL_val rfl (fun w => R_idxN Try.underlying44 Try.ti36 rfl rfl (natc_k _) (by omega) haoN) ?_
           refine PL_val rfl (fun w => R_fieldAddr (off := 0) Try.underlying36 rfl rfl Try.ti3 rfl) ?_
           refine PL_end ?_
           refine HL_val rfl (fun w hs => R_load Try.one3 rfl (by (rw [add_add]; exact hc1 hs))) ?_
           refine HL_val rfl (fun w hs => R_load Try.one3 rfl (by (rw [add_add]; exact hc2 hs))) ?_
           refine HL_val rfl (fun w hs => R_geq rfl rfl (dfalse (by omega))) ?_
           refine HL_tail ?_
           intro w hs
           refine RL_then (W_if_false rfl (W_skip' (Nx_block (Nx_then (W_region (L_move rfl rfl (L_add rfl rfl rfl (wrp_i64 (by omega)) ?_)))))))
           refine L_assign rfl rfl (RL_nil' ?_)
           refine Nx_loopP (e + 1 + 1, _) (is := [1, 2, 5, 7, 9, 10, 14, 15, 22]) (I' := (fun (j : Nat) (w : World) => (1 ≤ j) ∧ (HS w0 w WW)) (e + 1 + 1) (_)) rfl rfl rfl ?_ ?_
           ·
            exact ⟨by omega, hs⟩
           ·
            show k'.os.length - (e + 1 + 1) < k'.os.length - (e + 1); omega
          ·
           skip
           have haoL : a = some (aD a) := (ha.old hs hWo).ao (by rw [mcs_len]; omega)
           refine W_seq (W_seq (W_region (L_move rfl rfl (L_move rfl rfl (L_len rfl Try.underlying44 rfl (L_lss rfl rfl rfl (dfalse (by omega)) ?_))))))
           refine RL_then (W_if_false rfl (W_exit' (Ex_then_exit (Ex_loop_exit (Ex_block_hit (Nx_then (W_seq (W_region (L_move rfl rfl (L_move rfl rfl (L_move rfl rfl (L_idxN rfl Try.underlying50 Try.ti25 rfl rfl (natc_k _) (by omega) haoL ?_))))))))))))
           refine L_fieldAddr rfl (off := 1) Try.underlying25 rfl rfl Try.ti22 rfl ?_
           refine L_load rfl Try.one22 rfl (by (rw [add_add]; exact (ha.old hs hWo).2 _ _ (mcs_get (ts := l) (i := i) (q := 1) (v := .float .f64 m.time) (by omega) (by rw [← hme]; rfl)))) ?_
           refine L_move rfl rfl ?_
           obtain ⟨ap, cp, rfl, _⟩ := hbp.slice
           obtain ⟨LL, hLL⟩ : ∃ LL, LL = k'.bks ++ ([(b2, Row 49 r.cells)] ++ (Mt ++ (M1 ++ (Mn ++ Mp)))) := ⟨_, rfl⟩
           have hMpL : ∀ p ∈ Mp, p ∈ LL := fun p hp => by rw [hLL]; exact List.mem_append_right _ (List.mem_append_right _ (List.mem_append_right _ (List.mem_append_right _ (List.mem_append_right _ hp))))
           have hLLo : Own w0 LL := by rw [hLL]; exact hk'.own.app (hb2o.app (hbt.own.app (hb1.own.app (hbn.own.app hbp.own))))
           have hs1 : HS w0 w (z.bks ++ LL) := by
            rw [hW, hA, hL1, hL0] at hs
            rw [hLL]
            exact HS.re hs (fun c => by simp only [List.map_append, List.map_cons, List.map_nil, List.sum_append, List.sum_cons, List.sum_nil]; omega)
           clear hs
           have hI : StepIn w0 i m.ps.length z m.time ap pl LL := ⟨hz, by omega, hLLo, fun w' L' h1 h2 h3 => Bl.slcM hbp h1 (fun p hp => h3 p (hMpL p hp)), hpl', by omega, hplt, hmk.time, by rw [← hbe.next]; omega⟩
           have hS := step_ok w0 w i m.ps.length z m.time ap cp pl LL hs1 hI
           rw [hzB, ← hbe.last, ← refE_eq (last := k.last) (time := m.time) hpe, hre'] at hS
           clear hI hs1
           refine L_call rfl Try.fun7 rfl (hS) ?_
           rintro _ w1 (⟨hne, _⟩ | ⟨_, z', vt, Mz, told2, us2, qs, ns, us3, rfl, hs, hbz, _, hz', hst2⟩)
           ·
            exact absurd rfl hne
           ·
            clear hS
            obtain ⟨hbe', _⟩ := StepTo.uniq hbe hpe hst hst2
            have hz'B : z'.B = C := by rw [hst2.sameB, hzB]
            have hz'r : z'.r = r := by rw [hst2.samer, hzr]
            have hzl := hbe'.os.len
            have hs1 : HS w0 w1 (z'.bks ++ (LL ++ Mz)) := by rw [← List.append_assoc]; exact hs
            clear hs
            have hs := hs1
            clear hs1
            refine L_move rfl rfl (L_extract rfl rfl rfl (L_extract rfl rfl rfl (L_assign rfl rfl (L_assign rfl rfl (RL_then (W_seq (W_region (L_move rfl rfl (L_neq rfl rfl rfl (dfalse (by omega)) ?_)))))))))
            refine L_move rfl rfl (RL_want rfl rfl (L_move rfl rfl ?_))
            have hT := tracks_ok w0 w1 (i + 1) z' (LL ++ Mz) hs hz' (hLLo.app hbz.own)
            rw [hz'B] at hT
            refine RL_want rfl rfl (L_call rfl Try.fun12 rfl (hT) ?_)
            rintro _ w2 ⟨My, hs1, hby⟩
            clear hs hT
            obtain ⟨ay, cy, rfl, _⟩ := hby.slice
            have hs := hs1
            clear hs1
            rw [hzl] at hby ⊢
            have hMnL : ∀ p ∈ Mn, p ∈ z'.bks ++ (LL ++ Mz) ++ My := fun p hp => List.mem_append_left _ (List.mem_append_right _ (List.mem_append_left _ (by rw [hLL]; exact List.mem_append_right _ (List.mem_append_right _ (List.mem_append_right _ (List.mem_append_right _ (List.mem_append_left _ hp)))))))
            refine RL_want rfl rfl (L_move rfl rfl (RL_want rfl rfl ?_))
            refine L_call rfl Try.fun21 rfl (sameAll_ok ay an k'.os.length cy cn' (z'.os.map On.t) (k'.os.map On.t) (All2.tmap (All2.symmE hbe'.os)) w2 (Bl.slcM hby hs (fun p hp => List.mem_append_right _ hp)) (Bl.slcM hbn hs hMnL) (by rw [List.length_map]; omega) (by omega)) ?_
            rintro _ w3 ⟨rfl, hs'⟩
            replace hs := hs.nil hs'
            clear hs'
            refine RL_want rfl rfl (L_not rfl rfl (L_pick_f rfl rfl rfl (RL_then (W_if_false rfl (W_skip' (Nx_block (Nx_then (W_region (L_move rfl rfl (L_add rfl rfl rfl (wrp_i64 (by omega)) ?_))))))))))
            refine L_assign rfl rfl (RL_nil' ?_)
            refine Nx_loopP (k', z', g, i + 1, _) (is := [1, 2, 5, 7, 9, 10]) (I' := (fun (k : Bok) (z : Bok) (gr : Int) (i : Nat) (w : World) => (i ≤ n) ∧ (k.B = B ∧ k.r = r ∧ z.B = C ∧ z.r = r) ∧ (k.ok w0 i ∧ z.ok w0 i) ∧ (BEq k z) ∧ (k.next ≤ 1 + 256 * i ∧ gr < k.next) ∧ (HS w0 w (k.bks ++ (z.bks ++ [(b2, Row 49 r.cells)])))) (k') (z') (g) (i + 1) (_)) rfl rfl rfl ?_ ?_
            ·
             refine ⟨by omega, ⟨hk'B, hk'r, hz'B, hz'r⟩, ⟨hk', hz'⟩, hbe', ⟨hnx', hg1⟩, ?_⟩
             have h1 : HS w0 w3 ((Mt ++ (M1 ++ (Mn ++ (Mp ++ (Mz ++ My))))) ++ (k'.bks ++ (z'.bks ++ [(b2, Row 49 r.cells)]))) := by
              rw [hLL] at hs
              exact HS.re hs (fun c => by simp only [List.map_append, List.map_cons, List.map_nil, List.sum_append, List.sum_cons, List.sum_nil]; omega)
             exact HS.dropL h1 (hbt.own.app (hb1.own.app (hbn.own.app (hbp.own.app (hbz.own.app hby.own)))))
            ·
             show n - (i + 1) < n - i; omega
     ·
      obtain rfl : n = i := by omega
      refine W_seq (W_seq (W_region (L_move rfl rfl (L_move rfl rfl (L_len rfl Try.underlying50 rfl (L_lss rfl rfl rfl (dfalse (by omega)) ?_))))))
      refine L_move rfl rfl (RL_skip rfl rfl rfl rfl (RL_skip rfl rfl rfl rfl (L_pick_f rfl rfl rfl (RL_then (W_if_false rfl (W_exit' (Ex_then_exit (Ex_loop_exit (Ex_block_hit (Nx_then (W_seq (W_region ?_))))))))))))
      refine L_call rfl Try.fun13 rfl (wakes_ok w) ?_
      rintro _ w3 ⟨rfl, hs'⟩
      replace hs := hs.nil hs'
      refine L_assign rfl rfl (RL_then (W_ret' (Ex_done1 rfl rfl ?_)))
      exact ⟨_, rfl, rfl, hs.forget (hk.own.app (hz.own.app hb2o))⟩
 ·
  refine RL_then (W_if_true rfl (W_seq (W_region (L_call rfl Try.fun13 rfl (wakes_ok w1) ?_))))
  rintro _ w3 ⟨rfl, hs'⟩
  replace hs := hs.nil hs'
  refine L_assign rfl rfl (RL_then (W_ret' (Ex_then_ret (Ex_done1 rfl rfl ?_))))
  exact ⟨_, rfl, rfl, hs.forget hb2o⟩
end Go.Proofs.Ytffobakdngbadaa
