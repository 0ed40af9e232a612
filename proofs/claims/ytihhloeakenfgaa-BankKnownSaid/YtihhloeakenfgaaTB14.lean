/-
  A part of the proof: what functions that the statement reaches do, or a plain law on what they do. Each theorem holds under its own premises alone.
-/
import Derived.Test.YtihhloeakenfgaaTB13
namespace Go.Proofs.Ytihhloeakenfgaa
open Go Go.Lk
set_option maxHeartbeats 1000000 in
theorem wakes_ok (w0 : World) : Ret Try.prog 5 [] w0 fun v w' => v = .bool true ∧ HS w0 w' [] := by
  refine Ret.start fun w hs => ?_
  refine calls_of_W Try.func5 rfl rfl rfl ?_
  refine W_seq ?_
  refine W_region ?_
  refine L_assign rfl rfl ?_
  refine RL_then ?_
  refine W_seq ?_
  refine W_region ?_
  refine L_buildSlice1 rfl hs Try.underlying27 Try.ti28 rfl (by decide) rfl rfl ?_
  intro b9 w hb9 hnb9 hs
  simp only [List.map_cons, List.map_nil] at hs
  try dsimp only [List.set_cons_succ, List.set_cons_zero, List.cons_append, List.nil_append] at hs
  replace hs : HS w0 w [(b9, Row 28 (cl [(4607182418800017408, 0), (0, 4611686018427387904)]))] := hs
  refine L_call rfl Try.fun7 rfl (newline_ok (some ⟨b9, 0, none⟩) 2 2 [(4607182418800017408, 0), (0, 4611686018427387904)] w (SlC.of_row (sp := []) (hs.get (i := 0) rfl)) rfl (by decide) (by decide)) ?_
  rintro _ w1 ⟨B, g, cg, sp, rfl, hs', hB, hg, hc⟩
  have hsz := hs.size
  replace hs := hs.call hs' (Own.cons hB (Own.cons hg Own.nil))
  have hB0 := Nat.le_trans hsz hB
  have hg0 := Nat.le_trans hsz hg
  clear hs' hsz
  refine L_move rfl rfl ?_
  refine L_extract rfl rfl rfl ?_
  refine L_extract rfl rfl rfl ?_
  refine L_assign rfl rfl ?_
  refine L_assign rfl rfl ?_
  refine RL_then ?_
  refine W_seq ?_
  refine W_region ?_
  refine L_build (cells := (fl [4607182418800017408, 0, 0]).toArray) rfl rfl (by kernel_rfl) ?_
  refine L_build (cells := (fl [4607182418800017408, 13826050856027422720, 0]).toArray) rfl rfl (by kernel_rfl) ?_
  refine L_call rfl Try.fun6 rfl (newring_ok [4607182418800017408, 0, 0] [4607182418800017408, 13826050856027422720, 0] w1 rfl rfl (fin3 fin1 fin0 fin0) (fin3 fin1 finh fin0) (by decide +kernel)) ?_
  rintro _ w2 ⟨R, cs, ds, rfl, hs', hR, hcl, hdl, hcs, hds⟩
  have hsz := hs.size
  replace hs := hs.call hs' (Own.cons hR Own.nil)
  have hR0 := Nat.le_trans hsz hR
  clear hs' hsz
  obtain rfl : cs = [4607182418800017408, 0, 0] := by
    rw [three' hcl, fs_val (hcs 0 (by decide)) (z := 4607182418800017408) (by decide +kernel), fs_val (hcs 1 (by decide)) (z := 0) (by decide +kernel), fs_val (hcs 2 (by decide)) (z := 0) (by decide +kernel)]
  obtain rfl : ds = [4607182418800017408, 13826050856027422720, 0] := by
    rw [three' hdl, fs_val (hds 0 (by decide)) (z := 4607182418800017408) (by decide +kernel), fs_val (hds 1 (by decide)) (z := 13826050856027422720) (by decide +kernel), fs_val (hds 2 (by decide)) (z := 0) (by decide +kernel)]
  replace hs : HS w0 w2 [(b9, Row 28 (cl [(4607182418800017408, 0), (0, 4611686018427387904)])), (B, Row 52 [.slice (some ⟨g, 0, none⟩) 2 cg, .slice none 0 0]), (g, Row 28 (cl [(4607182418800017408, 0), (0, 4611686018427387904)] ++ sp)), (R, Row 50 (fl [4607182418800017408, 0, 0, 4607182418800017408, 13826050856027422720, 0] ++ [cv (0, 0), cv (0, 0)]))] := hs
  refine L_move rfl rfl ?_
  refine L_extract rfl rfl rfl ?_
  refine L_extract rfl rfl rfl ?_
  refine L_assign rfl rfl ?_
  refine L_assign rfl rfl ?_
  refine RL_then ?_
  refine W_seq ?_
  refine W_seq ?_
  refine W_region ?_
  refine L_move rfl rfl ?_
  first | refine L_neq rfl rfl rfl (dtrue (by omega)) ?_ | refine L_neq rfl rfl rfl (dfalse (by omega)) ?_ | refine L_neq rfl rfl rfl rfl ?_
  refine L_move rfl rfl ?_
  first | (refine RL_want rfl rfl ?_; refine L_move rfl rfl ?_) | refine RL_skip rfl rfl rfl rfl ?_ | refine RL_skipU rfl rfl rfl ?_
  first | (refine RL_want rfl rfl ?_; refine L_ptrNil rfl Try.underlying34 rfl rfl ?_) | refine RL_skip rfl rfl rfl rfl ?_ | refine RL_skipU rfl rfl rfl ?_
  first | refine L_pick_t rfl rfl rfl ?_ | refine L_pick_f rfl rfl rfl ?_
  refine L_move rfl rfl ?_
  first | (refine RL_want rfl rfl ?_; refine L_move rfl rfl ?_) | refine RL_skip rfl rfl rfl rfl ?_ | refine RL_skipU rfl rfl rfl ?_
  first | (refine RL_want rfl rfl ?_; (first | refine L_neq rfl rfl rfl (dtrue (by omega)) ?_ | refine L_neq rfl rfl rfl (dfalse (by omega)) ?_ | refine L_neq rfl rfl rfl rfl ?_)) | refine RL_skip rfl rfl rfl rfl ?_ | refine RL_skipU rfl rfl rfl ?_
  first | refine L_pick_t rfl rfl rfl ?_ | refine L_pick_f rfl rfl rfl ?_
  refine L_move rfl rfl ?_
  first | (refine RL_want rfl rfl ?_; refine L_move rfl rfl ?_) | refine RL_skip rfl rfl rfl rfl ?_ | refine RL_skipU rfl rfl rfl ?_
  first | (refine RL_want rfl rfl ?_; refine L_ptrNil rfl Try.underlying30 rfl rfl ?_) | refine RL_skip rfl rfl rfl rfl ?_ | refine RL_skipU rfl rfl rfl ?_
  first | refine L_pick_t rfl rfl rfl ?_ | refine L_pick_f rfl rfl rfl ?_
  refine RL_then ?_
  refine W_if_false rfl ?_
  refine W_skip' ?_
  refine Nx_then ?_
  refine W_seq ?_
  refine W_region ?_
  refine L_move rfl rfl ?_
  refine L_buildSlice1 rfl hs Try.underlying27 Try.ti28 rfl (by decide) rfl rfl ?_
  intro b34 w hb34 hnb34 hs
  simp only [List.map_cons, List.map_nil] at hs
  try dsimp only [List.set_cons_succ, List.set_cons_zero, List.cons_append, List.nil_append] at hs
  replace hs : HS w0 w [(b9, Row 28 (cl [(4607182418800017408, 0), (0, 4611686018427387904)])), (B, Row 52 [.slice (some ⟨g, 0, none⟩) 2 cg, .slice none 0 0]), (g, Row 28 (cl [(4607182418800017408, 0), (0, 4611686018427387904)] ++ sp)), (R, Row 50 (fl [4607182418800017408, 0, 0, 4607182418800017408, 13826050856027422720, 0] ++ [cv (0, 0), cv (0, 0)])), (b34, Row 28 (cl [(4607182418800017408, 0), (4607182418800017408, 0)]))] := hs
  have hnd := hs.nodup
  simp only [List.map_cons, List.map_nil, List.nodup_cons, List.mem_cons, List.not_mem_nil, or_false, not_or] at hnd
  refine L_call rfl Try.fun9 rfl (line_feed B g 2 cg [(4607182418800017408, 0), (0, 4611686018427387904)] sp (some ⟨b34, 0, none⟩) 2 2 [(4607182418800017408, 0), (4607182418800017408, 0)] w (hs.get (i := 1) rfl) (hs.get (i := 2) rfl) (fun h => hnd.2.1.1 h.symm) rfl (by decide) (by decide) (SlC.of_row (sp := []) (hs.get (i := 4) rfl)) rfl (fun _ h => hnd.2.1.2.2 h.symm) (by decide)) ?_
  rintro _ w3 ⟨go, os, v', N, rfl, hs', hgo, hN, hol, hL⟩
  obtain rfl := line_wake hol hL
  have hsz := hs.size
  replace hs := hs.mem_perm (List.Perm.swap _ _ _)
  replace hs := hs.callU (A := [(B, Row 52 [.slice (some ⟨g, 0, none⟩) 2 cg, .slice none 0 0])]) (U := [(B, Row 52 [.slice (some ⟨g, 0, none⟩) 2 cg, v'])]) (L2 := [(b9, Row 28 (cl [(4607182418800017408, 0), (0, 4611686018427387904)])), (g, Row 28 (cl [(4607182418800017408, 0), (0, 4611686018427387904)] ++ sp)), (R, Row 50 (fl [4607182418800017408, 0, 0, 4607182418800017408, 13826050856027422720, 0] ++ [cv (0, 0), cv (0, 0)])), (b34, Row 28 (cl [(4607182418800017408, 0), (4607182418800017408, 0)]))]) (N := (go, Row 28 (cl [(4607182418800017408, 0), (4607182418800017408, 4611686018427387904)])) :: N) rfl hs' (Own.cons hgo hN)
  have hgo0 := Nat.le_trans hsz hgo
  have hN0 := hN.le hsz
  clear hs' hsz
  replace hs : HS w0 w3 ([(R, Row 50 (fl [4607182418800017408, 0, 0, 4607182418800017408, 13826050856027422720, 0] ++ [cv (0, 0), cv (0, 0)])), (go, Row 28 (cl [(4607182418800017408, 0), (4607182418800017408, 4611686018427387904)]))] ++ ([(b9, Row 28 (cl [(4607182418800017408, 0), (0, 4611686018427387904)])), (g, Row 28 (cl [(4607182418800017408, 0), (0, 4611686018427387904)] ++ sp)), (b34, Row 28 (cl [(4607182418800017408, 0), (4607182418800017408, 0)])), (B, Row 52 [.slice (some ⟨g, 0, none⟩) 2 cg, v'])] ++ N)) := hs.mem_perm (perm_by fun c => by simp only [List.map_append, List.map_cons, List.map_nil, List.sum_append, List.sum_cons, List.sum_nil] <;> omega)
  replace hs := hs.dropR ((Own.cons hb9 (Own.cons hg0 (Own.cons hb34 (Own.cons hB0 Own.nil)))).app hN0)
  refine L_assign rfl rfl ?_
  refine RL_then ?_
  refine W_seq ?_
  refine W_region ?_
  refine L_move rfl rfl ?_
  refine L_buildSlice1 rfl hs Try.underlying27 Try.ti28 rfl (by decide) rfl rfl ?_
  intro b37 w hb37 hnb37 hs
  simp only [List.map_cons, List.map_nil] at hs
  try dsimp only [List.set_cons_succ, List.set_cons_zero, List.cons_append, List.nil_append] at hs
  replace hs : HS w0 w [(R, Row 50 (fl [4607182418800017408, 0, 0, 4607182418800017408, 13826050856027422720, 0] ++ [cv (0, 0), cv (0, 0)])), (go, Row 28 (cl [(4607182418800017408, 0), (4607182418800017408, 4611686018427387904)])), (b37, Row 28 (cl [(4607182418800017408, 0), (0, 0)]))] := hs
  have hnd := hs.nodup
  simp only [List.map_cons, List.map_nil, List.nodup_cons, List.mem_cons, List.not_mem_nil, or_false, not_or] at hnd
  refine L_call rfl Try.fun8 rfl (ring_feed R [4607182418800017408, 0, 0] [4607182418800017408, 13826050856027422720, 0] rfl rfl (some ⟨b37, 0, none⟩) 2 2 [(4607182418800017408, 0), (0, 0)] (0, 0) (0, 0) w (hs.get (i := 0) rfl) (SlC.of_row (sp := []) (hs.get (i := 2) rfl)) rfl (fun _ h => hnd.1.2 h.symm) (by decide)) ?_
  rintro _ w4 ⟨gr, ro, S, rfl, hs', hgr, hrl, hS0, hRS⟩
  obtain ⟨rfl, hS2⟩ := ring_wake hrl hS0 hRS
  have hsz := hs.size
  replace hs := hs.callU (A := [(R, Row 50 (fl [4607182418800017408, 0, 0, 4607182418800017408, 13826050856027422720, 0] ++ [cv (0, 0), cv (0, 0)]))]) (U := [(R, Row 50 (fl [4607182418800017408, 0, 0, 4607182418800017408, 13826050856027422720, 0] ++ [cv (S 2).1, cv (S 2).2]))]) (L2 := [(go, Row 28 (cl [(4607182418800017408, 0), (4607182418800017408, 4611686018427387904)])), (b37, Row 28 (cl [(4607182418800017408, 0), (0, 0)]))]) (N := [(gr, Row 28 (cl [(4607182418800017408, 0), (4602678819172646912, 0)]))]) rfl hs' (Own.cons hgr Own.nil)
  have hgr0 := Nat.le_trans hsz hgr
  clear hs' hsz
  rw [hS2] at hs
  refine L_assign rfl rfl ?_
  refine RL_then ?_
  refine W_seq ?_
  refine W_region ?_
  refine L_move rfl rfl ?_
  refine L_call rfl Try.fun14 rfl (state_ok R (fl [4607182418800017408, 0, 0, 4607182418800017408, 13826050856027422720, 0]) (4598175219545276416, 0) (S 2).2 w4 (hs.get (i := 0) rfl) rfl) ?_
  rintro _ w5 ⟨rfl, hs'⟩
  replace hs := hs.nil hs'
  clear hs'
  refine L_alloc rfl hs Try.ti45 ?_
  intro b7 w hb7 hnb7 hs
  try dsimp only [List.set_cons_succ, List.set_cons_zero, List.cons_append, List.nil_append] at hs
  refine L_storeA hs (i := 4) rfl Try.ti45 rfl rfl (by first | rfl | exact add_lit0 _ _ | exact Addr.add_lit ..) (by first | omega | (simp; done) | (simp; omega)) (by simp [Value.oneCell']) ?_
  intro w hs
  try dsimp only [List.set_cons_succ, List.set_cons_zero, List.cons_append, List.nil_append] at hs
  refine RL_then ?_
  refine W_seq ?_
  refine W_region ?_
  refine L_move rfl rfl ?_
  refine L_len rfl Try.underlying27 rfl ?_
  first | refine L_eql rfl rfl rfl (dtrue (by omega)) ?_ | refine L_eql rfl rfl rfl (dfalse (by omega)) ?_ | refine L_eql rfl rfl rfl rfl ?_
  refine L_move rfl rfl ?_
  first | (refine RL_want rfl rfl ?_; refine L_move rfl rfl ?_) | refine RL_skip rfl rfl rfl rfl ?_ | refine RL_skipU rfl rfl rfl ?_
  first | (refine RL_want rfl rfl ?_; refine L_idx1 rfl Try.underlying27 Try.ti28 rfl rfl (by with_reducible first | exact natc_k _ | exact natc_a1 _ | exact natc_0 | exact natc_1 | exact natc_2 | exact natc_s1 _ (by omega) | exact natc_a2 _ | exact natc_add _ _ | exact natc_mul _ _ | exact natc (by omega)) (by omega) rfl ?_) | refine RL_skip rfl rfl rfl rfl ?_ | refine RL_skipU rfl rfl rfl ?_
  first | (refine RL_want rfl rfl ?_; refine L_load rfl Try.one28 rfl (by first | exact hs.cellA (i := 1) rfl rfl | exact hs.cellA (i := 3) rfl rfl | exact hs.cellA (i := 4) rfl rfl) ?_) | refine RL_skip rfl rfl rfl rfl ?_ | refine RL_skipU rfl rfl rfl ?_
  first | (refine RL_want rfl rfl ?_; refine RL_val rfl (R_ceqlT rfl rfl (by decide +kernel) (by decide +kernel)) ?_) | refine RL_skip rfl rfl rfl rfl ?_ | refine RL_skipU rfl rfl rfl ?_
  first | refine L_pick_t rfl rfl rfl ?_ | refine L_pick_f rfl rfl rfl ?_
  refine L_move rfl rfl ?_
  first | (refine RL_want rfl rfl ?_; refine L_move rfl rfl ?_) | refine RL_skip rfl rfl rfl rfl ?_ | refine RL_skipU rfl rfl rfl ?_
  first | (refine RL_want rfl rfl ?_; refine L_idx1 rfl Try.underlying27 Try.ti28 rfl rfl (by with_reducible first | exact natc_k _ | exact natc_a1 _ | exact natc_0 | exact natc_1 | exact natc_2 | exact natc_s1 _ (by omega) | exact natc_a2 _ | exact natc_add _ _ | exact natc_mul _ _ | exact natc (by omega)) (by omega) rfl ?_) | refine RL_skip rfl rfl rfl rfl ?_ | refine RL_skipU rfl rfl rfl ?_
  first | (refine RL_want rfl rfl ?_; refine L_load rfl Try.one28 rfl (by first | exact hs.cellA (i := 1) rfl rfl | exact hs.cellA (i := 3) rfl rfl | exact hs.cellA (i := 4) rfl rfl) ?_) | refine RL_skip rfl rfl rfl rfl ?_ | refine RL_skipU rfl rfl rfl ?_
  first | (refine RL_want rfl rfl ?_; refine RL_val rfl (R_ceqlT rfl rfl (by decide +kernel) (by decide +kernel)) ?_) | refine RL_skip rfl rfl rfl rfl ?_ | refine RL_skipU rfl rfl rfl ?_
  first | refine L_pick_t rfl rfl rfl ?_ | refine L_pick_f rfl rfl rfl ?_
  refine L_move rfl rfl ?_
  first | (refine RL_want rfl rfl ?_; refine L_move rfl rfl ?_) | refine RL_skip rfl rfl rfl rfl ?_ | refine RL_skipU rfl rfl rfl ?_
  first | (refine RL_want rfl rfl ?_; refine L_len rfl Try.underlying27 rfl ?_) | refine RL_skip rfl rfl rfl rfl ?_ | refine RL_skipU rfl rfl rfl ?_
  first | (refine RL_want rfl rfl ?_; (first | refine L_eql rfl rfl rfl (dtrue (by omega)) ?_ | refine L_eql rfl rfl rfl (dfalse (by omega)) ?_ | refine L_eql rfl rfl rfl rfl ?_)) | refine RL_skip rfl rfl rfl rfl ?_ | refine RL_skipU rfl rfl rfl ?_
  first | refine L_pick_t rfl rfl rfl ?_ | refine L_pick_f rfl rfl rfl ?_
  refine L_move rfl rfl ?_
  first | (refine RL_want rfl rfl ?_; refine L_move rfl rfl ?_) | refine RL_skip rfl rfl rfl rfl ?_ | refine RL_skipU rfl rfl rfl ?_
  first | (refine RL_want rfl rfl ?_; refine L_idx1 rfl Try.underlying27 Try.ti28 rfl rfl (by with_reducible first | exact natc_k _ | exact natc_a1 _ | exact natc_0 | exact natc_1 | exact natc_2 | exact natc_s1 _ (by omega) | exact natc_a2 _ | exact natc_add _ _ | exact natc_mul _ _ | exact natc (by omega)) (by omega) rfl ?_) | refine RL_skip rfl rfl rfl rfl ?_ | refine RL_skipU rfl rfl rfl ?_
  first | (refine RL_want rfl rfl ?_; refine L_load rfl Try.one28 rfl (by first | exact hs.cellA (i := 1) rfl rfl | exact hs.cellA (i := 3) rfl rfl | exact hs.cellA (i := 4) rfl rfl) ?_) | refine RL_skip rfl rfl rfl rfl ?_ | refine RL_skipU rfl rfl rfl ?_
  first | (refine RL_want rfl rfl ?_; refine RL_val rfl (R_ceqlT rfl rfl (by decide +kernel) (by decide +kernel)) ?_) | refine RL_skip rfl rfl rfl rfl ?_ | refine RL_skipU rfl rfl rfl ?_
  first | refine L_pick_t rfl rfl rfl ?_ | refine L_pick_f rfl rfl rfl ?_
  refine L_move rfl rfl ?_
  first | (refine RL_want rfl rfl ?_; refine L_move rfl rfl ?_) | refine RL_skip rfl rfl rfl rfl ?_ | refine RL_skipU rfl rfl rfl ?_
  first | (refine RL_want rfl rfl ?_; refine L_idx1 rfl Try.underlying27 Try.ti28 rfl rfl (by with_reducible first | exact natc_k _ | exact natc_a1 _ | exact natc_0 | exact natc_1 | exact natc_2 | exact natc_s1 _ (by omega) | exact natc_a2 _ | exact natc_add _ _ | exact natc_mul _ _ | exact natc (by omega)) (by omega) rfl ?_) | refine RL_skip rfl rfl rfl rfl ?_ | refine RL_skipU rfl rfl rfl ?_
  first | (refine RL_want rfl rfl ?_; refine L_load rfl Try.one28 rfl (by first | exact hs.cellA (i := 1) rfl rfl | exact hs.cellA (i := 3) rfl rfl | exact hs.cellA (i := 4) rfl rfl) ?_) | refine RL_skip rfl rfl rfl rfl ?_ | refine RL_skipU rfl rfl rfl ?_
  first | (refine RL_want rfl rfl ?_; refine RL_val rfl (R_ceqlT rfl rfl (by decide +kernel) (by decide +kernel)) ?_) | refine RL_skip rfl rfl rfl rfl ?_ | refine RL_skipU rfl rfl rfl ?_
  first | refine L_pick_t rfl rfl rfl ?_ | refine L_pick_f rfl rfl rfl ?_
  refine L_move rfl rfl ?_
  first | (refine RL_want rfl rfl ?_; refine L_idxA rfl Try.underlying45 Try.ti28 rfl rfl (by with_reducible first | exact natc_k _ | exact natc_a1 _ | exact natc_0 | exact natc_1 | exact natc_2 | exact natc_s1 _ (by omega) | exact natc_a2 _ | exact natc_add _ _ | exact natc_mul _ _ | exact natc (by omega)) (by omega) ?_) | refine RL_skip rfl rfl rfl rfl ?_ | refine RL_skipU rfl rfl rfl ?_
  first | (refine RL_want rfl rfl ?_; refine L_load rfl Try.one28 rfl (by first | exact hs.cellA (i := 1) rfl rfl | exact hs.cellA (i := 3) rfl rfl | exact hs.cellA (i := 4) rfl rfl) ?_) | refine RL_skip rfl rfl rfl rfl ?_ | refine RL_skipU rfl rfl rfl ?_
  first | (refine RL_want rfl rfl ?_; refine RL_val rfl (R_ceqlT rfl rfl (by decide +kernel) (by decide +kernel)) ?_) | refine RL_skip rfl rfl rfl rfl ?_ | refine RL_skipU rfl rfl rfl ?_
  first | refine L_pick_t rfl rfl rfl ?_ | refine L_pick_f rfl rfl rfl ?_
  refine L_move rfl rfl ?_
  first | (refine RL_want rfl rfl ?_; refine L_buildSlice1 rfl hs Try.underlying27 Try.ti28 rfl (by decide) rfl rfl ?_; intro b79 w hb79 hnb79 hs; simp only [List.map_cons, List.map_nil] at hs; try dsimp only [List.set_cons_succ, List.set_cons_zero, List.cons_append, List.nil_append] at hs) | refine RL_skip rfl rfl rfl rfl ?_ | refine RL_skipU rfl rfl rfl ?_
  refine RL_want rfl rfl ?_
  refine L_call rfl Try.fun15 rfl (answer_wake (some ⟨b79, 0, none⟩) w (SlC.of_row (sp := []) (hs.get (i := 5) rfl))) ?_
  rintro _ w6 ⟨rfl, hs'⟩
  replace hs := hs.nil hs'
  first | (refine RL_want rfl rfl ?_; refine RL_val rfl (R_ceqlT rfl rfl (by decide +kernel) (by decide +kernel)) ?_) | refine RL_skip rfl rfl rfl rfl ?_ | refine RL_skipU rfl rfl rfl ?_
  first | refine L_pick_t rfl rfl rfl ?_ | refine L_pick_f rfl rfl rfl ?_
  refine L_assign rfl rfl ?_
  refine RL_then ?_
  refine W_ret' ?_
  refine Ex_done1 rfl rfl ?_
  exact ⟨_, rfl, rfl, hs.forget (Own.cons hR0 (Own.cons hgo0 (Own.cons hb37 (Own.cons hgr0 (Own.cons hb7 (Own.cons hb79 Own.nil))))))⟩
end Go.Proofs.Ytihhloeakenfgaa
