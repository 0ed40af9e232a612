/-
  A part of the proof: what functions that the statement reaches do, or a plain law on what they do. Each theorem holds under its own premises alone.
-/
import Derived.Test.YtcfdmenmlemahaaTRN
namespace Go.Proofs.Ytcfdmenmlemahaa
open Go Go.Lk Go.Pr
set_option maxHeartbeats 16000000 in
theorem plays_law (a : Option Addr) (k cp : Nat) (rows : List (List Int)) (rvs : List Value) (am : Option Addr) (km cm : Nat) (mt : List Int) (w0 : World) (hr : RowsI w0 a rows rvs) (hk : rows.length = k) (hk63 : k ≤ 17592186043904) (hmt : SlC w0 am (il mt)) (hkm : mt.length = km) (hkm63 : km ≤ 17592186043904) :
    Ret Try.prog 5 [.slice a k cp, .slice am km cm] w0 fun v w' => v = .bool true ∧ HS w0 w' [] := by
  refine Ret.start fun w hs => ?_
  have hrl := hr.len
  refine calls_of_W Try.func5 rfl rfl rfl ?_
  refine W_seq ?_
  refine W_region ?_
  refine L_assign rfl rfl ?_
  refine RL_then ?_
  refine W_seq ?_
  refine W_seq ?_
  refine W_region ?_
  refine L_move rfl rfl ?_
  refine L_call rfl Try.fun15 rfl (beyond_ok a k cp rows rvs w (hr.old hs Own.nil) hk hk63) ?_
  rintro _ w1 ⟨hs', b, rfl, hb⟩
  replace hs := hs.nil hs'
  clear hs'
  cases b
  · obtain ⟨hk18, hl18⟩ := hb rfl
    by_cases hkm2 : 65536 < km
    · refine L_move rfl rfl ?_
      first | (refine RL_want rfl rfl ?_; refine L_move rfl rfl ?_) | refine RL_skip rfl rfl rfl rfl ?_ | refine RL_skipU rfl rfl rfl ?_
      first | (refine RL_want rfl rfl ?_; refine L_len rfl Try.underlying25 rfl ?_) | refine RL_skip rfl rfl rfl rfl ?_ | refine RL_skipU rfl rfl rfl ?_
      first | (refine RL_want rfl rfl ?_; (first | refine L_gtr rfl rfl rfl (dtrue (by omega)) ?_ | refine L_gtr rfl rfl rfl (dfalse (by omega)) ?_ | refine L_gtr rfl rfl rfl rfl ?_)) | refine RL_skip rfl rfl rfl rfl ?_ | refine RL_skipU rfl rfl rfl ?_
      first | refine L_pick_t rfl rfl rfl ?_ | refine L_pick_f rfl rfl rfl ?_
      refine RL_then ?_
      refine W_if_true rfl ?_
      refine W_seq ?_
      refine W_region ?_
      refine L_call rfl Try.fun8 rfl (works_ok w1) ?_
      rintro _ w3 ⟨rfl, hs'⟩
      replace hs := hs.nil hs'
      refine L_assign rfl rfl ?_
      refine RL_then ?_
      refine W_ret' ?_
      refine Ex_then_ret ?_
      refine Ex_done1 rfl rfl ?_
      exact ⟨_, rfl, rfl, hs⟩
    · refine L_move rfl rfl ?_
      first | (refine RL_want rfl rfl ?_; refine L_move rfl rfl ?_) | refine RL_skip rfl rfl rfl rfl ?_ | refine RL_skipU rfl rfl rfl ?_
      first | (refine RL_want rfl rfl ?_; refine L_len rfl Try.underlying25 rfl ?_) | refine RL_skip rfl rfl rfl rfl ?_ | refine RL_skipU rfl rfl rfl ?_
      first | (refine RL_want rfl rfl ?_; (first | refine L_gtr rfl rfl rfl (dtrue (by omega)) ?_ | refine L_gtr rfl rfl rfl (dfalse (by omega)) ?_ | refine L_gtr rfl rfl rfl rfl ?_)) | refine RL_skip rfl rfl rfl rfl ?_ | refine RL_skipU rfl rfl rfl ?_
      first | refine L_pick_t rfl rfl rfl ?_ | refine L_pick_f rfl rfl rfl ?_
      refine RL_then ?_
      refine W_if_false rfl ?_
      refine W_skip' ?_
      refine Nx_then ?_
      refine W_seq ?_
      refine W_region ?_
      refine L_move rfl rfl ?_
      refine L_call rfl Try.fun14 rfl (own_ok a k cp rows rvs w1 (hr.old hs Own.nil) hk (by omega) (fun i hi => Nat.le_trans (hl18 i hi) (by omega))) ?_
      rintro v5 w2 ⟨vs, Mo, Ms, hs1, hbo, hrb⟩
      have hOx : Own w1 (Mo ++ Ms) := hbo.own.app (hrb.imp fun _ _ _ h => p77.bl h).own
      obtain ⟨ax, cx, rfl, hcx⟩ := hbo.slice
      have hsz := hs.size
      replace hs := hs.call hs1 hOx
      rw [List.nil_append] at hs
      replace hbo := hbo.mono hsz
      replace hrb := hrb.imp (q := p77 w0) fun _ _ _ h => p77.mono h hsz
      replace hOx := hOx.le hsz
      clear hs1 hsz
      refine L_assign rfl rfl ?_
      refine RL_then ?_
      refine W_seq ?_
      refine W_region ?_
      refine L_move rfl rfl ?_
      refine L_appendS (L := Mo ++ Ms) (M := []) rfl Try.underlying25 Try.ti3 rfl (by decide) (by rw [List.append_nil]; exact hs) Bl.nil rfl rfl (news := il mt) (by rw [il_length, hkm, Nat.mul_one]) (hmt.old hs hOx) (il_one _) (by omega) (by omega) ?_
      intro v6 w M5 hs hb5
      rw [List.nil_append, Nat.zero_add] at hb5
      refine L_assign rfl rfl ?_
      refine RL_then ?_
      refine W_seq ?_
      refine W_region ?_
      refine L_move rfl rfl ?_
      refine L_buildSlice1 rfl hs Try.underlying25 Try.ti3 rfl (by decide) rfl rfl ?_
      intro b40 w hb40 hnb40 hs
      simp only [List.map_cons, List.map_nil] at hs
      try dsimp only [List.set_cons_succ, List.set_cons_zero, List.cons_append, List.nil_append] at hs
      refine L_appendT (L := Mo ++ Ms) rfl Try.underlying25 Try.ti3 rfl hs (by assumption) hb5 rfl rfl rfl (by simp [Value.oneCell']) (by omega) (by omega) ?_
      intro v7 w M6 hs hb6
      obtain ⟨gm, capm, spm, rfl, rfl, hgm, hcm, hcapm⟩ := hb6.own_row (by omega)
      refine L_move rfl rfl ?_
      refine L_len rfl Try.underlying25 rfl ?_
      refine RL_val rfl (R_slice010 Try.underlying25 Try.ti3 rfl rfl rfl (by omega)) ?_
      refine L_assign rfl rfl ?_
      refine RL_then ?_
      refine W_seq ?_
      refine W_region ?_
      refine L_move rfl rfl ?_
      obtain ⟨w3, hw3⟩ : ∃ w3, w3 = w := ⟨_, rfl⟩
      have hX : X77 w3 ax rows vs := by rw [hw3]; exact X77.of (L := [(gm, Row 3 (il mt ++ [.int .i64 77] ++ spm))]) hbo hrb (hs.mem_perm List.perm_append_comm)
      have hM7 : SlC w3 (some ⟨gm, 0, none⟩) (il (mt ++ [77])) := by
        rw [hw3, ← il_snoc]
        exact SlC.of_row (T := 3) (sp := spm) (hs.has (gm, Row 3 (il mt ++ [.int .i64 77] ++ spm)) (by simp))
      have hOA : Own w0 ((Mo ++ Ms) ++ [(gm, Row 3 (il mt ++ [.int .i64 77] ++ spm))]) := hOx.app (Own.cons hgm Own.nil)
      have hr3 : RowsI w3 a rows rvs := by rw [hw3]; exact hr.old hs hOA
      have hmt3 : SlC w3 am (il mt) := by rw [hw3]; exact hmt.old hs hOA
      have hend : ∀ {w : World}, HS w3 w [] → HS w0 w [] := fun {w} h => by
        rw [hw3] at h
        have := hs.call h Own.nil
        rw [List.append_nil] at this
        exact this.forget hOA
      have hMr : SlC w3 (some ⟨gm, 0, none⟩) (il mt) := ⟨fun _ => rfl, fun j v hv => hM7.2 j v (by rw [← il_snoc, List.getElem?_append_left (List.getElem?_eq_some_iff.1 hv).1]; exact hv)⟩
      have h77 : (il (mt ++ [77]))[km]? = some (.int .i64 77) := by rw [il_get (by simp; omega)]; simp [List.getD, hkm]
      replace hs : HS w3 w [] := by rw [hw3]; exact HS.named (fun p hp => by simp at hp) (by simp)
      clear hOA hw3 hOx hbo hrb hb6
      have hXI : RowsI w3 ax rows vs := hX.rowsI (fun i hi => Nat.le_trans (hl18 i (by omega)) (by omega))
      have hl6 : ∀ i, i < k → (rows.getD i []).length ≤ 1000000 := fun i hi => Nat.le_trans (hl18 i hi) (by omega)
      -- the least
      refine L_call rfl Try.fun10 rfl (least_ok ax k cx rows vs w (hXI.old hs Own.nil) hk hk63) ?_
      rintro _ wa ⟨va, Na, ms, t, e, rfl, hsa, hba, hansa⟩
      obtain ⟨qa, ca, rfl, hca⟩ := hba.slice
      have hsz := hs.size
      replace hs := hs.call hsa (Bl.own hba)
      rw [List.nil_append] at hs
      replace hba := hba.mono hsz
      clear hsa hsz
      refine L_move rfl rfl ?_
      refine L_extract rfl rfl rfl ?_
      refine L_extract rfl rfl rfl ?_
      refine L_extract rfl rfl rfl ?_
      refine L_assign rfl rfl ?_
      refine L_assign rfl rfl ?_
      refine L_assign rfl rfl ?_
      refine RL_then ?_
      refine W_seq ?_
      refine W_region ?_
      refine L_move rfl rfl ?_
      refine L_call rfl Try.fun16 rfl (rleast_ok a k cp rows rvs wa (hr3.old hs (Bl.own hba)) hk hk63) ?_
      rintro _ wb ⟨vb, Nb, ms', t', e', rfl, hsb, hbb, hansb⟩
      obtain ⟨rfl, rfl, rfl⟩ := hansa.uniq hansb
      have hml := hansa.len
      obtain ⟨qb, cb, rfl, hcb⟩ := hbb.slice
      have hsz := hs.size
      replace hs := hs.call hsb (Bl.own hbb)
      replace hbb := hbb.mono hsz
      clear hsb hsz hansa hansb
      have hO : Own w3 (Na ++ Nb) := (Bl.own hba).app (Bl.own hbb)
      refine L_move rfl rfl ?_
      refine L_extract rfl rfl rfl ?_
      refine L_extract rfl rfl rfl ?_
      refine L_extract rfl rfl rfl ?_
      refine L_assign rfl rfl ?_
      refine L_assign rfl rfl ?_
      refine L_assign rfl rfl ?_
      refine RL_then ?_
      refine W_seq ?_
      refine W_seq ?_
      refine W_region ?_
      refine L_move rfl rfl ?_
      refine L_move rfl rfl ?_
      first | refine L_neq rfl rfl rfl (dtrue (by omega)) ?_ | refine L_neq rfl rfl rfl (dfalse (by omega)) ?_ | refine L_neq rfl rfl rfl rfl ?_
      refine L_move rfl rfl ?_
      first | (refine RL_want rfl rfl ?_; refine L_move rfl rfl ?_) | refine RL_skip rfl rfl rfl rfl ?_ | refine RL_skipU rfl rfl rfl ?_
      first | (refine RL_want rfl rfl ?_; refine L_move rfl rfl ?_) | refine RL_skip rfl rfl rfl rfl ?_ | refine RL_skipU rfl rfl rfl ?_
      first | (refine RL_want rfl rfl ?_; (first | refine L_neq rfl rfl rfl (dtrue (by omega)) ?_ | refine L_neq rfl rfl rfl (dfalse (by omega)) ?_ | refine L_neq rfl rfl rfl rfl ?_)) | refine RL_skip rfl rfl rfl rfl ?_ | refine RL_skipU rfl rfl rfl ?_
      first | refine L_pick_t rfl rfl rfl ?_ | refine L_pick_f rfl rfl rfl ?_
      refine L_move rfl rfl ?_
      first | (refine RL_want rfl rfl ?_; refine L_move rfl rfl ?_) | refine RL_skip rfl rfl rfl rfl ?_ | refine RL_skipU rfl rfl rfl ?_
      first | (refine RL_want rfl rfl ?_; refine L_move rfl rfl ?_) | refine RL_skip rfl rfl rfl rfl ?_ | refine RL_skipU rfl rfl rfl ?_
      refine RL_want rfl rfl ?_
      refine L_call rfl Try.fun12 rfl (same_ok qa qb ms.length ms.length ca cb ms ms wb (hba.slc (L := Nb) (hs.mem_perm List.perm_append_comm)) (hbb.slc (L := Na) hs) rfl rfl (by omega)) ?_
      rintro _ w8 ⟨rfl, hs8⟩
      replace hs := hs.nil hs8
      clear hs8
      rw [decide_eq_true rfl]
      first | (refine RL_want rfl rfl ?_; refine L_not rfl rfl ?_) | refine RL_skip rfl rfl rfl rfl ?_ | refine RL_skipU rfl rfl rfl ?_
      first | refine L_pick_t rfl rfl rfl ?_ | refine L_pick_f rfl rfl rfl ?_
      refine L_move rfl rfl ?_
      first | (refine RL_want rfl rfl ?_; refine L_move rfl rfl ?_) | refine RL_skip rfl rfl rfl rfl ?_ | refine RL_skipU rfl rfl rfl ?_
      first | (refine RL_want rfl rfl ?_; refine L_move rfl rfl ?_) | refine RL_skip rfl rfl rfl rfl ?_ | refine RL_skipU rfl rfl rfl ?_
      refine RL_want rfl rfl ?_
      refine L_call rfl Try.fun17 rfl (kept_ok ax cx vs a k cp rows rvs w8 (hX.old hs hO) (hr3.old hs hO) hk (by omega) hl6) ?_
      rintro _ w9 ⟨rfl, hs9⟩
      replace hs := hs.nil hs9
      clear hs9
      first | (refine RL_want rfl rfl ?_; refine L_not rfl rfl ?_) | refine RL_skip rfl rfl rfl rfl ?_ | refine RL_skipU rfl rfl rfl ?_
      first | refine L_pick_t rfl rfl rfl ?_ | refine L_pick_f rfl rfl rfl ?_
      refine RL_then ?_
      refine W_if_false rfl ?_
      refine W_skip' ?_
      refine Nx_then ?_
      refine W_seq ?_
      refine W_seq ?_
      refine W_region ?_
      refine L_move rfl rfl ?_
      refine L_len rfl Try.underlying25 rfl ?_
      refine L_move rfl rfl ?_
      refine RL_then ?_
      refine W_block ?_
      refine W_loop4 (fun (i : Nat) (xs : List Int) (NN : List (Nat × Obj)) (w : World) => [(0, .slice a k cp), (1, .slice am km cm), (5, .slice ax k cx), (6, .slice (some ⟨gm, 0, none⟩) km capm), (7, .slice qa ms.length ca), (78, .int .i64 ms.length), (79, .int .i64 i)]) (fun (i : Nat) (xs : List Int) (NN : List (Nat × Obj)) (w : World) => w) (fun (i : Nat) (xs : List Int) (NN : List (Nat × Obj)) (w : World) => (i ≤ ms.length) ∧ (xs.length = ms.length) ∧ (Bl w3 3 1 (.slice qa ms.length ca) ms.length (il xs) NN) ∧ (HS w3 w (NN ++ Nb))) (fun (i : Nat) (xs : List Int) (NN : List (Nat × Obj)) (w : World) => ms.length - i) (0) (ms) (Na) (w9) (is := [0, 1, 5, 6, 7, 78, 79]) rfl rfl ?_ ?_
      · exact ⟨Nat.zero_le _, rfl, hba, hs⟩
      · clear hs hba
        intro i xs NN w hI
        show W _ _ _ _ [(0, .slice a k cp), (1, .slice am km cm), (5, .slice ax k cx), (6, .slice (some ⟨gm, 0, none⟩) km capm), (7, .slice qa ms.length ca), (78, .int .i64 ms.length), (79, .int .i64 i)] w
        obtain ⟨hi, hxl, hba, hs⟩ := hI
        by_cases hlt : i < ms.length
        · obtain ⟨g, cap, sp, hsl, rfl, hg, hc, hcap⟩ := hba.own_row (by omega)
          obtain ⟨hq, hcc⟩ : qa = some ⟨g, 0, none⟩ ∧ cap = ca := by cases hsl; exact ⟨rfl, rfl⟩
          replace hs : HS w3 w ((g, Row 3 (il xs ++ sp)) :: Nb) := hs
          refine W_seq ?_
          refine W_region ?_
          first | refine L_lss rfl rfl rfl (dtrue (by omega)) ?_ | refine L_lss rfl rfl rfl (dfalse (by omega)) ?_ | refine L_lss rfl rfl rfl rfl ?_
          refine RL_then ?_
          refine W_seq ?_
          refine W_if_true rfl ?_
          refine W_skip' ?_
          refine Nx_then ?_
          refine W_seq ?_
          refine W_block ?_
          refine W_seq ?_
          refine W_region ?_
          refine L_move rfl rfl ?_
          refine L_assign rfl rfl ?_
          refine RL_then ?_
          refine W_region ?_
          refine L_move rfl rfl ?_
          refine L_move rfl rfl ?_
          refine L_idx1 rfl Try.underlying25 Try.ti3 rfl rfl (by with_reducible first | exact natc_k _ | exact natc_a1 _ | exact natc_0 | exact natc_1 | exact natc_2 | exact natc_s1 _ (by omega) | exact natc_a2 _ | exact natc_add _ _ | exact natc_mul _ _ | exact natc (by omega)) (by omega) hq ?_
          refine L_store hs (i := 0) rfl Try.ti3 rfl rfl (by first | rfl | exact add_lit0 _ _ | exact Addr.add_lit ..) (by simp; omega) rfl ?_
          intro w hs
          try dsimp only [List.set_cons_succ, List.set_cons_zero, List.cons_append, List.nil_append] at hs
          refine RL_nil' ?_
          refine Nx_block ?_
          refine Nx_then ?_
          refine W_region ?_
          first | refine L_add rfl rfl rfl (wrp_i64 (by omega)) ?_ | refine L_add rfl rfl rfl rfl ?_
          refine L_move rfl rfl ?_
          refine RL_nil' ?_
          rw [il_set' _ _ _ _ (by omega)] at hs
          refine Nx_loopP (i + 1, xs.set i (-9), [(g, Row 3 (il (xs.set i (-9)) ++ sp))], w) (is := [0, 1, 5, 6, 7, 78, 79]) (I' := (fun (i : Nat) (xs : List Int) (NN : List (Nat × Obj)) (w : World) => (i ≤ ms.length) ∧ (xs.length = ms.length) ∧ (Bl w3 3 1 (.slice qa ms.length ca) ms.length (il xs) NN) ∧ (HS w3 w (NN ++ Nb))) (i + 1) (xs.set i (-9)) ([(g, Row 3 (il (xs.set i (-9)) ++ sp))]) (w)) rfl rfl rfl ?_ ?_
          · exact ⟨by omega, by simp [hxl], (by rw [hq, ← hcc]; exact Bl.row hg (by simp [hxl]) (by simpa using hc) hcap), hs⟩
          · omega
        · have hie : i = ms.length := by omega
          replace hs := hs.forget ((Bl.own hba).app (Bl.own hbb))
          refine W_seq ?_
          refine W_region ?_
          first | refine L_lss rfl rfl rfl (dtrue (by omega)) ?_ | refine L_lss rfl rfl rfl (dfalse (by omega)) ?_ | refine L_lss rfl rfl rfl rfl ?_
          refine RL_then ?_
          refine W_seq ?_
          refine W_if_false rfl ?_
          refine W_exit' ?_
          refine Ex_then_exit ?_
          refine Ex_loop_exit ?_
          refine Ex_block_hit ?_
          refine Nx_then ?_
          refine W_seq ?_
          refine W_region ?_
          refine L_move rfl rfl ?_
          refine L_call rfl Try.fun13 rfl (most_ok ax k cx rows vs w (hXI.old hs Own.nil) hk hk63) ?_
          rintro _ wa ⟨va, Na, ms, cnt, t, e, rfl, hsa, hba, hansa⟩
          obtain ⟨qa, ca, rfl, hca⟩ := hba.slice
          have hsz := hs.size
          replace hs := hs.call hsa (Bl.own hba)
          rw [List.nil_append] at hs
          replace hba := hba.mono hsz
          clear hsa hsz
          refine L_move rfl rfl ?_
          refine L_extract rfl rfl rfl ?_
          refine L_extract rfl rfl rfl ?_
          refine L_extract rfl rfl rfl ?_
          refine L_extract rfl rfl rfl ?_
          refine L_assign rfl rfl ?_
          refine L_assign rfl rfl ?_
          refine L_assign rfl rfl ?_
          refine L_assign rfl rfl ?_
          refine RL_then ?_
          refine W_seq ?_
          refine W_region ?_
          refine L_move rfl rfl ?_
          refine L_call rfl Try.fun18 rfl (rmost_ok a k cp rows rvs wa (hr3.old hs (Bl.own hba)) hk hk63) ?_
          rintro _ wb ⟨vb, Nb, ms', cnt', t', e', rfl, hsb, hbb, hansb⟩
          obtain ⟨rfl, rfl, rfl, rfl⟩ := hansa.uniq hansb
          have hml := hansa.len
          obtain ⟨qb, cb, rfl, hcb⟩ := hbb.slice
          have hsz := hs.size
          replace hs := hs.call hsb (Bl.own hbb)
          replace hbb := hbb.mono hsz
          clear hsb hsz hansa hansb
          have hO : Own w3 (Na ++ Nb) := (Bl.own hba).app (Bl.own hbb)
          refine L_move rfl rfl ?_
          refine L_extract rfl rfl rfl ?_
          refine L_extract rfl rfl rfl ?_
          refine L_extract rfl rfl rfl ?_
          refine L_extract rfl rfl rfl ?_
          refine L_assign rfl rfl ?_
          refine L_assign rfl rfl ?_
          refine L_assign rfl rfl ?_
          refine L_assign rfl rfl ?_
          refine RL_then ?_
          refine W_seq ?_
          refine W_seq ?_
          refine W_region ?_
          refine L_move rfl rfl ?_
          refine L_move rfl rfl ?_
          first | refine L_neq rfl rfl rfl (dtrue (by omega)) ?_ | refine L_neq rfl rfl rfl (dfalse (by omega)) ?_ | refine L_neq rfl rfl rfl rfl ?_
          refine L_move rfl rfl ?_
          first | (refine RL_want rfl rfl ?_; refine L_move rfl rfl ?_) | refine RL_skip rfl rfl rfl rfl ?_ | refine RL_skipU rfl rfl rfl ?_
          first | (refine RL_want rfl rfl ?_; refine L_move rfl rfl ?_) | refine RL_skip rfl rfl rfl rfl ?_ | refine RL_skipU rfl rfl rfl ?_
          first | (refine RL_want rfl rfl ?_; (first | refine L_neq rfl rfl rfl (dtrue (by omega)) ?_ | refine L_neq rfl rfl rfl (dfalse (by omega)) ?_ | refine L_neq rfl rfl rfl rfl ?_)) | refine RL_skip rfl rfl rfl rfl ?_ | refine RL_skipU rfl rfl rfl ?_
          first | refine L_pick_t rfl rfl rfl ?_ | refine L_pick_f rfl rfl rfl ?_
          refine L_move rfl rfl ?_
          first | (refine RL_want rfl rfl ?_; refine L_move rfl rfl ?_) | refine RL_skip rfl rfl rfl rfl ?_ | refine RL_skipU rfl rfl rfl ?_
          first | (refine RL_want rfl rfl ?_; refine L_move rfl rfl ?_) | refine RL_skip rfl rfl rfl rfl ?_ | refine RL_skipU rfl rfl rfl ?_
          first | (refine RL_want rfl rfl ?_; (first | refine L_neq rfl rfl rfl (dtrue (by omega)) ?_ | refine L_neq rfl rfl rfl (dfalse (by omega)) ?_ | refine L_neq rfl rfl rfl rfl ?_)) | refine RL_skip rfl rfl rfl rfl ?_ | refine RL_skipU rfl rfl rfl ?_
          first | refine L_pick_t rfl rfl rfl ?_ | refine L_pick_f rfl rfl rfl ?_
          refine L_move rfl rfl ?_
          first | (refine RL_want rfl rfl ?_; refine L_move rfl rfl ?_) | refine RL_skip rfl rfl rfl rfl ?_ | refine RL_skipU rfl rfl rfl ?_
          first | (refine RL_want rfl rfl ?_; refine L_move rfl rfl ?_) | refine RL_skip rfl rfl rfl rfl ?_ | refine RL_skipU rfl rfl rfl ?_
          refine RL_want rfl rfl ?_
          refine L_call rfl Try.fun12 rfl (same_ok qa qb ms.length ms.length ca cb ms ms wb (hba.slc (L := Nb) (hs.mem_perm List.perm_append_comm)) (hbb.slc (L := Na) hs) rfl rfl (by omega)) ?_
          rintro _ w8 ⟨rfl, hs8⟩
          replace hs := hs.nil hs8
          clear hs8
          rw [decide_eq_true rfl]
          first | (refine RL_want rfl rfl ?_; refine L_not rfl rfl ?_) | refine RL_skip rfl rfl rfl rfl ?_ | refine RL_skipU rfl rfl rfl ?_
          first | refine L_pick_t rfl rfl rfl ?_ | refine L_pick_f rfl rfl rfl ?_
          refine L_move rfl rfl ?_
          first | (refine RL_want rfl rfl ?_; refine L_move rfl rfl ?_) | refine RL_skip rfl rfl rfl rfl ?_ | refine RL_skipU rfl rfl rfl ?_
          first | (refine RL_want rfl rfl ?_; refine L_move rfl rfl ?_) | refine RL_skip rfl rfl rfl rfl ?_ | refine RL_skipU rfl rfl rfl ?_
          refine RL_want rfl rfl ?_
          refine L_call rfl Try.fun17 rfl (kept_ok ax cx vs a k cp rows rvs w8 (hX.old hs hO) (hr3.old hs hO) hk (by omega) hl6) ?_
          rintro _ w9 ⟨rfl, hs9⟩
          replace hs := hs.nil hs9
          clear hs9
          first | (refine RL_want rfl rfl ?_; refine L_not rfl rfl ?_) | refine RL_skip rfl rfl rfl rfl ?_ | refine RL_skipU rfl rfl rfl ?_
          first | refine L_pick_t rfl rfl rfl ?_ | refine L_pick_f rfl rfl rfl ?_
          refine RL_then ?_
          refine W_if_false rfl ?_
          refine W_skip' ?_
          refine Nx_then ?_
          refine W_seq ?_
          refine W_seq ?_
          refine W_region ?_
          refine L_move rfl rfl ?_
          refine L_len rfl Try.underlying25 rfl ?_
          refine L_move rfl rfl ?_
          refine RL_then ?_
          refine W_block ?_
          refine W_loop4 (fun (i : Nat) (xs : List Int) (NN : List (Nat × Obj)) (w : World) => [(0, .slice a k cp), (1, .slice am km cm), (5, .slice ax k cx), (6, .slice (some ⟨gm, 0, none⟩) km capm), (14, .slice qa ms.length ca), (126, .int .i64 ms.length), (127, .int .i64 i)]) (fun (i : Nat) (xs : List Int) (NN : List (Nat × Obj)) (w : World) => w) (fun (i : Nat) (xs : List Int) (NN : List (Nat × Obj)) (w : World) => (i ≤ ms.length) ∧ (xs.length = ms.length) ∧ (Bl w3 3 1 (.slice qa ms.length ca) ms.length (il xs) NN) ∧ (HS w3 w (NN ++ Nb))) (fun (i : Nat) (xs : List Int) (NN : List (Nat × Obj)) (w : World) => ms.length - i) (0) (ms) (Na) (w9) (is := [0, 1, 5, 6, 14, 126, 127]) rfl rfl ?_ ?_
          · exact ⟨Nat.zero_le _, rfl, hba, hs⟩
          · clear hs hba
            intro i xs NN w hI
            show W _ _ _ _ [(0, .slice a k cp), (1, .slice am km cm), (5, .slice ax k cx), (6, .slice (some ⟨gm, 0, none⟩) km capm), (14, .slice qa ms.length ca), (126, .int .i64 ms.length), (127, .int .i64 i)] w
            obtain ⟨hi, hxl, hba, hs⟩ := hI
            by_cases hlt : i < ms.length
            · obtain ⟨g, cap, sp, hsl, rfl, hg, hc, hcap⟩ := hba.own_row (by omega)
              obtain ⟨hq, hcc⟩ : qa = some ⟨g, 0, none⟩ ∧ cap = ca := by cases hsl; exact ⟨rfl, rfl⟩
              replace hs : HS w3 w ((g, Row 3 (il xs ++ sp)) :: Nb) := hs
              refine W_seq ?_
              refine W_region ?_
              first | refine L_lss rfl rfl rfl (dtrue (by omega)) ?_ | refine L_lss rfl rfl rfl (dfalse (by omega)) ?_ | refine L_lss rfl rfl rfl rfl ?_
              refine RL_then ?_
              refine W_seq ?_
              refine W_if_true rfl ?_
              refine W_skip' ?_
              refine Nx_then ?_
              refine W_seq ?_
              refine W_block ?_
              refine W_seq ?_
              refine W_region ?_
              refine L_move rfl rfl ?_
              refine L_assign rfl rfl ?_
              refine RL_then ?_
              refine W_region ?_
              refine L_move rfl rfl ?_
              refine L_move rfl rfl ?_
              refine L_idx1 rfl Try.underlying25 Try.ti3 rfl rfl (by with_reducible first | exact natc_k _ | exact natc_a1 _ | exact natc_0 | exact natc_1 | exact natc_2 | exact natc_s1 _ (by omega) | exact natc_a2 _ | exact natc_add _ _ | exact natc_mul _ _ | exact natc (by omega)) (by omega) hq ?_
              refine L_store hs (i := 0) rfl Try.ti3 rfl rfl (by first | rfl | exact add_lit0 _ _ | exact Addr.add_lit ..) (by simp; omega) rfl ?_
              intro w hs
              try dsimp only [List.set_cons_succ, List.set_cons_zero, List.cons_append, List.nil_append] at hs
              refine RL_nil' ?_
              refine Nx_block ?_
              refine Nx_then ?_
              refine W_region ?_
              first | refine L_add rfl rfl rfl (wrp_i64 (by omega)) ?_ | refine L_add rfl rfl rfl rfl ?_
              refine L_move rfl rfl ?_
              refine RL_nil' ?_
              rw [il_set' _ _ _ _ (by omega)] at hs
              refine Nx_loopP (i + 1, xs.set i (-9), [(g, Row 3 (il (xs.set i (-9)) ++ sp))], w) (is := [0, 1, 5, 6, 14, 126, 127]) (I' := (fun (i : Nat) (xs : List Int) (NN : List (Nat × Obj)) (w : World) => (i ≤ ms.length) ∧ (xs.length = ms.length) ∧ (Bl w3 3 1 (.slice qa ms.length ca) ms.length (il xs) NN) ∧ (HS w3 w (NN ++ Nb))) (i + 1) (xs.set i (-9)) ([(g, Row 3 (il (xs.set i (-9)) ++ sp))]) (w)) rfl rfl rfl ?_ ?_
              · exact ⟨by omega, by simp [hxl], (by rw [hq, ← hcc]; exact Bl.row hg (by simp [hxl]) (by simpa using hc) hcap), hs⟩
              · omega
            · have hie : i = ms.length := by omega
              replace hs := hs.forget ((Bl.own hba).app (Bl.own hbb))
              refine W_seq ?_
              refine W_region ?_
              first | refine L_lss rfl rfl rfl (dtrue (by omega)) ?_ | refine L_lss rfl rfl rfl (dfalse (by omega)) ?_ | refine L_lss rfl rfl rfl rfl ?_
              refine RL_then ?_
              refine W_seq ?_
              refine W_if_false rfl ?_
              refine W_exit' ?_
              refine Ex_then_exit ?_
              refine Ex_loop_exit ?_
              refine Ex_block_hit ?_
              refine Nx_then ?_
              refine W_seq ?_
              refine W_region ?_
              refine L_move rfl rfl ?_
              refine L_move rfl rfl ?_
              refine L_call rfl Try.fun19 rfl (total_ok ax k cx rows vs (some ⟨gm, 0, none⟩) km capm mt w (hXI.old hs Own.nil) hk hk63 (hMr.old hs Own.nil) hkm) ?_
              rintro _ wy ⟨y, i, rfl, hs', hT⟩
              replace hs := hs.nil hs'
              clear hs'
              refine L_move rfl rfl ?_
              refine L_extract rfl rfl rfl ?_
              refine L_extract rfl rfl rfl ?_
              refine L_assign rfl rfl ?_
              refine L_assign rfl rfl ?_
              refine RL_then ?_
              refine W_seq ?_
              refine W_region ?_
              refine L_move rfl rfl ?_
              refine L_move rfl rfl ?_
              refine L_call rfl Try.fun20 rfl (rtotal_ok a k cp rows rvs am km cm mt wy (hr3.old hs Own.nil) hk hk63 (hmt3.old hs Own.nil) hkm) ?_
              rintro _ wz ⟨z, j, rfl, hs', hT'⟩
              obtain ⟨rfl, rfl⟩ := hT.uniq hT'
              replace hs := hs.nil hs'
              clear hs'
              refine L_move rfl rfl ?_
              refine L_extract rfl rfl rfl ?_
              refine L_extract rfl rfl rfl ?_
              refine L_assign rfl rfl ?_
              refine L_assign rfl rfl ?_
              refine RL_then ?_
              refine W_seq ?_
              refine W_region ?_
              refine L_move rfl rfl ?_
              refine L_move rfl rfl ?_
              first | refine L_eql rfl rfl rfl (dtrue (by omega)) ?_ | refine L_eql rfl rfl rfl (dfalse (by omega)) ?_ | refine L_eql rfl rfl rfl rfl ?_
              refine L_move rfl rfl ?_
              first | (refine RL_want rfl rfl ?_; refine L_move rfl rfl ?_) | refine RL_skip rfl rfl rfl rfl ?_ | refine RL_skipU rfl rfl rfl ?_
              first | (refine RL_want rfl rfl ?_; refine L_move rfl rfl ?_) | refine RL_skip rfl rfl rfl rfl ?_ | refine RL_skipU rfl rfl rfl ?_
              first | (refine RL_want rfl rfl ?_; (first | refine L_eql rfl rfl rfl (dtrue (by omega)) ?_ | refine L_eql rfl rfl rfl (dfalse (by omega)) ?_ | refine L_eql rfl rfl rfl rfl ?_)) | refine RL_skip rfl rfl rfl rfl ?_ | refine RL_skipU rfl rfl rfl ?_
              first | refine L_pick_t rfl rfl rfl ?_ | refine L_pick_f rfl rfl rfl ?_
              refine L_move rfl rfl ?_
              first | (refine RL_want rfl rfl ?_; refine L_move rfl rfl ?_) | refine RL_skip rfl rfl rfl rfl ?_ | refine RL_skipU rfl rfl rfl ?_
              first | (refine RL_want rfl rfl ?_; refine L_move rfl rfl ?_) | refine RL_skip rfl rfl rfl rfl ?_ | refine RL_skipU rfl rfl rfl ?_
              refine RL_want rfl rfl ?_
              refine L_call rfl Try.fun17 rfl (kept_ok ax cx vs a k cp rows rvs wz (hX.old hs Own.nil) (hr3.old hs Own.nil) hk (by omega) hl6) ?_
              rintro _ w9 ⟨rfl, hs9⟩
              replace hs := hs.nil hs9
              clear hs9
              first | refine L_pick_t rfl rfl rfl ?_ | refine L_pick_f rfl rfl rfl ?_
              refine L_move rfl rfl ?_
              first | (refine RL_want rfl rfl ?_; refine L_move rfl rfl ?_) | refine RL_skip rfl rfl rfl rfl ?_ | refine RL_skipU rfl rfl rfl ?_
              first | (refine RL_want rfl rfl ?_; refine L_move rfl rfl ?_) | refine RL_skip rfl rfl rfl rfl ?_ | refine RL_skipU rfl rfl rfl ?_
              refine RL_want rfl rfl ?_
              refine L_call rfl Try.fun12 rfl (same_ok (some ⟨gm, 0, none⟩) am km km capm cm mt mt w9 (hMr.old hs Own.nil) (hmt3.old hs Own.nil) hkm hkm (by omega)) ?_
              rintro _ w8 ⟨rfl, hs8⟩
              replace hs := hs.nil hs8
              clear hs8
              rw [decide_eq_true rfl]
              first | refine L_pick_t rfl rfl rfl ?_ | refine L_pick_f rfl rfl rfl ?_
              refine L_move rfl rfl ?_
              first | (refine RL_want rfl rfl ?_; refine L_move rfl rfl ?_) | refine RL_skip rfl rfl rfl rfl ?_ | refine RL_skipU rfl rfl rfl ?_
              first | (refine RL_want rfl rfl ?_; refine L_move rfl rfl ?_) | refine RL_skip rfl rfl rfl rfl ?_ | refine RL_skipU rfl rfl rfl ?_
              first | (refine RL_want rfl rfl ?_; refine L_len rfl Try.underlying25 rfl ?_) | refine RL_skip rfl rfl rfl rfl ?_ | refine RL_skipU rfl rfl rfl ?_
              first | (refine RL_want rfl rfl ?_; (first | refine L_add rfl rfl rfl (wrp_i64 (by omega)) ?_ | refine L_add rfl rfl rfl rfl ?_)) | refine RL_skip rfl rfl rfl rfl ?_ | refine RL_skipU rfl rfl rfl ?_
              first | (refine RL_want rfl rfl ?_; refine RL_val rfl (R_slice010 Try.underlying25 Try.ti3 rfl rfl (by with_reducible first | exact natc_k _ | exact natc_a1 _ | exact natc_0 | exact natc_1 | exact natc_2 | exact natc_s1 _ (by omega) | exact natc_a2 _ | exact natc_add _ _ | exact natc_mul _ _ | exact natc (by omega)) (by omega)) ?_) | refine RL_skip rfl rfl rfl rfl ?_ | refine RL_skipU rfl rfl rfl ?_
              first | (refine RL_want rfl rfl ?_; refine L_move rfl rfl ?_) | refine RL_skip rfl rfl rfl rfl ?_ | refine RL_skipU rfl rfl rfl ?_
              first | (refine RL_want rfl rfl ?_; refine L_len rfl Try.underlying25 rfl ?_) | refine RL_skip rfl rfl rfl rfl ?_ | refine RL_skipU rfl rfl rfl ?_
              first | (refine RL_want rfl rfl ?_; refine L_idx1 rfl Try.underlying25 Try.ti3 rfl rfl (by with_reducible first | exact natc_k _ | exact natc_a1 _ | exact natc_0 | exact natc_1 | exact natc_2 | exact natc_s1 _ (by omega) | exact natc_a2 _ | exact natc_add _ _ | exact natc_mul _ _ | exact natc (by omega)) (by omega) rfl ?_) | refine RL_skip rfl rfl rfl rfl ?_ | refine RL_skipU rfl rfl rfl ?_
              first | (refine RL_want rfl rfl ?_; refine L_load rfl Try.one3 rfl (by exact (hM7.old hs Own.nil).get h77) ?_) | refine RL_skip rfl rfl rfl rfl ?_ | refine RL_skipU rfl rfl rfl ?_
              first | (refine RL_want rfl rfl ?_; (first | refine L_eql rfl rfl rfl (dtrue (by omega)) ?_ | refine L_eql rfl rfl rfl (dfalse (by omega)) ?_ | refine L_eql rfl rfl rfl rfl ?_)) | refine RL_skip rfl rfl rfl rfl ?_ | refine RL_skipU rfl rfl rfl ?_
              first | refine L_pick_t rfl rfl rfl ?_ | refine L_pick_f rfl rfl rfl ?_
              refine L_move rfl rfl ?_
              refine RL_want rfl rfl ?_
              refine L_call rfl Try.fun8 rfl (works_ok w8) ?_
              rintro _ w7 ⟨rfl, hs7⟩
              replace hs := hs.nil hs7
              first | refine L_pick_t rfl rfl rfl ?_ | refine L_pick_f rfl rfl rfl ?_
              refine L_assign rfl rfl ?_
              refine RL_then ?_
              refine W_ret' ?_
              refine Ex_done1 rfl rfl ?_
              exact ⟨_, rfl, rfl, hend hs⟩
  · refine L_move rfl rfl ?_
    first | (refine RL_want rfl rfl ?_; refine L_move rfl rfl ?_) | refine RL_skip rfl rfl rfl rfl ?_ | refine RL_skipU rfl rfl rfl ?_
    first | (refine RL_want rfl rfl ?_; refine L_len rfl Try.underlying25 rfl ?_) | refine RL_skip rfl rfl rfl rfl ?_ | refine RL_skipU rfl rfl rfl ?_
    first | (refine RL_want rfl rfl ?_; (first | refine L_gtr rfl rfl rfl (dtrue (by omega)) ?_ | refine L_gtr rfl rfl rfl (dfalse (by omega)) ?_ | refine L_gtr rfl rfl rfl rfl ?_)) | refine RL_skip rfl rfl rfl rfl ?_ | refine RL_skipU rfl rfl rfl ?_
    first | refine L_pick_t rfl rfl rfl ?_ | refine L_pick_f rfl rfl rfl ?_
    refine RL_then ?_
    refine W_if_true rfl ?_
    refine W_seq ?_
    refine W_region ?_
    refine L_call rfl Try.fun8 rfl (works_ok w1) ?_
    rintro _ w3 ⟨rfl, hs'⟩
    replace hs := hs.nil hs'
    refine L_assign rfl rfl ?_
    refine RL_then ?_
    refine W_ret' ?_
    refine Ex_then_ret ?_
    refine Ex_done1 rfl rfl ?_
    exact ⟨_, rfl, rfl, hs⟩
end Go.Proofs.Ytcfdmenmlemahaa
