/-
 A part of the proof: what functions that the statement reaches do, or a plain law on what they do. Each theorem holds under its own premises alone.
-/
import Derived.Test.YtknpoemkmcdgcaaTNH
namespace Go.Proofs.Ytknpoemkmcdgcaa
open Go Go.Lk
set_option maxHeartbeats 4000000 in
theorem fused_ok (B far : Nat) (rs : List Rd) (w0 : World) (hN : NetAt w0 B far rs) (hf : FarOk far) (hk16 : rs.length ≤ 16) (hn : ∀ i, i < rs.length → (rs.getD i rd0).ts.length ≤ 256) (ht : ∀ i, i < rs.length → (rs.getD i rd0).t < 18446744073709551616) :
  Ret Try.prog 22 [.pointer (some ⟨B, 0, none⟩)] w0 fun v w' => ∃ S fs Mo, FusTo far rs rs.length S ∧ fs.map Th.s = S.map prt ∧ Bl w0 64 5 v fs.length (fcs fs) Mo ∧ (∀ t ∈ fs, Bl w0 3 1 t.v t.seen.length (il t.seen) t.M) ∧ HS w0 w' (Mo ++ fms fs) ∧ fs.length ≤ 4096 ∧ ∀ t ∈ fs, t.seen.length ≤ 4097 := by
 refine Ret.start fun w hs => ?_
 obtain ⟨ra, rc, hr1, hr2⟩ := hN.rads
 refine calls_of_W Try.func22 rfl rfl rfl (W_seq (W_region (L_assign rfl rfl (RL_then (W_seq (W_seq (W_region (L_move rfl rfl (L_ptrNil rfl Try.underlying26 rfl rfl (RL_then (W_if_false rfl (W_skip' ?_))))))))))))
 refine Nx_then (W_seq (W_region (L_assign rfl rfl (RL_then (W_seq (W_seq (W_region (L_move rfl rfl (L_nilCheck rfl rfl (L_fieldAddr rfl (off := 1) Try.underlying76 rfl rfl Try.ti74 rfl (L_load rfl Try.one74 rfl (by exact hs.oldcell hr1 (Own.nil.notin (World.block_lt_of_cell? w0 _ hr1))) ?_)))))))))))
 refine L_len rfl Try.underlying74 rfl (L_move rfl rfl (RL_then (W_block ?_)))
 refine W_loop5 (fun (i : Nat) (ths : List Th) (va : Value) (Ma : Bks) (w : World) => [(0, .pointer (some ⟨B, 0, none⟩)), (3, va), (29, .slice ra rs.length rc), (30, .int .i64 rs.length), (31, .int .i64 i)]) (fun (i : Nat) (ths : List Th) (va : Value) (Ma : Bks) (w : World) => w) (fun (i : Nat) (ths : List Th) (va : Value) (Ma : Bks) (w : World) => (i ≤ rs.length) ∧ (FusTo far rs i (ths.map Th.s)) ∧ (Bl w0 90 1 va ths.length (ptrs ths) Ma) ∧ (∀ t ∈ ths, t.ok w0) ∧ (ths.length ≤ i * 256) ∧ (∀ t ∈ ths, t.seen.length ≤ 1 + i * 256) ∧ (HS w0 w (Ma ++ tbs ths))) (fun (i : Nat) (ths : List Th) (va : Value) (Ma : Bks) (w : World) => rs.length - i) (0) ([]) (.slice none 0 0) ([]) (w) (is := [0, 3, 29, 30, 31]) rfl rfl ?_ ?_
 ·
  exact ⟨Nat.zero_le _, .zero, .nil, fun _ h => absurd h List.not_mem_nil, Nat.zero_le _, fun _ h => absurd h List.not_mem_nil, hs⟩
 ·
  clear hs
  intro i ths va Ma w hI
  show W _ _ _ _ [(0, .pointer (some ⟨B, 0, none⟩)), (3, va), (29, .slice ra rs.length rc), (30, .int .i64 rs.length), (31, .int .i64 i)] w
  obtain ⟨hi, hF, hba, hok, htl, hsl, hs⟩ := hI
  have hoA : Own w0 (Ma ++ tbs ths) := hba.own.app (tbs_own hok)
  obtain ⟨aa, ca, rfl, hca⟩ := hba.slice
  by_cases hlt : i < rs.length
  ·
   have hr2' := hr2.old hs hoA
   have hn' := hn i hlt
   have ht' := ht i hlt
   obtain ⟨r, hr⟩ : ∃ r, r = rs.getD i rd0 := ⟨_, rfl⟩
   have hrt := hN.each i hlt
   rw [← hr] at hn' ht' hrt
   refine W_seq (W_region (L_lss rfl rfl rfl (dtrue (by omega)) ?_))
   refine RL_then (W_seq (W_if_true rfl (W_skip' (Nx_then (W_seq (W_block (W_seq (W_region (L_move rfl rfl ?_)))))))))
   refine L_idxN rfl Try.underlying74 Try.ti84 rfl rfl (natc_k _) (by omega) (hr2'.ao (by rw [rcs_len]; omega)) ?_
   refine L_loadA rfl Try.agg84 Try.ti84 rfl (by (exact hr ▸ rd_at hr2' hlt)) ?_
   refine L_alloc rfl hs Try.ti84 ?_; intro b5 w hb5 _ hs; replace hs := HS.push hs
   refine L_assign rfl rfl ?_
   refine L_storeA hs (i := 0) rfl Try.ti84 rfl rfl (by rfl) (by simp [Rd.cells]) (by (intro v hv; simp [Rd.cells] at hv; rcases hv with rfl | rfl | rfl | rfl <;> rfl)) ?_
   intro w hs
   dsimp only [List.set_cons_succ, List.set_cons_zero, List.cons_append, List.nil_append] at hs
   refine RL_then (W_seq (W_region ?_))
   replace hs : HS w0 w ((b5, Row 84 r.cells) :: (Ma ++ tbs ths)) := hs
   refine L_fieldAddr rfl (off := 3) Try.underlying84 rfl rfl Try.ti38 rfl (L_load rfl Try.one38 rfl (by exact hs.cell (i := 0) rfl rfl) ?_)
   refine L_len rfl Try.underlying38 rfl ?_
   refine L_make1 rfl hs Try.underlying88 Try.ti90 rfl rfl (natc_k _) (natc_k _) (Nat.le_refl _) (by omega) (by omega) rfl ?_; intro b39 w hb39 _ hs; replace hs := HS.push hs
   refine L_assign rfl rfl (RL_then (W_seq (W_region (L_fieldAddr rfl (off := 3) Try.underlying84 rfl rfl Try.ti38 rfl (L_load rfl Try.one38 rfl (by exact hs.cell (i := 1) rfl rfl) ?_)))))
   refine L_len rfl Try.underlying38 rfl ?_
   refine L_make1 rfl hs Try.underlying89 Try.ti93 rfl rfl (natc_k _) (natc_k _) (Nat.le_refl _) (by omega) (by omega) rfl ?_; intro b43 w hb43 _ hs; replace hs := HS.push hs
   refine L_assign rfl rfl (RL_then (W_seq (W_region (L_move rfl rfl (L_move rfl rfl (L_len rfl Try.underlying88 rfl (RL_val rfl (R_minI rfl rfl (minI_256 _)) (RL_val rfl (R_slice010 Try.underlying88 Try.ti90 rfl rfl (natc_k _) (by omega)) ?_))))))))
   refine L_assign rfl rfl (RL_then (W_seq (W_seq (W_region (L_fieldAddr rfl (off := 3) Try.underlying84 rfl rfl Try.ti38 rfl (L_load rfl Try.one38 rfl (by exact hs.cell (i := 2) rfl rfl) ?_))))))
   refine L_len rfl Try.underlying38 rfl (L_move rfl rfl (RL_then (W_block ?_)))
   obtain ⟨R, hR⟩ : ∃ R, R = rowsS far rs i (ths.map Th.s) := ⟨_, rfl⟩
   obtain ⟨O, hO⟩ : ∃ O, O = ownS rs i := ⟨_, rfl⟩
   have hOl : O.length = r.ts.length := by rw [hO, hr]; simp [ownS]
   refine W_loop4 (fun (k : Nat) (news : List Th) (rr : List RR) (w : World) => [(0, .pointer (some ⟨B, 0, none⟩)), (3, .slice aa ths.length ca), (4, .int .i64 i), (5, .pointer (some ⟨b5, 0, none⟩)), (6, .slice (some ⟨b39, 0, none⟩) r.ts.length r.ts.length), (7, .slice (some ⟨b43, 0, none⟩) r.ts.length r.ts.length), (8, .slice aa (min ths.length 256) ca), (29, .slice ra rs.length rc), (30, .int .i64 rs.length), (31, .int .i64 i), (50, .slice r.a r.ts.length r.c), (51, .int .i64 r.ts.length), (52, .int .i64 k)]) (fun (k : Nat) (news : List Th) (rr : List RR) (w : World) => w) (fun (k : Nat) (news : List Th) (rr : List RR) (w : World) => (k ≤ r.ts.length) ∧ (news.length = k) ∧ (news.map Th.s = O.take k) ∧ (∀ t ∈ news, t.ok w0) ∧ (rr.length = k) ∧ (rr.map RR.xs = R.take k) ∧ (∀ q ∈ rr, q.ok w0) ∧ (HS w0 w ((b43, Row 93 (rvs rr ++ List.replicate (r.ts.length - k) (.slice none 0 0))) :: (b39, Row 90 (ptrs news ++ List.replicate (r.ts.length - k) (.pointer none))) :: (b5, Row 84 r.cells) :: (rbs rr ++ (tbs news ++ (Ma ++ tbs ths)))))) (fun (k : Nat) (news : List Th) (rr : List RR) (w : World) => r.ts.length - k) (0) ([]) ([]) (w) (is := [0, 3, 4, 5, 6, 7, 8, 29, 30, 31, 50, 51, 52]) rfl rfl ?_ ?_
   ·
    exact ⟨Nat.zero_le _, rfl, rfl, fun _ h => absurd h List.not_mem_nil, rfl, rfl, fun _ h => absurd h List.not_mem_nil, hs⟩
   ·
    clear hs
    intro k news rr w hI
    show W _ _ _ _ [(0, .pointer (some ⟨B, 0, none⟩)), (3, .slice aa ths.length ca), (4, .int .i64 i), (5, .pointer (some ⟨b5, 0, none⟩)), (6, .slice (some ⟨b39, 0, none⟩) r.ts.length r.ts.length), (7, .slice (some ⟨b43, 0, none⟩) r.ts.length r.ts.length), (8, .slice aa (min ths.length 256) ca), (29, .slice ra rs.length rc), (30, .int .i64 rs.length), (31, .int .i64 i), (50, .slice r.a r.ts.length r.c), (51, .int .i64 r.ts.length), (52, .int .i64 k)] w
    obtain ⟨hk, hnl, hnm, hnok, hrl, hrm, hrok, hs⟩ := hI
    by_cases hlk : k < r.ts.length
    ·
     obtain ⟨m1, hm1⟩ : ∃ m1, r.ts.length - k = m1 + 1 := ⟨r.ts.length - k - 1, by omega⟩
     rw [hm1] at hs
     have hoZ : Own w0 (rbs rr ++ (tbs news ++ (Ma ++ tbs ths))) := (rbs_own hrok).app ((tbs_own hnok).app hoA)
     have hoB : Own w0 ((b43, Row 93 (rvs rr ++ List.replicate (m1 + 1) (.slice none 0 0))) :: (b39, Row 90 (ptrs news ++ List.replicate (m1 + 1) (.pointer none))) :: (b5, Row 84 r.cells) :: (rbs rr ++ (tbs news ++ (Ma ++ tbs ths)))) := Own.cons hb43 (Own.cons hb39 (Own.cons hb5 hoZ))
     have hrt2 := hrt.old hs hoB
     obtain ⟨tk, htk⟩ : ∃ tk, tk = r.ts.getD k tk0 := ⟨_, rfl⟩
     refine W_seq (W_region (L_lss rfl rfl rfl (dtrue (by omega)) ?_))
     refine RL_then (W_seq (W_if_true rfl (W_skip' (Nx_then (W_seq (W_block (W_seq (W_region (L_move rfl rfl ?_)))))))))
     refine L_idxN rfl Try.underlying38 Try.ti48 rfl rfl (natc_k _) (by omega) (hrt2.ao (by rw [tcs_len]; omega)) ?_
     refine L_loadA rfl Try.agg48 Try.ti48 rfl (by exact htk ▸ tk_at hrt2 hlk) ?_
     refine L_alloc rfl hs Try.ti48 ?_; intro b10 w hb10 _ hs; replace hs := HS.push hs
     refine L_assign rfl rfl (L_storeA hs (i := 0) rfl Try.ti48 rfl rfl (by rfl) (by simp [Tk.cells]) (by exact Tk.one _) ?_)
     intro w hs
     dsimp only [List.set_cons_succ, List.set_cons_zero, List.cons_append, List.nil_append] at hs
     refine RL_then (W_seq ?_)
     replace hs : HS w0 w ((b10, Row 48 tk.cells) :: (b43, Row 93 (rvs rr ++ List.replicate (m1 + 1) (.slice none 0 0))) :: (b39, Row 90 (ptrs news ++ List.replicate (m1 + 1) (.pointer none))) :: (b5, Row 84 r.cells) :: (rbs rr ++ (tbs news ++ (Ma ++ tbs ths)))) := hs
     refine W_sg Try.mixed ?_
     replace hs := hs.drewN 1
     refine SG_stageB [0, 1, 2, 4, 5, 7, 8, 12, 13, 16, 17, 19, 20, 24] [3, 6, 9, 10, 11, 14, 15, 18, 21, 22, 23, 25, 26, 27, 28] [29] (noBk (SPF 0 0)) (g' := 0) (by kernel_rfl) (by kernel_rfl) (fun _ _ _ _ _ h => h) hs ?_
     refine PL_val rfl (fun w => R_move rfl) ?_
     refine PL_val rfl (fun w => R_move rfl) ?_
     refine PL_val rfl (fun w => R_fieldAddr (off := 0) Try.underlying84 rfl rfl Try.ti37 rfl) ?_
     refine PL_val rfl (fun w => R_fieldAddr (off := 2) Try.underlying48 rfl rfl Try.ti45 rfl) ?_
     refine PL_val rfl (fun w => R_fieldAddr (off := 0) Try.underlying45 rfl rfl Try.ti22 rfl) ?_
     refine PL_val rfl (fun w => R_fieldAddr (off := 7) Try.underlying48 rfl rfl Try.ti45 rfl) ?_
     refine PL_val rfl (fun w => R_fieldAddr (off := 0) Try.underlying45 rfl rfl Try.ti22 rfl) ?_
     refine PL_val rfl (fun w => R_fieldAddr (off := 0) Try.underlying84 rfl rfl Try.ti37 rfl) ?_
     refine PL_val rfl (fun w => R_fieldAddr (off := 2) Try.underlying37 rfl rfl Try.ti22 rfl) ?_
     refine PL_val rfl (fun w => R_fieldAddr (off := 2) Try.underlying48 rfl rfl Try.ti45 rfl) ?_
     refine PL_val rfl (fun w => R_fieldAddr (off := 1) Try.underlying45 rfl rfl Try.ti22 rfl) ?_
     refine PL_val rfl (fun w => R_fieldAddr (off := 7) Try.underlying48 rfl rfl Try.ti45 rfl) ?_
     refine PL_val rfl (fun w => R_fieldAddr (off := 1) Try.underlying45 rfl rfl Try.ti22 rfl) ?_
     refine PL_val rfl (fun w => R_move rfl) ?_
     refine PL_endB ?_
     refine HB_val rfl (fun w R hR hs => R_loadA Try.agg37 Try.ti37 rfl (by exact cellsAt_part (n := 3) (cs := [.float .f64 r.x, .float .f64 r.y, .float .f64 r.t]) (hs.get (i := 3) rfl) rfl)) ?_
     refine HB_val rfl (fun w R hR hs => R_load Try.one22 rfl (by exact hs.cell (i := 0) rfl rfl)) ?_
     refine HB_val rfl (fun w R hR hs => R_load Try.one22 rfl (by exact hs.cell (i := 0) rfl rfl)) ?_
     refine HB_val rfl (fun w R hR hs => R_build rfl (Pl.built Try.pl35 rfl)) ?_
     refine HB_callH rfl Try.fun28 rfl (fun w R hR hs => movedH 0 0 hs r.x r.y r.t tk.xx tk.yx ht') ?_
     rintro _ ⟨x1, y1, rfl, hx1, hy1⟩
     refine HB_val rfl (fun w R hR hs => R_load Try.one22 rfl (by exact hs.cell (i := 3) rfl rfl)) ?_
     refine HB_val rfl (fun w R hR hs => R_build rfl (Pl.built Try.pl37 rfl)) ?_
     refine HB_val rfl (fun w R hR hs => R_load Try.one22 rfl (by exact hs.cell (i := 0) rfl rfl)) ?_
     refine HB_val rfl (fun w R hR hs => R_load Try.one22 rfl (by exact hs.cell (i := 0) rfl rfl)) ?_
     refine HB_val rfl (fun w R hR hs => R_build rfl (Pl.built Try.pl35 rfl)) ?_
     refine HB_callH rfl Try.fun28 rfl (fun w R hR hs => movedH 0 0 hs 0 0 r.t tk.xv tk.yv ht') ?_
     rintro _ ⟨x2, y2, rfl, hx2, hy2⟩
     refine HB_buildSlice1 rfl Try.underlying60 Try.ti3 rfl (by decide) rfl rfl ?_
     intro b82 hb82
     refine HB_val rfl (fun w R hR hs => R_build rfl (Pl.builtN Try.pl92 rfl)) ?_
     refine HB_box rfl rfl ?_
     intro b84 hb84
     refine HB_val rfl (fun w R hR hs => R_idx1 Try.underlying88 Try.ti90 rfl rfl (natc_k _) (by omega) rfl) ?_
     refine HB_tail ?_
     intro w hs
     refine L_store hs (i := 2) rfl Try.ti90 rfl rfl (by exact add_lit0 _ _) (by simp [ptrs_len]; omega) rfl ?_
     intro w hs
     dsimp only [List.set_cons_succ, List.set_cons_zero, List.cons_append, List.nil_append] at hs
     refine RL_sg (SG_end (by kernel_rfl) ?_)
     refine Nx_then (W_seq (W_region ?_))
     obtain ⟨x, hx⟩ : ∃ x, x = Th.mk b84 x1 y1 x2 y2 [(i : Int)] (.slice (some ⟨b82, 0, none⟩) 1 1) [(b82, Row 3 [.int .i64 i])] := ⟨_, rfl⟩
     have xp : x.p = b84 := by rw [hx]
     have xok : x.ok w0 := by
      rw [hx]
      exact ⟨hb84, Bl.row hb82 rfl rfl (Nat.le_refl _)⟩
     have xs : x.s = newS r i tk := by
      rw [hx]
      unfold Th.s newS
      rw [hx1, hy1, hx2, hy2]
     have hnl1 : (news ++ [x]).length = k + 1 := by rw [List.length_append, hnl]; rfl
     replace hs : HS w0 w ((b43, Row 93 (rvs rr ++ .slice none 0 0 :: List.replicate m1 (.slice none 0 0))) :: (b39, Row 90 (ptrs (news ++ [x]) ++ List.replicate m1 (.pointer none))) :: (b5, Row 84 r.cells) :: (rbs rr ++ (tbs (news ++ [x]) ++ (Ma ++ tbs ths)))) := by
      have e1 : (ptrs news ++ List.replicate (m1 + 1) (Value.pointer none)).set k (Value.pointer (some ⟨b84, 0, none⟩)) = ptrs (news ++ [x]) ++ List.replicate m1 (Value.pointer none) := by
       rw [set_rep _ m1 k _ _ (by rw [ptrs_len, hnl]), ptrs_app, ← xp]; rfl
      have e2 : tbs (news ++ [x]) = tbs news ++ [(b84, Row 92 [.float .f64 x1, .float .f64 y1, .float .f64 x2, .float .f64 y2, .slice (some ⟨b82, 0, none⟩) 1 1]), (b82, Row 3 [.int .i64 i])] := by
       rw [tbs_app, tbs_one, hx]; rfl
      rw [e1] at hs
      rw [e2]
      replace hs : HS w0 w (((b10, Row 48 tk.cells) :: (b43, Row 93 (rvs rr ++ .slice none 0 0 :: List.replicate m1 (.slice none 0 0))) :: (b39, Row 90 (ptrs (news ++ [x]) ++ List.replicate m1 (.pointer none))) :: (b5, Row 84 r.cells) :: (rbs rr ++ (tbs news ++ (Ma ++ tbs ths)))) ++ [(b82, Row 3 [.int .i64 i]), (b84, Row 92 [.float .f64 x1, .float .f64 y1, .float .f64 x2, .float .f64 y2, .slice (some ⟨b82, 0, none⟩) 1 1])]) := hs
      exact HS.pop (p := (b10, Row 48 tk.cells)) (HS.re hs (fun c => by simp only [List.map_append, List.map_cons, List.map_nil, List.sum_append, List.sum_cons, List.sum_nil]; omega)) hb10
     refine L_move rfl rfl (L_len rfl Try.underlying88 rfl (L_move rfl rfl (RL_then (W_block ?_))))
     obtain ⟨kn, hkn⟩ : ∃ kn, kn = (ths.map Th.s).take 256 := ⟨_, rfl⟩
     have hknl : kn.length = min ths.length 256 := by rw [hkn, List.length_take, List.length_map, Nat.min_comm]
     obtain ⟨row, hrow⟩ : ∃ row, row = rowS far kn x.s := ⟨_, rfl⟩
     have hrowl : row.length = min ths.length 256 := by rw [hrow, ← hknl]; exact List.length_map ..
     refine W_loop4 (fun (j : Nat) (vr : Value) (M2 : Bks) (w : World) => [(0, .pointer (some ⟨B, 0, none⟩)), (3, .slice aa ths.length ca), (4, .int .i64 i), (5, .pointer (some ⟨b5, 0, none⟩)), (6, .slice (some ⟨b39, 0, none⟩) r.ts.length r.ts.length), (7, .slice (some ⟨b43, 0, none⟩) r.ts.length r.ts.length), (8, .slice aa (min ths.length 256) ca), (9, .int .i64 k), (29, .slice ra rs.length rc), (30, .int .i64 rs.length), (31, .int .i64 i), (50, .slice r.a r.ts.length r.c), (51, .int .i64 r.ts.length), (52, .int .i64 k), (86, .slice aa (min ths.length 256) ca), (87, .int .i64 (min ths.length 256 : Nat)), (88, .int .i64 j)]) (fun (j : Nat) (vr : Value) (M2 : Bks) (w : World) => w) (fun (j : Nat) (vr : Value) (M2 : Bks) (w : World) => (j ≤ min ths.length 256) ∧ (Bl w0 2 1 vr j (il (row.take j)) M2) ∧ (HS w0 w ((b43, Row 93 (rvs rr ++ vr :: List.replicate m1 (.slice none 0 0))) :: (b39, Row 90 (ptrs (news ++ [x]) ++ List.replicate m1 (.pointer none))) :: (b5, Row 84 r.cells) :: (M2 ++ (rbs rr ++ (tbs (news ++ [x]) ++ (Ma ++ tbs ths))))))) (fun (j : Nat) (vr : Value) (M2 : Bks) (w : World) => min ths.length 256 - j) (0) (.slice none 0 0) ([]) (w) (is := [0, 3, 4, 5, 6, 7, 8, 9, 29, 30, 31, 50, 51, 52, 86, 87, 88]) rfl rfl ?_ ?_
     ·
      exact ⟨Nat.zero_le _, .nil, hs⟩
     ·
      clear hs
      intro j vr M2 w hI
      show W _ _ _ _ [(0, .pointer (some ⟨B, 0, none⟩)), (3, .slice aa ths.length ca), (4, .int .i64 i), (5, .pointer (some ⟨b5, 0, none⟩)), (6, .slice (some ⟨b39, 0, none⟩) r.ts.length r.ts.length), (7, .slice (some ⟨b43, 0, none⟩) r.ts.length r.ts.length), (8, .slice aa (min ths.length 256) ca), (9, .int .i64 k), (29, .slice ra rs.length rc), (30, .int .i64 rs.length), (31, .int .i64 i), (50, .slice r.a r.ts.length r.c), (51, .int .i64 r.ts.length), (52, .int .i64 k), (86, .slice aa (min ths.length 256) ca), (87, .int .i64 (min ths.length 256 : Nat)), (88, .int .i64 j)] w
      obtain ⟨hj, hbr, hs⟩ := hI
      by_cases hlj : j < min ths.length 256
      ·
       obtain ⟨t, hth⟩ : ∃ t, t = ths.getD j th0 := ⟨_, rfl⟩
       have hjl : j < ths.length := by omega
       obtain ⟨ta, tc, htv, htc⟩ := (hok t (by rw [hth]; exact getD_mem hjl)).2.slice
       have htm : t.row ∈ tbs ths := by rw [hth]; exact tbs_mem hjl
       have hxm : x.row ∈ tbs (news ++ [x]) := by rw [tbs_app, tbs_one]; exact List.mem_append_right _ (List.mem_cons_self ..)
       have hgp : (ptrs ths)[j]? = some (.pointer (some ⟨t.p, 0, none⟩)) := by rw [hth]; exact ptrs_get hjl
       have hgx : (ptrs (news ++ [x]) ++ List.replicate m1 (Value.pointer none))[k]? = some (.pointer (some ⟨x.p, 0, none⟩)) := by
        rw [ptrs_app, List.append_assoc]
        exact get_mid _ _ _ k (by rw [ptrs_len, hnl])
       have hgv : (rvs rr ++ vr :: List.replicate m1 (Value.slice none 0 0))[k]? = some vr := get_mid _ _ _ k (by rw [← hrl]; exact List.length_map ..)
       have hcj : row[j]? = some (costF far x.ax x.ay t.ax t.ay t.seen.length) := by
        rw [hrow, rowS, List.getElem?_map, hkn, List.getElem?_take_of_lt (by omega), List.getElem?_map]
        rw [show ths[j]? = some t by rw [hth, List.getD_eq_getElem?_getD, List.getElem?_eq_getElem hjl]; rfl]
        exact congrArg some (costF_congr (cn_cn _) (cn_cn _) (cn_cn _) (cn_cn _))
       obtain ⟨Z, hZ⟩ : ∃ Z, Z = rbs rr ++ (tbs (news ++ [x]) ++ (Ma ++ tbs ths)) := ⟨_, rfl⟩
       have hoZ2 : Own w0 Z := by rw [hZ]; exact (rbs_own hrok).app ((tbs_own fun u hu => (List.mem_append.1 hu).elim (hnok u) fun h => by rw [List.mem_singleton.1 h]; exact xok).app hoA)
       have htZ : t.row ∈ Z := by rw [hZ]; simp only [List.mem_append]; exact .inr (.inr (.inr htm))
       have hxZ : x.row ∈ Z := by rw [hZ]; simp only [List.mem_append]; exact .inr (.inl hxm)
       have hMZ : ∀ p ∈ Ma, p ∈ Z := fun p hp => by rw [hZ]; simp only [List.mem_append]; exact .inr (.inr (.inl hp))
       rw [← hZ] at hs
       obtain ⟨L, hL⟩ : ∃ L, L = (b43, Row 93 (rvs rr ++ vr :: List.replicate m1 (.slice none 0 0))) :: (b39, Row 90 (ptrs (news ++ [x]) ++ List.replicate m1 (.pointer none))) :: (b5, Row 84 r.cells) :: (M2 ++ Z) := ⟨_, rfl⟩
       have hoL : Own w0 L := by rw [hL]; exact Own.cons hb43 (Own.cons hb39 (Own.cons hb5 (hbr.own.app hoZ2)))
       have htL : t.row ∈ L := by rw [hL]; simp [htZ]
       have hxL : x.row ∈ L := by rw [hL]; simp [hxZ]
       have hL0 : L[0]? = some (b43, Row 93 (rvs rr ++ vr :: List.replicate m1 (.slice none 0 0))) := by rw [hL]; rfl
       have hL1 : L[1]? = some (b39, Row 90 (ptrs (news ++ [x]) ++ List.replicate m1 (.pointer none))) := by rw [hL]; rfl
       have hsa := Bl.slcM hba hs (fun p hp => by simp [hMZ p hp])
       rw [← hL] at hs
       refine W_seq (W_region (L_lss rfl rfl rfl (dtrue (by omega)) ?_))
       refine RL_then (W_seq (W_if_true rfl (W_skip' (Nx_then (W_seq (W_block (W_seq (W_region ?_))))))))
       refine L_idx1 rfl Try.underlying88 Try.ti90 rfl rfl (natc_k _) (by omega) (hsa.ao (by rw [ptrs_len]; omega)) ?_
       refine L_load rfl Try.one90 rfl (by exact hsa.get hgp) ?_
       refine L_assign rfl rfl (RL_then (W_sg Try.mixed ?_))
       replace hs := hs.drewN 1
       refine SG_stageB [0, 1, 2, 3, 4, 6, 7, 8, 9, 14] [5, 10, 11, 12, 13, 15, 16] [17, 18, 19] (noBk (SPF (costF far x.ax x.ay t.ax t.ay t.seen.length) 0)) (g' := 0) (by kernel_rfl) (by kernel_rfl) (fun _ _ _ _ _ h => h) hs ?_
       refine PL_val rfl (fun w => R_move rfl) ?_
       refine PL_val rfl (fun w => R_move rfl) ?_
       refine PL_val rfl (fun w => R_move rfl) ?_
       refine PL_val rfl (fun w => R_move rfl) ?_
       refine PL_val rfl (fun w => R_idx1 Try.underlying89 Try.ti93 rfl rfl (natc_k _) (by omega) rfl) ?_
       refine PL_val rfl (fun w => R_move rfl) ?_
       refine PL_val rfl (fun w => R_move rfl) ?_
       refine PL_val rfl (fun w => R_move rfl) ?_
       refine PL_val rfl (fun w => R_idx1 Try.underlying88 Try.ti90 rfl rfl (natc_k _) (by omega) rfl) ?_
       refine PL_val rfl (fun w => R_move rfl) ?_
       refine PL_endB ?_
       refine HB_val rfl (fun w R hR hs => R_load Try.one93 rfl (by exact cellAM hs (List.mem_append_left _ (List.mem_of_getElem? hL0)) hgv)) ?_
       refine HB_val rfl (fun w R hR hs => R_load Try.one90 rfl (by exact cellAM hs (List.mem_append_left _ (List.mem_of_getElem? hL1)) hgx)) ?_
       refine HB_val rfl (fun w R hR hs => R_nilCheck rfl) ?_
       refine HB_val rfl (fun w R hR hs => R_fieldAddr (off := 0) Try.underlying92 rfl rfl Try.ti35 rfl) ?_
       refine HB_val rfl (fun w R hR hs => R_loadA Try.agg35 Try.ti35 rfl (by exact thing_at hs (List.mem_append_left _ hxL))) ?_
       refine HB_callH rfl Try.fun42 rfl (fun w R hR hs => costG hs (hoL.app hR) hN hf x.ax x.ay htv (List.mem_append_left _ htL)) ?_
       rintro _ rfl
       refine HB_buildSlice1 rfl Try.underlying93 Try.ti2 rfl (by decide) rfl rfl ?_
       intro b108 hb108
       refine HB_tail ?_
       intro w hs
       replace hs : HS w0 w ((((b43, Row 93 (rvs rr ++ vr :: List.replicate m1 (.slice none 0 0))) :: (b39, Row 90 (ptrs (news ++ [x]) ++ List.replicate m1 (.pointer none))) :: (b5, Row 84 r.cells) :: Z) ++ M2) ++ [(b108, Row 2 [.int .i64 (costF far x.ax x.ay t.ax t.ay t.seen.length)])]) := by
        rw [hL] at hs
        exact HS.re hs (fun c => by simp only [List.map_append, List.map_cons, List.map_nil, List.sum_append, List.sum_cons, List.sum_nil]; omega)
       refine L_appendT (L := (b43, Row 93 (rvs rr ++ vr :: List.replicate m1 (.slice none 0 0))) :: (b39, Row 90 (ptrs (news ++ [x]) ++ List.replicate m1 (.pointer none))) :: (b5, Row 84 r.cells) :: Z) (M := M2) rfl Try.underlying93 Try.ti2 rfl hs hb108 hbr rfl rfl rfl (by simp [Value.oneCell']) (by omega) (by omega) ?_
       intro v' w M3 hs hb3
       obtain ⟨av, cv, rfl, hcv⟩ := hb3.slice
       refine L_idx1 rfl Try.underlying89 Try.ti93 rfl rfl (natc_k _) (by omega) rfl ?_
       refine L_store hs (i := 0) rfl Try.ti93 rfl rfl (by exact add_lit0 _ _) (by simp [rvs]; omega) rfl ?_
       intro w hs
       dsimp only [List.set_cons_succ, List.set_cons_zero, List.cons_append, List.nil_append] at hs
       refine RL_sg (SG_end (by kernel_rfl) ?_)
       refine Nx_block (Nx_then (W_region (L_add rfl rfl rfl (wrp_i64 (by omega)) ?_)))
       refine L_move rfl rfl (RL_nil' ?_)
       have e1 : (rvs rr ++ vr :: List.replicate m1 (Value.slice none 0 0)).set k (Value.slice av (j + 1) cv) = rvs rr ++ Value.slice av (j + 1) cv :: List.replicate m1 (Value.slice none 0 0) := set_mid' _ _ _ _ k (by rw [← hrl]; exact List.length_map ..)
       rw [e1] at hs
       refine Nx_loopP (j + 1, (.slice av (j + 1) cv), M3, _) (is := [0, 3, 4, 5, 6, 7, 8, 9, 29, 30, 31, 50, 51, 52, 86, 87, 88]) (I' := (fun (j : Nat) (vr : Value) (M2 : Bks) (w : World) => (j ≤ min ths.length 256) ∧ (Bl w0 2 1 vr j (il (row.take j)) M2) ∧ (HS w0 w ((b43, Row 93 (rvs rr ++ vr :: List.replicate m1 (.slice none 0 0))) :: (b39, Row 90 (ptrs (news ++ [x]) ++ List.replicate m1 (.pointer none))) :: (b5, Row 84 r.cells) :: (M2 ++ (rbs rr ++ (tbs (news ++ [x]) ++ (Ma ++ tbs ths))))))) (j + 1) ((.slice av (j + 1) cv)) (M3) (_)) rfl rfl rfl ?_ ?_
       ·
        refine ⟨by omega, ?_, ?_⟩
        ·
         rw [take_snoc hcj, ← il_snoc]; exact hb3
        ·
         rw [hZ] at hs
         exact HS.re hs (fun c => by simp only [List.map_append, List.map_cons, List.map_nil, List.sum_append, List.sum_cons, List.sum_nil]; omega)
       ·
        omega
      ·
       have hjm : row.take j = row := List.take_of_length_le (by omega)
       rw [hjm] at hbr
       have hjr : row.length = j := by omega
       refine W_seq (W_region (L_lss rfl rfl rfl (dfalse (by omega)) ?_))
       refine RL_then (W_seq (W_if_false rfl (W_exit' (Ex_then_exit (Ex_loop_exit (Ex_block_hit (Nx_block (Nx_then (W_region (L_add rfl rfl rfl (wrp_i64 (by omega)) ?_))))))))))
       refine L_move rfl rfl (RL_nil' ?_)
       refine Nx_loopP (k + 1, news ++ [x], rr ++ [⟨row, vr, M2⟩], _) (is := [0, 3, 4, 5, 6, 7, 8, 29, 30, 31, 50, 51, 52]) (I' := (fun (k : Nat) (news : List Th) (rr : List RR) (w : World) => (k ≤ r.ts.length) ∧ (news.length = k) ∧ (news.map Th.s = O.take k) ∧ (∀ t ∈ news, t.ok w0) ∧ (rr.length = k) ∧ (rr.map RR.xs = R.take k) ∧ (∀ q ∈ rr, q.ok w0) ∧ (HS w0 w ((b43, Row 93 (rvs rr ++ List.replicate (r.ts.length - k) (.slice none 0 0))) :: (b39, Row 90 (ptrs news ++ List.replicate (r.ts.length - k) (.pointer none))) :: (b5, Row 84 r.cells) :: (rbs rr ++ (tbs news ++ (Ma ++ tbs ths)))))) (k + 1) (news ++ [x]) (rr ++ [⟨row, vr, M2⟩]) (_)) rfl rfl rfl ?_ ?_
       ·
        have hOk : O[k]? = some (newS r i tk) := by
         rw [hO, ownS, ← hr, List.getElem?_map, List.getElem?_eq_getElem hlk, htk, List.getD_eq_getElem?_getD, List.getElem?_eq_getElem hlk]; rfl
        have hRk : R[k]? = some row := by
         rw [hR, rowsS, ← hO, List.getElem?_map, hOk, ← xs, hrow, hkn]; rfl
        refine ⟨by omega, hnl1, ?_, ?_, ?_, ?_, ?_, ?_⟩
        ·
         rw [List.map_append, hnm, take_snoc hOk, ← xs]; rfl
        ·
         exact fun u hu => (List.mem_append.1 hu).elim (hnok u) fun h => by rw [List.mem_singleton.1 h]; exact xok
        ·
         rw [List.length_append, hrl]; rfl
        ·
         rw [List.map_append, hrm, take_snoc hRk]; rfl
        ·
         refine fun u hu => (List.mem_append.1 hu).elim (hrok u) fun h => ?_
         rw [List.mem_singleton.1 h]
         show Bl w0 2 1 vr row.length (il row) M2
         rw [hjr]; exact hbr
        ·
         rw [show r.ts.length - (k + 1) = m1 by omega, show rvs (rr ++ [RR.mk row vr M2]) = rvs rr ++ [vr] by simp [rvs], show rbs (rr ++ [RR.mk row vr M2]) = rbs rr ++ M2 by simp [rbs], List.append_assoc (rvs rr), List.singleton_append]
         exact HS.re hs (fun c => by simp only [List.map_append, List.map_cons, List.map_nil, List.sum_append, List.sum_cons, List.sum_nil]; omega)
       ·
        omega
    ·
     obtain rfl : k = r.ts.length := by omega
     rw [Nat.sub_self, List.replicate_zero, List.append_nil, List.replicate_zero, List.append_nil] at hs
     have hRl : R.length = r.ts.length := by rw [hR, rowsS_len, ← hr]
     rw [List.take_of_length_le (by omega)] at hrm
     rw [List.take_of_length_le (by omega)] at hnm
     have hrx : ∀ q ∈ rr, q.xs.length ≤ 256 := fun q hq => by
      have : q.xs ∈ R := by rw [← hrm]; exact List.mem_map_of_mem hq
      rw [hR] at this
      obtain ⟨x, hx⟩ := rowsS_row this
      rw [hx, rowS, List.length_map, List.length_take]; omega
     have hRI : RowsI w (some ⟨b43, 0, none⟩) R (rvs rr) := by
      rw [← hrm]
      exact rowsI_of hs (List.mem_cons_self ..) hrok (fun p hp => by simp [hp]) hrx (by decide)
     refine W_seq (W_region (L_lss rfl rfl rfl (dfalse (by omega)) ?_))
     refine RL_then (W_seq (W_if_false rfl (W_exit' (Ex_then_exit (Ex_loop_exit (Ex_block_hit (Nx_then (W_seq (W_region (L_move rfl rfl (L_call rfl Try.fun43 rfl (most_ok (some ⟨b43, 0, none⟩) r.ts.length r.ts.length R (rvs rr) w hRI hRl (by omega)) ?_)))))))))))
     rintro _ wm ⟨v1, N1, ms, cnt, tt, ee, rfl, hsm, hbm, hM⟩
     have hsz := hs.size
     replace hs := hs.call hsm hbm.own
     replace hbm := hbm.mono hsz
     have hM' : MostAns (rowsS far rs i (ths.map Th.s)) ms cnt tt ee := hR ▸ hM
     obtain ⟨hml, hmr⟩ := mates_ok hf (hn i hlt) hM'
     rw [← hr] at hml
     obtain ⟨am, cm, rfl, hcm⟩ := hbm.slice
     replace hs : HS w0 wm ((b39, Row 90 (ptrs news)) :: (N1 ++ (tbs news ++ (Ma ++ tbs ths)))) :=
      HS.dropR (M := (b43, Row 93 (rvs rr)) :: (b5, Row 84 r.cells) :: rbs rr) (HS.re hs (fun c => by simp only [List.map_append, List.map_cons, List.map_nil, List.sum_append, List.sum_cons, List.sum_nil]; omega)) (Own.cons hb43 (Own.cons hb5 (rbs_own hrok)))
     refine L_move rfl rfl (L_extract rfl rfl rfl (L_extract rfl rfl rfl (L_extract rfl rfl rfl (L_extract rfl rfl rfl (L_assign rfl rfl (L_assign rfl rfl (L_assign rfl rfl (L_assign rfl rfl (RL_then (W_seq (W_region ?_)))))))))))
     obtain ⟨ks, hks⟩ : ∃ ks, ks = ptrs (ths.take (min ths.length 256)) := ⟨_, rfl⟩
     have hksl : ks.length = min ths.length 256 := by rw [hks, ptrs_len, List.length_take]; omega
     have hksp : ptrs ths = ks ++ ptrs (ths.drop (min ths.length 256)) := by rw [hks, ← ptrs_app, List.take_append_drop]
     have hKV0 : KV 90 ks aa (Ma ++ []) := Bl.view hba hksp
     refine L_move rfl rfl (L_len rfl Try.underlying88 rfl (L_move rfl rfl (RL_then (W_block ?_))))
     refine W_loop6 (fun (k : Nat) (th3 : List Th) (v3 : Value) (M3 : Bks) (K : Bks) (w : World) => [(0, .pointer (some ⟨B, 0, none⟩)), (3, v3), (4, .int .i64 i), (8, .slice aa (min ths.length 256) ca), (13, .slice am ms.length cm), (29, .slice ra rs.length rc), (30, .int .i64 rs.length), (31, .int .i64 i), (120, .slice (some ⟨b39, 0, none⟩) r.ts.length r.ts.length), (121, .int .i64 r.ts.length), (122, .int .i64 k)]) (fun (k : Nat) (th3 : List Th) (v3 : Value) (M3 : Bks) (K : Bks) (w : World) => w) (fun (k : Nat) (th3 : List Th) (v3 : Value) (M3 : Bks) (K : Bks) (w : World) => (k ≤ r.ts.length) ∧ (th3.map Th.s = ((O.zip ms).take k).foldl (stp i) (ths.map Th.s)) ∧ (Bl w0 90 1 v3 th3.length (ptrs th3) M3) ∧ (∀ t ∈ th3, t.ok w0) ∧ (∃ rest, ptrs th3 = ks ++ rest) ∧ (th3.length ≤ i * 256 + k) ∧ (∀ t ∈ th3, t.seen.length ≤ 1 + i * 256 + k) ∧ (KV 90 ks aa (M3 ++ K)) ∧ (Own w0 K) ∧ (HS w0 w ((b39, Row 90 (ptrs news)) :: (N1 ++ (tbs (news.drop k) ++ (K ++ (M3 ++ tbs th3))))))) (fun (k : Nat) (th3 : List Th) (v3 : Value) (M3 : Bks) (K : Bks) (w : World) => r.ts.length - k) (0) (ths) (.slice aa ths.length ca) (Ma) ([]) (_) (is := [0, 3, 4, 8, 13, 29, 30, 31, 120, 121, 122]) rfl rfl ?_ ?_
     ·
      exact ⟨Nat.zero_le _, rfl, hba, hok, ⟨_, hksp⟩, Nat.le_trans htl (Nat.le_add_right _ _), fun t ht => Nat.le_trans (hsl t ht) (Nat.le_add_right _ _), hKV0, Own.nil, hs⟩
     ·
      clear hs
      intro k th3 v3 M3 K w hI
      show W _ _ _ _ [(0, .pointer (some ⟨B, 0, none⟩)), (3, v3), (4, .int .i64 i), (8, .slice aa (min ths.length 256) ca), (13, .slice am ms.length cm), (29, .slice ra rs.length rc), (30, .int .i64 rs.length), (31, .int .i64 i), (120, .slice (some ⟨b39, 0, none⟩) r.ts.length r.ts.length), (121, .int .i64 r.ts.length), (122, .int .i64 k)] w
      obtain ⟨hk, h3m, hb3, h3ok, ⟨rest, h3p⟩, h3l, h3s, hKV, hoK, hs⟩ := hI
      by_cases hlk : k < r.ts.length
      ·
       obtain ⟨x, hx⟩ : ∃ x, x = news.getD k th0 := ⟨_, rfl⟩
       have hkn : k < news.length := by omega
       have hxok := hnok x (by rw [hx]; exact getD_mem hkn)
       have hOx : O[k]? = some x.s := by rw [hx]; exact get_of_map hnm hkn
       obtain ⟨m, hm⟩ : ∃ m, m = ms.getD k 0 := ⟨_, rfl⟩
       have hmk : ms[k]? = some m := by rw [hm, List.getD_eq_getElem?_getD, List.getElem?_eq_getElem (by omega)]; rfl
       have hmb := hmr k (by omega)
       rw [← hm, List.length_take, List.length_map] at hmb
       have hz : (O.zip ms)[k]? = some (x.s, m) := by rw [List.getElem?_zip_eq_some]; exact ⟨hOx, hmk⟩
       have hgx : (ptrs news)[k]? = some (.pointer (some ⟨x.p, 0, none⟩)) := by rw [hx]; exact ptrs_get hkn
       have hgm : (il ms)[k]? = some (.int .i64 m) := by rw [hm]; exact il_get (by omega)
       have hdr := tbs_drop hkn
       rw [← hx] at hdr
       rw [hdr] at hs
       have hsN : SlC w am (il ms) := Bl.slcM hbm hs (fun p hp => by simp [hp])
       have hsK : SlC w aa ks := hKV.slc hs (fun p hp => by simp only [List.mem_append] at hp; simp only [List.mem_cons, List.mem_append]; rcases hp with h | h <;> simp [h])
       have hdn : (O.zip ms).take (k + 1) = (O.zip ms).take k ++ [(x.s, m)] := take_snoc hz
       by_cases h0 : 0 ≤ m
       ·
        obtain ⟨q, rfl⟩ : ∃ q : Nat, m = (q : Int) := ⟨m.toNat, by omega⟩
        have hqk : q < ks.length := by omega
        have h3len : th3.length = ks.length + rest.length := by rw [← ptrs_len, h3p, List.length_append]
        have hq3 : q < th3.length := by omega
        obtain ⟨t, hth⟩ : ∃ t, t = th3.getD q th0 := ⟨_, rfl⟩
        have htok := h3ok t (by rw [hth]; exact getD_mem hq3)
        have hgt : ks[q]? = some (.pointer (some ⟨t.p, 0, none⟩)) := by
         have := ptrs_get hq3
         rw [h3p, List.getElem?_append_left hqk, ← hth] at this
         exact this
        have hsp := tbs_split hq3
        rw [← hth] at hsp
        obtain ⟨ta, tc, htv, htc⟩ := htok.2.slice
        have htl' := h3s t (by rw [hth]; exact getD_mem hq3)
        replace hs : HS w0 w ((t.row :: (b39, Row 90 (ptrs news)) :: (N1 ++ (x.row :: (x.M ++ (tbs (news.drop (k + 1)) ++ (K ++ (M3 ++ (tbs (th3.take q) ++ tbs (th3.drop (q + 1)))))))))) ++ t.M) := by
         rw [hsp] at hs
         exact HS.re hs (fun c => by simp only [List.map_append, List.map_cons, List.map_nil, List.sum_append, List.sum_cons, List.sum_nil]; omega)
        obtain ⟨Z, hZ⟩ : ∃ Z, Z = (b39, Row 90 (ptrs news)) :: (N1 ++ (x.row :: (x.M ++ (tbs (news.drop (k + 1)) ++ (K ++ (M3 ++ (tbs (th3.take q) ++ tbs (th3.drop (q + 1))))))))) := ⟨_, rfl⟩
        have hxZ : x.row ∈ Z := by rw [hZ]; simp
        have h39Z : (b39, Row 90 (ptrs news)) ∈ Z := by rw [hZ]; simp
        rw [← hZ] at hs
        obtain ⟨L, hL⟩ : ∃ L, L = (t.row :: Z) ++ t.M := ⟨_, rfl⟩
        have htL : t.row ∈ L := by rw [hL]; simp
        have hxL : x.row ∈ L := by rw [hL]; simp [hxZ]
        have h39L : (b39, Row 90 (ptrs news)) ∈ L := by rw [hL]; simp [h39Z]
        rw [← hL] at hs
        have hgtv : t.cells[4]? = some (.slice ta t.seen.length tc) := by rw [← htv]; rfl
        refine W_seq (W_region (L_lss rfl rfl rfl (dtrue (by omega)) ?_))
        refine RL_then (W_seq (W_if_true rfl (W_skip' (Nx_then (W_seq (W_block (W_seq (W_region (L_move rfl rfl (L_idx1 rfl Try.underlying88 Try.ti90 rfl rfl (natc_k _) (by omega) rfl ?_))))))))))
        refine L_load rfl Try.one90 rfl (by exact cellAM hs h39L hgx) ?_
        refine L_assign rfl rfl (L_assign rfl rfl (RL_then (W_seq (W_seq (W_region (L_move rfl rfl (L_move rfl rfl ?_)))))))
        refine L_idx1 rfl Try.underlying60 Try.ti3 rfl rfl (natc_k _) (by omega) (hsN.ao (by rw [il_length]; omega)) ?_
        refine L_load rfl Try.one3 rfl (by exact hsN.get hgm) ?_
        refine L_assign rfl rfl (RL_then (W_seq (W_region (L_move rfl rfl (L_geq rfl rfl rfl (dtrue (by omega)) ?_)))))
        refine RL_then (W_if_true rfl (W_seq (W_region (L_move rfl rfl (L_move rfl rfl (L_idx1 rfl Try.underlying88 Try.ti90 rfl rfl (natc_k _) (by omega) (hsK.ao (by omega)) ?_))))))
        refine L_load rfl Try.one90 rfl (by exact hsK.get hgt) ?_
        refine L_assign rfl rfl (RL_then (W_seq (W_sg Try.mixed ?_)))
        replace hs := hs.drewN 1
        refine SG_stageB [0, 1, 2, 3, 4, 5, 7, 8, 9, 12, 13, 14, 16, 17, 18, 21, 22, 23, 25] [6, 10, 11, 15, 19, 20, 24, 26] [27, 28, 29, 30, 31, 32, 33, 34, 35, 36] (noBk (SPF 0 0)) (g' := 0) (by kernel_rfl) (by kernel_rfl) (fun _ _ _ _ _ h => h) hs ?_
        refine PL_val rfl (fun w => R_move rfl) ?_
        refine PL_val rfl (fun w => R_move rfl) ?_
        refine PL_val rfl (fun w => R_move rfl) ?_
        refine PL_val rfl (fun w => R_move rfl) ?_
        refine PL_val rfl (fun w => R_nilCheck rfl) ?_
        refine PL_val rfl (fun w => R_fieldAddr (off := 0) Try.underlying92 rfl rfl Try.ti35 rfl) ?_
        refine PL_val rfl (fun w => R_move rfl) ?_
        refine PL_val rfl (fun w => R_nilCheck rfl) ?_
        refine PL_val rfl (fun w => R_fieldAddr (off := 0) Try.underlying92 rfl rfl Try.ti35 rfl) ?_
        refine PL_val rfl (fun w => R_move rfl) ?_
        refine PL_val rfl (fun w => R_nilCheck rfl) ?_
        refine PL_val rfl (fun w => R_fieldAddr (off := 2) Try.underlying92 rfl rfl Try.ti35 rfl) ?_
        refine PL_val rfl (fun w => R_move rfl) ?_
        refine PL_val rfl (fun w => R_nilCheck rfl) ?_
        refine PL_val rfl (fun w => R_fieldAddr (off := 2) Try.underlying92 rfl rfl Try.ti35 rfl) ?_
        refine PL_val rfl (fun w => R_move rfl) ?_
        refine PL_val rfl (fun w => R_nilCheck rfl) ?_
        refine PL_val rfl (fun w => R_fieldAddr (off := 4) Try.underlying92 rfl rfl Try.ti60 rfl) ?_
        refine PL_val rfl (fun w => R_move rfl) ?_
        refine PL_endB ?_
        refine HB_val rfl (fun w R hR hs => R_loadA Try.agg35 Try.ti35 rfl (by exact thing_at hs (List.mem_append_left _ htL))) ?_
        refine HB_val rfl (fun w R hR hs => R_loadA Try.agg35 Try.ti35 rfl (by exact thing_at hs (List.mem_append_left _ hxL))) ?_
        refine HB_callH rfl Try.fun44 rfl (fun w R hR hs => paddH 0 0 hs _ _ _ _) ?_
        rintro _ ⟨sx, sy, rfl, hsx, hsy⟩
        refine HB_val rfl (fun w R hR hs => R_loadA Try.agg35 Try.ti35 rfl (by exact thing_vel hs (List.mem_append_left _ htL))) ?_
        refine HB_val rfl (fun w R hR hs => R_loadA Try.agg35 Try.ti35 rfl (by exact thing_vel hs (List.mem_append_left _ hxL))) ?_
        refine HB_callH rfl Try.fun44 rfl (fun w R hR hs => paddH 0 0 hs _ _ _ _) ?_
        rintro _ ⟨ux, uy, rfl, hux, huy⟩
        refine HB_val rfl (fun w R hR hs => R_load Try.one60 rfl (by exact thing_cell hs (List.mem_append_left _ htL) hgtv)) ?_
        refine HB_buildSlice1 rfl Try.underlying60 Try.ti3 rfl (by decide) rfl rfl ?_
        intro b163 hb163
        refine HB_tail ?_
        intro w hs
        rw [hL] at hs
        have htb : Bl w0 3 1 (.slice ta t.seen.length tc) t.seen.length (il t.seen) t.M := by rw [← htv]; exact htok.2
        refine L_appendT (L := t.row :: Z) (M := t.M) rfl Try.underlying60 Try.ti3 rfl hs hb163 htb rfl rfl rfl (by simp [Value.oneCell']) (by omega) (by omega) ?_
        intro v' w M' hs hbn
        obtain ⟨av, cv, rfl, hcv⟩ := hbn.slice
        refine L_nilCheck rfl rfl (L_fieldAddr rfl (off := 0) Try.underlying92 rfl rfl Try.ti35 rfl (L_storeA hs (i := 0) rfl Try.ti35 rfl rfl (by rfl) (by simp [Th.cells]) (by simp [Value.oneCell']) ?_))
        intro w hs
        dsimp only [List.set_cons_succ, List.set_cons_zero, List.cons_append, List.nil_append] at hs
        refine L_nilCheck rfl rfl (L_fieldAddr rfl (off := 2) Try.underlying92 rfl rfl Try.ti35 rfl (L_storeA hs (i := 0) rfl Try.ti35 rfl rfl (by rfl) (by simp [Th.cells]) (by simp [Value.oneCell']) ?_))
        intro w hs
        dsimp only [List.set_cons_succ, List.set_cons_zero, List.cons_append, List.nil_append] at hs
        refine L_nilCheck rfl rfl (L_fieldAddr rfl (off := 4) Try.underlying92 rfl rfl Try.ti60 rfl (L_store hs (i := 0) rfl Try.ti60 rfl rfl (by rfl) (by simp [Th.cells]) rfl ?_))
        intro w hs
        dsimp only [List.set_cons_succ, List.set_cons_zero, List.cons_append, List.nil_append] at hs
        refine RL_sg (SG_end (by kernel_rfl) ?_)
        refine Nx_then (W_exit' (Ex_then_exit (Ex_block_hit (Nx_then (W_region (L_add rfl rfl rfl (wrp_i64 (by omega)) ?_))))))
        refine L_move rfl rfl (RL_nil' ?_)
        obtain ⟨t', ht'e⟩ : ∃ t', t' = Th.mk t.p sx sy ux uy (t.seen ++ [(i : Int)]) (.slice av (t.seen.length + 1) cv) M' := ⟨_, rfl⟩
        replace hs : HS w0 w ((t'.row :: Z) ++ M') := by rw [ht'e]; exact hs
        have ht'M : t'.M = M' := by rw [ht'e]
        have ht'ok : t'.ok w0 := by
         rw [ht'e]
         refine ⟨htok.1, ?_⟩
         show Bl w0 3 1 (.slice av (t.seen.length + 1) cv) (t.seen ++ [(i : Int)]).length (il (t.seen ++ [(i : Int)])) M'
         rw [List.length_append, ← il_snoc]
         exact hbn
        have ht's : t'.s = mrgS i t.s x.s := by
         rw [ht'e]
         unfold Th.s mrgS
         rw [hsx, hsy, hux, huy]
         show ST.mk _ _ _ _ _ = ST.mk (fop .add (cn t.ax) (cn x.ax)) (fop .add (cn t.ay) (cn x.ay)) (fop .add (cn t.vx) (cn x.vx)) (fop .add (cn t.vy) (cn x.vy)) _
         rw [fop_cn, fop_cn, fop_cn, fop_cn]
        refine Nx_loopP (k + 1, th3.set q t', v3, M3, K, _) (is := [0, 3, 4, 8, 13, 29, 30, 31, 120, 121, 122]) (I' := (fun (k : Nat) (th3 : List Th) (v3 : Value) (M3 : Bks) (K : Bks) (w : World) => (k ≤ r.ts.length) ∧ (th3.map Th.s = ((O.zip ms).take k).foldl (stp i) (ths.map Th.s)) ∧ (Bl w0 90 1 v3 th3.length (ptrs th3) M3) ∧ (∀ t ∈ th3, t.ok w0) ∧ (∃ rest, ptrs th3 = ks ++ rest) ∧ (th3.length ≤ i * 256 + k) ∧ (∀ t ∈ th3, t.seen.length ≤ 1 + i * 256 + k) ∧ (KV 90 ks aa (M3 ++ K)) ∧ (Own w0 K) ∧ (HS w0 w ((b39, Row 90 (ptrs news)) :: (N1 ++ (tbs (news.drop k) ++ (K ++ (M3 ++ tbs th3))))))) (k + 1) (th3.set q t') (v3) (M3) (K) (_)) rfl rfl rfl ?_ ?_
        ·
         refine ⟨by omega, ?_, ?_, set_ok h3ok ht'ok, ?_, ?_, ?_, hKV, hoK, ?_⟩
         ·
          rw [hdn, List.foldl_append, ← h3m]
          show _ = stp i (th3.map Th.s) (x.s, (q : Int))
          unfold stp
          rw [if_pos h0, List.map_set, ht's, Int.toNat_natCast]
          have := get_of_map (m := th3.map Th.s) (f := Th.s) (d := th0) rfl hq3
          rw [List.getD_eq_getElem?_getD, this, ← hth]; rfl
         ·
          rw [List.length_set, ptrs_set hq3 (by rw [ht'e, ← hth])]; exact hb3
         ·
          rw [ptrs_set hq3 (by rw [ht'e, ← hth])]; exact ⟨rest, h3p⟩
         ·
          rw [List.length_set]; omega
         ·
          intro u hu
          rcases List.mem_or_eq_of_mem_set hu with h1 | h1
          ·
           have := h3s u h1; omega
          ·
           rw [h1, ht'e]
           show (t.seen ++ [(i : Int)]).length ≤ _
           rw [List.length_append, List.length_singleton]; omega
         ·
          rw [tbs_set hq3, ht'M]
          rw [hZ] at hs
          exact HS.dropR (M := x.row :: x.M) (HS.re hs (fun c => by simp only [List.map_append, List.map_cons, List.map_nil, List.sum_append, List.sum_cons, List.sum_nil]; omega)) (Own.cons hxok.1 hxok.2.own)
        ·
         omega
       ·
        have hm1 : ¬ 0 ≤ m := h0
        obtain ⟨va, hva⟩ : ∃ va, v3 = va := ⟨_, rfl⟩
        obtain ⟨a3, c3, rfl, hc3⟩ := hb3.slice
        obtain ⟨Z, hZ⟩ : ∃ Z, Z = (b39, Row 90 (ptrs news)) :: (N1 ++ (x.row :: (x.M ++ (tbs (news.drop (k + 1)) ++ (K ++ tbs th3))))) := ⟨_, rfl⟩
        have h39Z : (b39, Row 90 (ptrs news)) ∈ Z := by rw [hZ]; simp
        replace hs : HS w0 w (Z ++ M3) := by rw [hZ]; exact HS.re hs (fun c => by simp only [List.map_append, List.map_cons, List.map_nil, List.sum_append, List.sum_cons, List.sum_nil]; omega)
        refine W_seq (W_region (L_lss rfl rfl rfl (dtrue (by omega)) ?_))
        refine RL_then (W_seq (W_if_true rfl (W_skip' (Nx_then (W_seq (W_block (W_seq (W_region (L_move rfl rfl (L_idx1 rfl Try.underlying88 Try.ti90 rfl rfl (natc_k _) (by omega) rfl ?_))))))))))
        refine L_load rfl Try.one90 rfl (by exact cellAM hs (List.mem_append_left _ h39Z) hgx) ?_
        refine L_assign rfl rfl (L_assign rfl rfl (RL_then (W_seq (W_seq (W_region (L_move rfl rfl (L_move rfl rfl ?_)))))))
        refine L_idx1 rfl Try.underlying60 Try.ti3 rfl rfl (natc_k _) (by omega) (hsN.ao (by rw [il_length]; omega)) ?_
        refine L_load rfl Try.one3 rfl (by exact hsN.get hgm) ?_
        refine L_assign rfl rfl (RL_then (W_seq (W_region (L_move rfl rfl (L_geq rfl rfl rfl (dfalse (by omega)) ?_)))))
        refine RL_then (W_if_false rfl (W_skip' (Nx_then (W_region (L_move rfl rfl (L_move rfl rfl (L_buildSlice1 rfl hs Try.underlying88 Try.ti90 rfl (by decide) rfl rfl ?_)))))))
        intro b173 w hb173 hnb173 hs
        simp only [List.map_cons, List.map_nil] at hs
        replace hs : HS w0 w ((Z ++ M3) ++ [(b173, Row 90 [.pointer (some ⟨x.p, 0, none⟩)])]) := hs
        refine L_appendK (L := Z) (M := M3) rfl Try.underlying88 Try.ti90 rfl hs hb173 hb3 rfl rfl rfl (by simp [Value.oneCell']) (by omega) (by omega) ?_
        intro v' w M' K' hs hbn hkp
        obtain ⟨av, cv, rfl, hcv⟩ := hbn.slice
        refine L_assign rfl rfl (RL_nil' (Nx_block (Nx_then (W_region (L_add rfl rfl rfl (wrp_i64 (by omega)) ?_)))))
        refine L_move rfl rfl (RL_nil' ?_)
        refine Nx_loopP (k + 1, th3 ++ [x], _, M', K' ++ K, _) (is := [0, 3, 4, 8, 13, 29, 30, 31, 120, 121, 122]) (I' := (fun (k : Nat) (th3 : List Th) (v3 : Value) (M3 : Bks) (K : Bks) (w : World) => (k ≤ r.ts.length) ∧ (th3.map Th.s = ((O.zip ms).take k).foldl (stp i) (ths.map Th.s)) ∧ (Bl w0 90 1 v3 th3.length (ptrs th3) M3) ∧ (∀ t ∈ th3, t.ok w0) ∧ (∃ rest, ptrs th3 = ks ++ rest) ∧ (th3.length ≤ i * 256 + k) ∧ (∀ t ∈ th3, t.seen.length ≤ 1 + i * 256 + k) ∧ (KV 90 ks aa (M3 ++ K)) ∧ (Own w0 K) ∧ (HS w0 w ((b39, Row 90 (ptrs news)) :: (N1 ++ (tbs (news.drop k) ++ (K ++ (M3 ++ tbs th3))))))) (k + 1) (th3 ++ [x]) (_) (M') (K' ++ K) (_)) rfl rfl rfl ?_ ?_
        ·
         refine ⟨by omega, ?_, ?_, ?_, ?_, ?_, ?_, ?_, ?_, ?_⟩
         ·
          rw [hdn, List.foldl_append, ← h3m, List.map_append]
          show _ = stp i (th3.map Th.s) (x.s, m)
          unfold stp
          rw [if_neg h0]; rfl
         ·
          rw [List.length_append, ptrs_app]; exact hbn
         ·
          exact fun u hu => (List.mem_append.1 hu).elim (h3ok u) fun h => by rw [List.mem_singleton.1 h]; exact hxok
         ·
          exact ⟨rest ++ ptrs [x], by rw [ptrs_app, h3p, List.append_assoc]⟩
         ·
          rw [List.length_append, List.length_singleton]; omega
         ·
          intro u hu
          rcases List.mem_append.1 hu with h1 | h1
          ·
           have := h3s u h1; omega
          ·
           rw [List.mem_singleton.1 h1]
           have hxs : x.seen = [(i : Int)] := by
            have e1 : O[k]? = some (newS r i (r.ts.getD k tk0)) := by
             rw [hO, ownS, ← hr, List.getElem?_map, List.getElem?_eq_getElem hlk, List.getD_eq_getElem?_getD, List.getElem?_eq_getElem hlk]; rfl
            have e2 := congrArg ST.seen (Option.some.inj (hOx.symm.trans e1))
            exact e2
           rw [hxs, List.length_singleton]; omega
         ·
          exact KV.step hKV hkp h3p
         ·
          exact (hkp.own hb3.own).app hoK
         ·
          rw [tbs_app, tbs_one]
          rw [hZ] at hs
          show HS w0 _ ((b39, Row 90 (ptrs news)) :: (N1 ++ (tbs (news.drop (k + 1)) ++ ((K' ++ K) ++ (M' ++ (tbs th3 ++ (x.row :: x.M)))))))
          exact HS.re hs (fun c => by simp only [List.map_append, List.map_cons, List.map_nil, List.sum_append, List.sum_cons, List.sum_nil]; omega)
        ·
         omega
      ·
       obtain rfl : k = r.ts.length := by omega
       obtain ⟨a3, c3, rfl, hc3⟩ := hb3.slice
       refine W_seq (W_region (L_lss rfl rfl rfl (dfalse (by omega)) ?_))
       refine RL_then (W_seq (W_if_false rfl (W_exit' (Ex_then_exit (Ex_loop_exit (Ex_block_hit (Nx_block (Nx_then (W_region (L_add rfl rfl rfl (wrp_i64 (by omega)) ?_))))))))))
       refine L_move rfl rfl (RL_nil' ?_)
       refine Nx_loopP (i + 1, th3, _, M3, _) (is := [0, 3, 29, 30, 31]) (I' := (fun (i : Nat) (ths : List Th) (va : Value) (Ma : Bks) (w : World) => (i ≤ rs.length) ∧ (FusTo far rs i (ths.map Th.s)) ∧ (Bl w0 90 1 va ths.length (ptrs ths) Ma) ∧ (∀ t ∈ ths, t.ok w0) ∧ (ths.length ≤ i * 256) ∧ (∀ t ∈ ths, t.seen.length ≤ 1 + i * 256) ∧ (HS w0 w (Ma ++ tbs ths))) (i + 1) (th3) (_) (M3) (_)) rfl rfl rfl ?_ ?_
       ·
        have hzl : (O.zip ms).take r.ts.length = O.zip ms := List.take_of_length_le (by rw [List.length_zip]; omega)
        rw [hzl] at h3m
        refine ⟨by omega, ?_, hb3, h3ok, by omega, fun u hu => (by have := h3s u hu; omega), ?_⟩
        ·
         rw [h3m, hO]; exact .step hF hlt hM'
        ·
         exact HS.dropR (M := (b39, Row 90 (ptrs news)) :: (N1 ++ (tbs (news.drop r.ts.length) ++ K))) (HS.re hs (fun c => by simp only [List.map_append, List.map_cons, List.map_nil, List.sum_append, List.sum_cons, List.sum_nil]; omega)) (Own.cons hb39 (hbm.own.app ((tbs_own fun u hu => hnok u (List.mem_of_mem_drop hu)).app hoK)))
       ·
        omega
  ·
   obtain rfl : i = rs.length := by omega
   refine W_seq (W_region (L_lss rfl rfl rfl (dfalse (by omega)) ?_))
   refine RL_then (W_seq (W_if_false rfl (W_exit' (Ex_then_exit (Ex_loop_exit (Ex_block_hit (Nx_then (W_seq (W_region (L_assign rfl rfl (RL_then (W_seq ?_))))))))))))
   refine W_seq (W_region (L_move rfl rfl (L_len rfl Try.underlying88 rfl (L_move rfl rfl (RL_then (W_block ?_))))))
   refine W_loop5 (fun (j : Nat) (fs : List Th) (vo : Value) (Mo : Bks) (w : World) => [(21, vo), (177, .slice aa ths.length ca), (178, .int .i64 ths.length), (179, .int .i64 j)]) (fun (j : Nat) (fs : List Th) (vo : Value) (Mo : Bks) (w : World) => w) (fun (j : Nat) (fs : List Th) (vo : Value) (Mo : Bks) (w : World) => (j ≤ ths.length) ∧ (fs.length = j) ∧ (fs.map Th.s = ((ths.take j).map Th.s).map prt) ∧ (fs.map Th.M = (ths.take j).map Th.M) ∧ (∀ t ∈ fs, Bl w0 3 1 t.v t.seen.length (il t.seen) t.M) ∧ (∀ t ∈ fs, t.seen.length ≤ 4097) ∧ (Bl w0 64 5 vo j (fcs fs) Mo) ∧ (HS w0 w (Mo ++ (Ma ++ tbs ths)))) (fun (j : Nat) (fs : List Th) (vo : Value) (Mo : Bks) (w : World) => ths.length - j) (0) ([]) (.slice none 0 0) ([]) (w) (is := [21, 177, 178, 179]) rfl rfl ?_ ?_
   ·
    exact ⟨Nat.zero_le _, rfl, rfl, rfl, fun _ h => absurd h List.not_mem_nil, fun _ h => absurd h List.not_mem_nil, .nil, hs⟩
   ·
    clear hs
    intro j fs vo Mo w hI
    show W _ _ _ _ [(21, vo), (177, .slice aa ths.length ca), (178, .int .i64 ths.length), (179, .int .i64 j)] w
    obtain ⟨hj, hfl, hfm, hfM, hfb, hfs, hbo, hs⟩ := hI
    by_cases hlj : j < ths.length
    ·
     obtain ⟨t, hth⟩ : ∃ t, t = ths.getD j th0 := ⟨_, rfl⟩
     have htok := hok t (by rw [hth]; exact getD_mem hlj)
     have hts := hsl t (by rw [hth]; exact getD_mem hlj)
     obtain ⟨ta, tc, htv, htc⟩ := htok.2.slice
     have hgtv : t.cells[4]? = some (.slice ta t.seen.length tc) := by rw [← htv]; rfl
     have hgp : (ptrs ths)[j]? = some (.pointer (some ⟨t.p, 0, none⟩)) := by rw [hth]; exact ptrs_get hlj
     have htj : ths[j]? = some t := by rw [hth, List.getD_eq_getElem?_getD, List.getElem?_eq_getElem hlj]; rfl
     have hsa : SlC w aa (ptrs ths) := Bl.slcM hba hs (fun p hp => by simp [hp])
     obtain ⟨L, hL⟩ : ∃ L, L = Mo ++ (Ma ++ tbs ths) := ⟨_, rfl⟩
     have htL : t.row ∈ L := by rw [hL, hth]; exact List.mem_append_right _ (List.mem_append_right _ (tbs_mem hlj))
     rw [← hL] at hs
     refine W_seq (W_region (L_lss rfl rfl rfl (dtrue (by omega)) ?_))
     refine RL_then (W_seq (W_if_true rfl (W_skip' (Nx_then (W_seq (W_block (W_seq (W_region ?_))))))))
     refine L_idx1 rfl Try.underlying88 Try.ti90 rfl rfl (natc_k _) (by omega) (hsa.ao (by rw [ptrs_len]; omega)) ?_
     refine L_load rfl Try.one90 rfl (by exact hsa.get hgp) ?_
     refine L_assign rfl rfl (RL_then (W_sg Try.mixed ?_))
     replace hs := hs.drewN 1
     refine SG_stageB [0, 1, 2, 3, 4, 7, 8, 9, 10, 13, 14, 15] [5, 6, 11, 12, 16, 17, 18] [19, 20] (noBk (SPF 0 t.seen.length)) (g' := 0) (by kernel_rfl) (by kernel_rfl) (fun _ _ _ _ _ h => h) hs ?_
     refine PL_val rfl (fun w => R_move rfl) ?_
     refine PL_val rfl (fun w => R_move rfl) ?_
     refine PL_val rfl (fun w => R_move rfl) ?_
     refine PL_val rfl (fun w => R_nilCheck rfl) ?_
     refine PL_val rfl (fun w => R_fieldAddr (off := 0) Try.underlying92 rfl rfl Try.ti35 rfl) ?_
     refine PL_val rfl (fun w => R_move rfl) ?_
     refine PL_val rfl (fun w => R_move rfl) ?_
     refine PL_val rfl (fun w => R_nilCheck rfl) ?_
     refine PL_val rfl (fun w => R_fieldAddr (off := 2) Try.underlying92 rfl rfl Try.ti35 rfl) ?_
     refine PL_val rfl (fun w => R_move rfl) ?_
     refine PL_val rfl (fun w => R_nilCheck rfl) ?_
     refine PL_val rfl (fun w => R_fieldAddr (off := 4) Try.underlying92 rfl rfl Try.ti60 rfl) ?_
     refine PL_endB ?_
     refine HB_val rfl (fun w R hR hs => R_loadA Try.agg35 Try.ti35 rfl (by exact thing_at hs (List.mem_append_left _ htL))) ?_
     refine HB_callH rfl Try.fun45 rfl (fun w R hR hs => partH 0 hs t.p _ _ t.seen.length tc ta (thing_cell hs (List.mem_append_left _ htL) hgtv)) ?_
     rintro _ ⟨sx, sy, rfl, hsx, hsy⟩
     refine HB_val rfl (fun w R hR hs => R_loadA Try.agg35 Try.ti35 rfl (by exact thing_vel hs (List.mem_append_left _ htL))) ?_
     refine HB_callH rfl Try.fun45 rfl (fun w R hR hs => partH 0 hs t.p _ _ t.seen.length tc ta (thing_cell hs (List.mem_append_left _ htL) hgtv)) ?_
     rintro _ ⟨ux, uy, rfl, hux, huy⟩
     refine HB_val rfl (fun w R hR hs => R_load Try.one60 rfl (by exact thing_cell hs (List.mem_append_left _ htL) hgtv)) ?_
     refine HB_val rfl (fun w R hR hs => R_build rfl (Pl.builtN Try.pl64 rfl)) ?_
     refine HB_buildSlice rfl Try.underlying55 Try.ti64 rfl (by decide) rfl (by simp [Value.cells]) ?_
     intro b201 hb201
     refine HB_tail ?_
     intro w hs
     obtain ⟨f, hfe⟩ : ∃ f, f = Th.mk 0 sx sy ux uy t.seen (.slice ta t.seen.length tc) t.M := ⟨_, rfl⟩
     replace hs : HS w0 w (((Ma ++ tbs ths) ++ Mo) ++ [(b201, Row 64 f.cells)]) := by
      rw [hL] at hs
      rw [hfe]
      show HS w0 w (((Ma ++ tbs ths) ++ Mo) ++ [(b201, Row 64 [.float .f64 sx, .float .f64 sy, .float .f64 ux, .float .f64 uy, .slice ta t.seen.length tc])])
      replace hs : HS w0 w ((Mo ++ (Ma ++ tbs ths)) ++ [(b201, Row 64 [.float .f64 sx, .float .f64 sy, .float .f64 ux, .float .f64 uy, .slice ta t.seen.length tc])]) := hs
      exact HS.re hs (fun c => by simp only [List.map_append, List.map_cons, List.map_nil, List.sum_append, List.sum_cons, List.sum_nil]; omega)
     refine L_appendT (L := Ma ++ tbs ths) (M := Mo) rfl Try.underlying55 Try.ti64 rfl hs hb201 hbo rfl rfl rfl (by rw [hfe]; simp [Th.cells, Value.oneCell']) (by omega) (by omega) ?_
     intro v' w M' hs hbn
     refine L_assign rfl rfl (RL_sg (SG_end (by kernel_rfl) ?_))
     refine Nx_block (Nx_then (W_region (L_add rfl rfl rfl (wrp_i64 (by omega)) ?_)))
     refine L_move rfl rfl (RL_nil' ?_)
     refine Nx_loopP (j + 1, fs ++ [f], _, M', _) (is := [21, 177, 178, 179]) (I' := (fun (j : Nat) (fs : List Th) (vo : Value) (Mo : Bks) (w : World) => (j ≤ ths.length) ∧ (fs.length = j) ∧ (fs.map Th.s = ((ths.take j).map Th.s).map prt) ∧ (fs.map Th.M = (ths.take j).map Th.M) ∧ (∀ t ∈ fs, Bl w0 3 1 t.v t.seen.length (il t.seen) t.M) ∧ (∀ t ∈ fs, t.seen.length ≤ 4097) ∧ (Bl w0 64 5 vo j (fcs fs) Mo) ∧ (HS w0 w (Mo ++ (Ma ++ tbs ths)))) (j + 1) (fs ++ [f]) (_) (M') (_)) rfl rfl rfl ?_ ?_
     ·
      have hfM' : f.M = t.M := by rw [hfe]
      refine ⟨by omega, by rw [List.length_append, hfl]; rfl, ?_, ?_, ?_, ?_, ?_, ?_⟩
      ·
       rw [take_snoc htj, List.map_append, List.map_append, List.map_append, hfm]
       congr 1
       show [f.s] = [prt t.s]
       congr 1
       rw [hfe]
       unfold Th.s prt
       rw [hsx, hsy, hux, huy]
       show ST.mk _ _ _ _ _ = ST.mk (fop .quo (cn t.ax) (FloatKind.f64.nearest (t.seen.length : Int))) (fop .quo (cn t.ay) (FloatKind.f64.nearest (t.seen.length : Int))) (fop .quo (cn t.vx) (FloatKind.f64.nearest (t.seen.length : Int))) (fop .quo (cn t.vy) (FloatKind.f64.nearest (t.seen.length : Int))) _
       rw [fop_congr (op := .quo) (cn_cn t.ax) rfl, fop_congr (op := .quo) (cn_cn t.ay) rfl, fop_congr (op := .quo) (cn_cn t.vx) rfl, fop_congr (op := .quo) (cn_cn t.vy) rfl]
      ·
       rw [take_snoc htj, List.map_append, List.map_append, hfM]
       show _ ++ [f.M] = _ ++ [t.M]
       rw [hfM']
      ·
       refine fun u hu => (List.mem_append.1 hu).elim (hfb u) fun h => ?_
       rw [List.mem_singleton.1 h, hfe]
       show Bl w0 3 1 (.slice ta t.seen.length tc) t.seen.length (il t.seen) t.M
       rw [← htv]; exact htok.2
      ·
       refine fun u hu => (List.mem_append.1 hu).elim (hfs u) fun h => ?_
       rw [List.mem_singleton.1 h, hfe]
       show t.seen.length ≤ 4097
       omega
      ·
       show Bl w0 64 5 _ (j + 1) (fcs (fs ++ [f])) M'
       rw [show fcs (fs ++ [f]) = fcs fs ++ f.cells by simp [fcs]]
       exact hbn
      ·
       exact HS.re hs (fun c => by simp only [List.map_append, List.map_cons, List.map_nil, List.sum_append, List.sum_cons, List.sum_nil]; omega)
     ·
      omega
    ·
     have hjt : ths.take j = ths := List.take_of_length_le (by omega)
     rw [hjt] at hfm hfM
     refine W_seq (W_region (L_lss rfl rfl rfl (dfalse (by omega)) ?_))
     refine RL_then (W_seq (W_if_false rfl (W_exit' (Ex_then_exit (Ex_loop_exit (Ex_block_hit (Nx_then (W_seq (W_region (L_move rfl rfl (L_assign rfl rfl (RL_then ?_))))))))))))
     refine W_ret' (Ex_done1 rfl rfl ?_)
     refine ⟨_, rfl, ths.map Th.s, fs, Mo, hF, hfm, by rw [hfl]; exact hbo, hfb, ?_, by omega, hfs⟩
     rw [fms_of hfM]
     refine hs.sub (fun p hp => ?_) ?_ (fun p hp => ?_)
     ·
      rcases List.mem_append.1 hp with h | h
      ·
       exact List.mem_append_left _ h
      ·
       exact List.mem_append_right _ (List.mem_append_right _ ((fms_sub ths).subset h))
     ·
      have hnd := hs.nodup
      refine hnd.sublist (List.Sublist.map _ ?_)
      exact (List.Sublist.refl Mo).append ((fms_sub ths).trans (List.sublist_append_right ..))
     ·
      rcases List.mem_append.1 hp with h | h
      ·
       exact .inl (List.mem_append_left _ h)
      ·
       exact .inr (hoA p h)
end Go.Proofs.Ytknpoemkmcdgcaa
