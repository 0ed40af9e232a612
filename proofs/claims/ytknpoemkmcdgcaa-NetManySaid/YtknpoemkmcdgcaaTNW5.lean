/-
 A part of the proof: what functions that the statement reaches do, or a plain law on what they do. Each theorem holds under its own premises alone.
-/
import Derived.Test.YtknpoemkmcdgcaaTNW
namespace Go.Proofs.Ytknpoemkmcdgcaa
open Go Go.Lk
set_option maxHeartbeats 4000000 in
theorem rfused_ok (B far : Nat) (rs : List Rd) (sa ta : Option Addr) (sc tc : Nat) (w0 : World) (hD : DAt w0 B far rs sa sc ta tc) (hf : FarOk far) (hk16 : rs.length ≤ 16) (hn : ∀ i, i < rs.length → (rs.getD i rd0).ts.length ≤ 256) (ht : ∀ i, i < rs.length → (rs.getD i rd0).t < 18446744073709551616) :
  Ret Try.prog 34 [.pointer (some ⟨B, 0, none⟩)] w0 fun v w' => ∃ S fs Mo, FusTo far rs rs.length S ∧ fs.map Th.s = S.map prt ∧ Bl w0 64 5 v fs.length (fcs fs) Mo ∧ (∀ t ∈ fs, Bl w0 3 1 t.v t.seen.length (il t.seen) t.M) ∧ HS w0 w' (Mo ++ fms fs) ∧ fs.length ≤ 4096 ∧ ∀ t ∈ fs, t.seen.length ≤ 4097 := by
 refine Ret.start fun w hs => ?_
 refine calls_of_W Try.func34 rfl rfl rfl (W_seq (W_region (L_assign rfl rfl (RL_then (W_seq (W_region (L_assign rfl rfl (RL_then (W_seq (W_seq (W_region (L_assign rfl rfl ?_))))))))))))
 refine RL_then (W_block ?_)
 refine W_loop5 (fun (i : Nat) (ths : List Th) (va : Value) (Ma : Bks) (w : World) => [(0, .pointer (some ⟨B, 0, none⟩)), (3, va), (4, .int .i64 i)]) (fun (i : Nat) (ths : List Th) (va : Value) (Ma : Bks) (w : World) => w) (fun (i : Nat) (ths : List Th) (va : Value) (Ma : Bks) (w : World) => (i ≤ rs.length) ∧ (FusTo far rs i (ths.map Th.s)) ∧ (Bl w0 112 5 va ths.length (fcs ths) Ma) ∧ (∀ t ∈ ths, Bl w0 3 1 t.v t.seen.length (il t.seen) t.M) ∧ (ths.length ≤ i * 256) ∧ (∀ t ∈ ths, t.seen.length ≤ 1 + i * 256) ∧ (HS w0 w (Ma ++ fms ths))) (fun (i : Nat) (ths : List Th) (va : Value) (Ma : Bks) (w : World) => rs.length - i) (0) ([]) (.slice none 0 0) ([]) (w) (is := [0, 3, 4]) rfl rfl ?_ ?_
 ·
  exact ⟨Nat.zero_le _, .zero, .nil, fun _ h => absurd h List.not_mem_nil, Nat.zero_le _, fun _ h => absurd h List.not_mem_nil, hs⟩
 ·
  clear hs
  intro i ths va Ma w hI
  show W _ _ _ _ [(0, .pointer (some ⟨B, 0, none⟩)), (3, va), (4, .int .i64 i)] w
  obtain ⟨hi, hF, hba, hok, htl, hsl, hs⟩ := hI
  have hoA : Own w0 (Ma ++ fms ths) := hba.own.app (fms_own hok)
  obtain ⟨aa, ca, rfl, hca⟩ := hba.slice
  have hDw := hD.old hs hoA
  by_cases hlt : i < rs.length
  ·
   have hn' := hn i hlt
   have ht' := ht i hlt
   obtain ⟨r, hr⟩ : ∃ r, r = rs.getD i rd0 := ⟨_, rfl⟩
   have hrt := hD.each i hlt
   rw [← hr] at hn' ht' hrt
   refine W_seq (W_seq (W_region (L_move rfl rfl (L_move rfl rfl (L_nilCheck rfl rfl (L_fieldAddr rfl (off := 1) Try.underlying79 rfl rfl Try.ti58 rfl (L_load rfl Try.one58 rfl (by exact hDw.s) ?_)))))))
   refine L_len rfl Try.underlying58 rfl (L_lss rfl rfl rfl (dtrue (by omega)) ?_)
   refine RL_then (W_if_true rfl (W_skip' (Nx_then (W_seq (W_block (W_seq (W_region (L_assign rfl rfl (RL_then (W_seq (W_region (L_assign rfl rfl ?_))))))))))))
   refine RL_then (W_seq (W_region (L_assign rfl rfl (RL_then (W_seq (W_seq (W_region (L_assign rfl rfl (RL_then (W_block ?_))))))))))
   obtain ⟨R, hR⟩ : ∃ R, R = rowsS far rs i (ths.map Th.s) := ⟨_, rfl⟩
   obtain ⟨O, hO⟩ : ∃ O, O = ownS rs i := ⟨_, rfl⟩
   have hOl : O.length = r.ts.length := by rw [hO, hr]; simp [ownS]
   obtain ⟨n, hnr⟩ : ∃ n, n = r.ts.length := ⟨_, rfl⟩
   clear hDw
   refine W_loop7 (fun (k : Nat) (news : List Th) (rr : List RR) (c5 : VB) (c6 : VB) (c7 : VB) (w : World) => [(0, .pointer (some ⟨B, 0, none⟩)), (3, .slice aa ths.length ca), (4, .int .i64 i), (5, c5.v), (6, c6.v), (7, c7.v), (8, .int .i64 k)]) (fun (k : Nat) (news : List Th) (rr : List RR) (c5 : VB) (c6 : VB) (c7 : VB) (w : World) => w) (fun (k : Nat) (news : List Th) (rr : List RR) (c5 : VB) (c6 : VB) (c7 : VB) (w : World) => (k ≤ n) ∧ (news.length = k) ∧ (news.map Th.s = O.take k) ∧ (∀ t ∈ news, t.seen = [(i : Int)]) ∧ (rr.length = k) ∧ (rr.map RR.xs = R.take k) ∧ (∀ q ∈ rr, q.ok w0) ∧ (Bl w0 93 1 c5.v k (rvs rr) c5.M) ∧ (Bl w0 35 2 c6.v k (pcs news) c6.M) ∧ (Bl w0 35 2 c7.v k (qcs news) c7.M) ∧ (HS w0 w (c5.M ++ (rbs rr ++ (c6.M ++ (c7.M ++ (Ma ++ fms ths))))))) (fun (k : Nat) (news : List Th) (rr : List RR) (c5 : VB) (c6 : VB) (c7 : VB) (w : World) => n - k) (0) ([]) ([]) (vb0) (vb0) (vb0) (w) (is := [0, 3, 4, 5, 6, 7, 8]) rfl rfl ?_ ?_
   ·
    exact ⟨Nat.zero_le _, rfl, rfl, fun _ h => absurd h List.not_mem_nil, rfl, rfl, fun _ h => absurd h List.not_mem_nil, .nil, .nil, .nil, hs⟩
   ·
    clear hs
    intro k news rr c5 c6 c7 w hI
    show W _ _ _ _ [(0, .pointer (some ⟨B, 0, none⟩)), (3, .slice aa ths.length ca), (4, .int .i64 i), (5, c5.v), (6, c6.v), (7, c7.v), (8, .int .i64 k)] w
    obtain ⟨hk, hnl, hnm, hns, hrl, hrm, hrok, hb5, hb6, hb7, hs⟩ := hI
    obtain ⟨Z, hZ⟩ : ∃ Z, Z = c5.M ++ (rbs rr ++ (c6.M ++ (c7.M ++ (Ma ++ fms ths)))) := ⟨_, rfl⟩
    have hoZ : Own w0 Z := by rw [hZ]; exact hb5.own.app ((rbs_own hrok).app (hb6.own.app (hb7.own.app hoA)))
    rw [← hZ] at hs
    have hDw := hD.old hs hoZ
    have htv := hDw.tv hlt
    rw [← hr, show r.v = .slice r.a n r.c by rw [hnr]; rfl] at htv
    by_cases hlk : k < n
    ·
     obtain ⟨tk, htk⟩ : ∃ tk, tk = r.ts.getD k tk0 := ⟨_, rfl⟩
     have hrtw := hrt.old hs hoZ
     have hsao : sa = some (aD sa) := hD.sites.ao (by rw [rsc_len]; omega)
     have hsc : ∀ {w : World} {L : Bks}, HS w0 w L → Own w0 L → CellsAt w ((aD sa).add (i * 3)) [.float .f64 r.x, .float .f64 r.y, .float .f64 r.t] := fun h1 h2 => by
      have := sc_at (hD.old h1 h2).sites hlt
      rw [← hr] at this; exact this
     have htu : ∀ {w : World} {L : Bks}, HS w0 w L → Own w0 L → w.cell? (((aD sa).add (i * 3)).add 2) = some (.float .f64 r.t) := fun h1 h2 => by
      have := (hD.old h1 h2).turn hlt
      rw [← hr] at this; rw [add_add]; exact this
     refine W_seq (W_seq (W_region (L_move rfl rfl (L_move rfl rfl (L_nilCheck rfl rfl (L_fieldAddr rfl (off := 2) Try.underlying79 rfl rfl Try.ti59 rfl (L_load rfl Try.one59 rfl (by exact hDw.t) ?_)))))))
     refine L_move rfl rfl ?_
     refine L_idx1 rfl Try.underlying59 Try.ti38 rfl rfl (natc_k _) (by omega) (hDw.told.ao (by rw [List.length_map]; omega)) ?_
     refine L_load rfl Try.one38 rfl (by exact htv) ?_
     refine L_len rfl Try.underlying38 rfl (L_lss rfl rfl rfl (dtrue (by omega)) ?_)
     refine RL_then (W_if_true rfl (W_skip' (Nx_then (W_seq (W_block (W_seq (W_region (L_move rfl rfl (L_nilCheck rfl rfl (L_fieldAddr rfl (off := 2) Try.underlying79 rfl rfl Try.ti59 rfl (L_load rfl Try.one59 rfl (by exact hDw.t) ?_)))))))))))
     refine L_move rfl rfl ?_
     refine L_idx1 rfl Try.underlying59 Try.ti38 rfl rfl (natc_k _) (by omega) (hDw.told.ao (by rw [List.length_map]; omega)) ?_
     refine L_load rfl Try.one38 rfl (by exact htv) ?_
     refine L_move rfl rfl ?_
     refine L_idxN rfl Try.underlying38 Try.ti48 rfl rfl (natc_k _) (by omega) (hrtw.ao (by rw [tcs_len]; omega)) ?_
     refine L_loadA rfl Try.agg48 Try.ti48 rfl (by exact htk ▸ tk_at hrtw (by omega)) ?_
     refine L_alloc rfl hs Try.ti48 ?_; intro b9 w hb9 _ hs; replace hs := HS.push hs
     refine L_storeA hs (i := 0) rfl Try.ti48 rfl rfl (by rfl) (by simp [Tk.cells]) (by exact Tk.one _) ?_
     intro w hs
     dsimp only [List.set_cons_succ, List.set_cons_zero, List.cons_append, List.nil_append] at hs
     refine RL_then (W_seq ?_)
     replace hs : HS w0 w ((b9, Row 48 tk.cells) :: Z) := hs
     clear hDw hrtw htv
     have ho9 : Own w0 ((b9, Row 48 tk.cells) :: Z) := Own.cons hb9 hoZ
     refine W_sg Try.mixed ?_
     replace hs := hs.drewN 1
     refine SG_stageB [0, 1, 2, 4, 7, 8, 10, 11] [3, 5, 6, 9, 12, 13, 14, 15] [16] (noBk (SPD 0 0)) (g' := 0) (by kernel_rfl) (by kernel_rfl) (fun _ _ _ _ _ h => h) hs ?_
     refine PL_val rfl (fun w => R_move rfl) ?_
     refine PL_val rfl (fun w => R_nilCheck rfl) ?_
     refine PL_val rfl (fun w => R_fieldAddr (off := 1) Try.underlying79 rfl rfl Try.ti58 rfl) ?_
     refine PL_val rfl (fun w => R_move rfl) ?_
     refine PL_val rfl (fun w => R_fieldAddr (off := 2) Try.underlying48 rfl rfl Try.ti45 rfl) ?_
     refine PL_val rfl (fun w => R_fieldAddr (off := 0) Try.underlying45 rfl rfl Try.ti22 rfl) ?_
     refine PL_val rfl (fun w => R_fieldAddr (off := 7) Try.underlying48 rfl rfl Try.ti45 rfl) ?_
     refine PL_val rfl (fun w => R_fieldAddr (off := 0) Try.underlying45 rfl rfl Try.ti22 rfl) ?_
     refine PL_endB ?_
     refine HB_val rfl (fun w R hR hs => R_load Try.one58 rfl (by exact (hD.old hs (ho9.app hR)).s)) ?_
     refine HB_val rfl (fun w R hR hs => R_idxN Try.underlying58 Try.ti37 rfl rfl (natc_k _) (by omega) hsao) ?_
     refine HB_val rfl (fun w R hR hs => R_loadA Try.agg37 Try.ti37 rfl (by exact hsc hs (ho9.app hR))) ?_
     refine HB_val rfl (fun w R hR hs => R_load Try.one22 rfl (by exact hs.cell (i := 0) rfl rfl)) ?_
     refine HB_val rfl (fun w R hR hs => R_load Try.one22 rfl (by exact hs.cell (i := 0) rfl rfl)) ?_
     refine HB_val rfl (fun w R hR hs => R_build rfl (Pl.built Try.pl35 rfl)) ?_
     refine HB_callH rfl Try.fun56 rfl (fun w R hR hs => rmovedH 0 0 hs r.x r.y r.t tk.xx tk.yx ht') ?_
     rintro _ hmv
     obtain ⟨x1, y1, rfl, hx1, hy1⟩ := hmv _ _ _ _ _ rfl rfl
     refine HB_alloc rfl Try.ti35 ?_
     intro b10 hb10
     refine HB_tail ?_
     intro w hs
     replace hs := HS.push hs
     refine L_storeA hs (i := 0) rfl Try.ti35 rfl rfl (by rfl) (by simp) (by simp [Value.oneCell']) ?_
     intro w hs
     dsimp only [List.set_cons_succ, List.set_cons_zero, List.cons_append, List.nil_append] at hs
     refine RL_sg (SG_end (by kernel_rfl) ?_)
     refine Nx_then (W_seq ?_)
     replace hs : HS w0 w ((b10, Row 35 [.float .f64 x1, .float .f64 y1]) :: (b9, Row 48 tk.cells) :: Z) := hs
     have ho10 : Own w0 ((b10, Row 35 [.float .f64 x1, .float .f64 y1]) :: (b9, Row 48 tk.cells) :: Z) := Own.cons hb10 ho9
     refine W_sg Try.mixed ?_
     replace hs := hs.drewN 1
     refine SG_stageB [0, 1, 2, 4, 9, 10, 12, 13] [3, 5, 6, 7, 8, 11, 14, 15, 16, 17] [18] (noBk (SPD 0 0)) (g' := 0) (by kernel_rfl) (by kernel_rfl) (fun _ _ _ _ _ h => h) hs ?_
     refine PL_val rfl (fun w => R_move rfl) ?_
     refine PL_val rfl (fun w => R_nilCheck rfl) ?_
     refine PL_val rfl (fun w => R_fieldAddr (off := 1) Try.underlying79 rfl rfl Try.ti58 rfl) ?_
     refine PL_val rfl (fun w => R_move rfl) ?_
     refine PL_val rfl (fun w => R_fieldAddr (off := 2) Try.underlying48 rfl rfl Try.ti45 rfl) ?_
     refine PL_val rfl (fun w => R_fieldAddr (off := 1) Try.underlying45 rfl rfl Try.ti22 rfl) ?_
     refine PL_val rfl (fun w => R_fieldAddr (off := 7) Try.underlying48 rfl rfl Try.ti45 rfl) ?_
     refine PL_val rfl (fun w => R_fieldAddr (off := 1) Try.underlying45 rfl rfl Try.ti22 rfl) ?_
     refine PL_endB ?_
     refine HB_val rfl (fun w R hR hs => R_load Try.one58 rfl (by exact (hD.old hs (ho10.app hR)).s)) ?_
     refine HB_val rfl (fun w R hR hs => R_idxN Try.underlying58 Try.ti37 rfl rfl (natc_k _) (by omega) hsao) ?_
     refine HB_val rfl (fun w R hR hs => R_fieldAddr (off := 2) Try.underlying37 rfl rfl Try.ti22 rfl) ?_
     refine HB_val rfl (fun w R hR hs => R_load Try.one22 rfl (by exact htu hs (ho10.app hR))) ?_
     refine HB_val rfl (fun w R hR hs => R_build rfl (Pl.built Try.pl37 rfl)) ?_
     refine HB_val rfl (fun w R hR hs => R_load Try.one22 rfl (by exact hs.cell (i := 1) rfl rfl)) ?_
     refine HB_val rfl (fun w R hR hs => R_load Try.one22 rfl (by exact hs.cell (i := 1) rfl rfl)) ?_
     refine HB_val rfl (fun w R hR hs => R_build rfl (Pl.built Try.pl35 rfl)) ?_
     refine HB_callH rfl Try.fun56 rfl (fun w R hR hs => rmovedH 0 0 hs 0 0 r.t tk.xv tk.yv ht') ?_
     rintro _ hmv
     obtain ⟨x2, y2, rfl, hx2, hy2⟩ := hmv _ _ _ _ _ rfl rfl
     refine HB_alloc rfl Try.ti35 ?_
     intro b11 hb11
     refine HB_tail ?_
     intro w hs
     replace hs := HS.push hs
     refine L_storeA hs (i := 0) rfl Try.ti35 rfl rfl (by rfl) (by simp) (by simp [Value.oneCell']) ?_
     intro w hs
     dsimp only [List.set_cons_succ, List.set_cons_zero, List.cons_append, List.nil_append] at hs
     refine RL_sg (SG_end (by kernel_rfl) ?_)
     refine Nx_then (W_seq ?_)
     replace hs : HS w0 w ((b11, Row 35 [.float .f64 x2, .float .f64 y2]) :: (b10, Row 35 [.float .f64 x1, .float .f64 y1]) :: (b9, Row 48 tk.cells) :: Z) := hs
     rw [hZ] at hs
     refine W_region (L_move rfl rfl (L_loadA rfl Try.agg35 Try.ti35 rfl (by exact cellsAt_whole (cs := [.float .f64 x1, .float .f64 y1]) (hs.get (i := 1) rfl)) ?_))
     refine L_buildSlice rfl hs Try.underlying110 Try.ti35 rfl (by decide) rfl (by simp [Value.cells]) ?_
     intro b90 w hb90 hnb90 hs
     simp only [List.flatMap_cons, List.flatMap_nil, cells_int, cells_float, cells_complex, cells_bool, cells_string, cells_pointer, cells_slice, cells_map, cells_agg, List.append_nil, List.set_cons_succ, List.set_cons_zero, List.cons_append, List.nil_append] at hs
     replace hs : HS w0 w ((((b11, Row 35 [.float .f64 x2, .float .f64 y2]) :: (b10, Row 35 [.float .f64 x1, .float .f64 y1]) :: (b9, Row 48 tk.cells) :: (c5.M ++ (rbs rr ++ (c7.M ++ (Ma ++ fms ths))))) ++ c6.M) ++ [(b90, Row 35 [.float .f64 x1, .float .f64 y1])]) := HS.re hs (fun c => by simp only [List.map_append, List.map_cons, List.map_nil, List.sum_append, List.sum_cons, List.sum_nil]; omega)
     refine L_appendT (L := (b11, Row 35 [.float .f64 x2, .float .f64 y2]) :: (b10, Row 35 [.float .f64 x1, .float .f64 y1]) :: (b9, Row 48 tk.cells) :: (c5.M ++ (rbs rr ++ (c7.M ++ (Ma ++ fms ths))))) (M := c6.M) (news := [.float .f64 x1, .float .f64 y1]) rfl Try.underlying110 Try.ti35 rfl hs (by assumption) hb6 rfl rfl rfl (by simp [Value.oneCell']) (by omega) (by omega) ?_
     intro v6 w M6 hs hb6'
     refine L_assign rfl rfl (RL_then (W_seq (W_region (L_move rfl rfl (L_loadA rfl Try.agg35 Try.ti35 rfl (by exact cellsAt_whole (cs := [.float .f64 x2, .float .f64 y2]) (hs.get (i := 0) rfl)) ?_)))))
     refine L_buildSlice rfl hs Try.underlying110 Try.ti35 rfl (by decide) rfl (by simp [Value.cells]) ?_
     intro b94 w hb94 hnb94 hs
     simp only [List.flatMap_cons, List.flatMap_nil, cells_int, cells_float, cells_complex, cells_bool, cells_string, cells_pointer, cells_slice, cells_map, cells_agg, List.append_nil, List.set_cons_succ, List.set_cons_zero, List.cons_append, List.nil_append] at hs
     replace hs : HS w0 w ((((b11, Row 35 [.float .f64 x2, .float .f64 y2]) :: (b10, Row 35 [.float .f64 x1, .float .f64 y1]) :: (b9, Row 48 tk.cells) :: (c5.M ++ (rbs rr ++ (M6 ++ (Ma ++ fms ths))))) ++ c7.M) ++ [(b94, Row 35 [.float .f64 x2, .float .f64 y2])]) := HS.re hs (fun c => by simp only [List.map_append, List.map_cons, List.map_nil, List.sum_append, List.sum_cons, List.sum_nil]; omega)
     refine L_appendT (L := (b11, Row 35 [.float .f64 x2, .float .f64 y2]) :: (b10, Row 35 [.float .f64 x1, .float .f64 y1]) :: (b9, Row 48 tk.cells) :: (c5.M ++ (rbs rr ++ (M6 ++ (Ma ++ fms ths))))) (M := c7.M) (news := [.float .f64 x2, .float .f64 y2]) rfl Try.underlying110 Try.ti35 rfl hs (by assumption) hb7 rfl rfl rfl (by simp [Value.oneCell']) (by omega) (by omega) ?_
     intro v7 w M7 hs hb7'
     refine L_assign rfl rfl (RL_then (W_seq ?_))
     obtain ⟨x, hx⟩ : ∃ x, x = Th.mk 0 x1 y1 x2 y2 [(i : Int)] (.slice none 0 0) [] := ⟨_, rfl⟩
     have xs : x.s = newS r i tk := by
      rw [hx]
      unfold Th.s newS
      rw [hx1, hy1, hx2, hy2]
     have hnl1 : (news ++ [x]).length = k + 1 := by rw [List.length_append, hnl]; rfl
     have hb6n : Bl w0 35 2 v6 (k + 1) (pcs (news ++ [x])) M6 := by
      have : pcs (news ++ [x]) = pcs news ++ [.float .f64 x1, .float .f64 y1] := by rw [hx]; unfold pcs; rw [List.flatMap_append]; rfl
      rw [this]; exact hb6'
     have hb7n : Bl w0 35 2 v7 (k + 1) (qcs (news ++ [x])) M7 := by
      have : qcs (news ++ [x]) = qcs news ++ [.float .f64 x2, .float .f64 y2] := by rw [hx]; unfold qcs; rw [List.flatMap_append]; rfl
      rw [this]; exact hb7'
     obtain ⟨Y, hY⟩ : ∃ Y, Y = c5.M ++ (rbs rr ++ (M6 ++ (M7 ++ (Ma ++ fms ths)))) := ⟨_, rfl⟩
     have hoY : Own w0 Y := by rw [hY]; exact hb5.own.app ((rbs_own hrok).app (hb6n.own.app (hb7n.own.app hoA)))
     have hMY : ∀ p ∈ Ma, p ∈ Y := fun p hp => by rw [hY]; simp only [List.mem_append]; exact .inr (.inr (.inr (.inr (.inl hp))))
     have hs0 : HS w0 w ((b10, Row 35 [.float .f64 x1, .float .f64 y1]) :: Y) := by
      rw [hY]
      have h1 : HS w0 w ((b11, Row 35 [.float .f64 x2, .float .f64 y2]) :: (b9, Row 48 tk.cells) :: (b10, Row 35 [.float .f64 x1, .float .f64 y1]) :: (c5.M ++ (rbs rr ++ (M6 ++ (M7 ++ (Ma ++ fms ths)))))) := HS.re hs (fun c => by simp only [List.map_append, List.map_cons, List.map_nil, List.sum_append, List.sum_cons, List.sum_nil]; omega)
      exact HS.pop (HS.pop h1 hb11) hb9
     clear hs hb6' hb7'
     have hs := hs0
     clear hs0
     refine W_region (L_assign rfl rfl (RL_then (W_seq (W_seq (W_region (L_assign rfl rfl (RL_then (W_block ?_))))))))
     obtain ⟨kn, hkn⟩ : ∃ kn, kn = (ths.map Th.s).take 256 := ⟨_, rfl⟩
     obtain ⟨mm, hmm⟩ : ∃ mm, mm = min ths.length 256 := ⟨_, rfl⟩
     have hknl : kn.length = mm := by rw [hkn, List.length_take, List.length_map, hmm, Nat.min_comm]
     obtain ⟨row, hrow⟩ : ∃ row, row = rowS far kn x.s := ⟨_, rfl⟩
     have hrowl : row.length = mm := by rw [hrow, ← hknl]; exact List.length_map ..
     refine W_loop4 (fun (j : Nat) (vr : Value) (M2 : Bks) (w : World) => [(0, .pointer (some ⟨B, 0, none⟩)), (3, .slice aa ths.length ca), (4, .int .i64 i), (5, c5.v), (6, v6), (7, v7), (8, .int .i64 k), (10, .pointer (some ⟨b10, 0, none⟩)), (12, vr), (13, .int .i64 j)]) (fun (j : Nat) (vr : Value) (M2 : Bks) (w : World) => w) (fun (j : Nat) (vr : Value) (M2 : Bks) (w : World) => (j ≤ mm) ∧ (Bl w0 2 1 vr j (il (row.take j)) M2) ∧ (HS w0 w ((b10, Row 35 [.float .f64 x1, .float .f64 y1]) :: (M2 ++ Y)))) (fun (j : Nat) (vr : Value) (M2 : Bks) (w : World) => mm - j) (0) (.slice none 0 0) ([]) (w) (is := [0, 3, 4, 5, 6, 7, 8, 10, 12, 13]) rfl rfl ?_ ?_
     ·
      exact ⟨Nat.zero_le _, .nil, hs⟩
     ·
      clear hs
      intro j vr M2 w hI
      show W _ _ _ _ [(0, .pointer (some ⟨B, 0, none⟩)), (3, .slice aa ths.length ca), (4, .int .i64 i), (5, c5.v), (6, v6), (7, v7), (8, .int .i64 k), (10, .pointer (some ⟨b10, 0, none⟩)), (12, vr), (13, .int .i64 j)] w
      obtain ⟨hj, hbr, hs⟩ := hI
      refine W_seq (W_seq ?_)
      refine W_cut2 (fun (b : Bool) (w : World) => [(0, .pointer (some ⟨B, 0, none⟩)), (3, .slice aa ths.length ca), (4, .int .i64 i), (5, c5.v), (6, v6), (7, v7), (8, .int .i64 k), (10, .pointer (some ⟨b10, 0, none⟩)), (12, vr), (13, .int .i64 j), (103, .bool b)]) (fun (b : Bool) (w : World) => w) (fun (b : Bool) (w : World) => (b = decide (j < mm)) ∧ (HS w0 w ((b10, Row 35 [.float .f64 x1, .float .f64 y1]) :: (M2 ++ Y)))) ?_ ?_
      ·
       by_cases h1 : j < ths.length
       ·
        by_cases h2 : j < 256
        ·
         refine W_region (L_move rfl rfl (L_move rfl rfl (L_len rfl Try.underlying109 rfl (L_lss rfl rfl rfl (dtrue (by omega)) ?_))))
         refine L_move rfl rfl (RL_want rfl rfl (L_move rfl rfl (RL_want rfl rfl (L_lss rfl rfl rfl (dtrue (by omega)) ?_))))
         refine L_pick_t rfl rfl rfl (RL_nil' (Nx_cutP (true, w) (is := [0, 3, 4, 5, 6, 7, 8, 10, 12, 13, 103]) (I' := (fun (b : Bool) (w : World) => (b = decide (j < mm)) ∧ (HS w0 w ((b10, Row 35 [.float .f64 x1, .float .f64 y1]) :: (M2 ++ Y)))) (true) (w)) rfl rfl rfl ?_))
         exact ⟨(decide_eq_true (by omega)).symm, hs⟩
        ·
         refine W_region (L_move rfl rfl (L_move rfl rfl (L_len rfl Try.underlying109 rfl (L_lss rfl rfl rfl (dtrue (by omega)) ?_))))
         refine L_move rfl rfl (RL_want rfl rfl (L_move rfl rfl (RL_want rfl rfl (L_lss rfl rfl rfl (dfalse (by omega)) ?_))))
         refine L_pick_t rfl rfl rfl (RL_nil' (Nx_cutP (false, w) (is := [0, 3, 4, 5, 6, 7, 8, 10, 12, 13, 103]) (I' := (fun (b : Bool) (w : World) => (b = decide (j < mm)) ∧ (HS w0 w ((b10, Row 35 [.float .f64 x1, .float .f64 y1]) :: (M2 ++ Y)))) (false) (w)) rfl rfl rfl ?_))
         exact ⟨(decide_eq_false (by omega)).symm, hs⟩
       ·
        refine W_region (L_move rfl rfl (L_move rfl rfl (L_len rfl Try.underlying109 rfl (L_lss rfl rfl rfl (dfalse (by omega)) ?_))))
        refine L_move rfl rfl (RL_skip rfl rfl rfl rfl (RL_skip rfl rfl rfl rfl (L_pick_f rfl rfl rfl (RL_nil' (Nx_cutP (false, w) (is := [0, 3, 4, 5, 6, 7, 8, 10, 12, 13, 103]) (I' := (fun (b : Bool) (w : World) => (b = decide (j < mm)) ∧ (HS w0 w ((b10, Row 35 [.float .f64 x1, .float .f64 y1]) :: (M2 ++ Y)))) (false) (w)) rfl rfl rfl ?_)))))
        exact ⟨(decide_eq_false (by omega)).symm, hs⟩
      ·
       clear hs
       intro b w hI
       show W _ _ _ _ [(0, .pointer (some ⟨B, 0, none⟩)), (3, .slice aa ths.length ca), (4, .int .i64 i), (5, c5.v), (6, v6), (7, v7), (8, .int .i64 k), (10, .pointer (some ⟨b10, 0, none⟩)), (12, vr), (13, .int .i64 j), (103, .bool b)] w
       obtain ⟨hb, hs⟩ := hI
       by_cases hlj : j < mm
       ·
        obtain rfl : b = true := by rw [hb]; exact decide_eq_true hlj
        have hjl : j < ths.length := by omega
        obtain ⟨t, hth⟩ : ∃ t, t = ths.getD j th0 := ⟨_, rfl⟩
        obtain ⟨q0, qc, htv, hqc⟩ := (hok t (by rw [hth]; exact getD_mem hjl)).slice
        have haa : aa = some (aD aa) := (Bl.slcM hba hs (fun p hp => List.mem_cons_of_mem _ (List.mem_append_right _ (hMY p hp)))).ao (by rw [dcs_len]; omega)
        have hcells : ∀ {w : World} {L : Bks}, HS w0 w L → (∀ p ∈ Ma, p ∈ L) → CellsAt w ((aD aa).add (j * 5)) [.float .f64 t.ax, .float .f64 t.ay, .float .f64 t.vx, .float .f64 t.vy, .slice q0 t.seen.length qc] := fun h1 h2 => by
         have := dth_at (Bl.slcM hba h1 h2) hjl
         rw [← hth] at this
         unfold Th.cells at this
         rw [htv] at this; exact this
        have hcj : row[j]? = some (costF far x1 y1 t.ax t.ay t.seen.length) := by
         rw [hrow, rowS, List.getElem?_map, hkn, List.getElem?_take_of_lt (by omega), List.getElem?_map]
         rw [show ths[j]? = some t by rw [hth, List.getD_eq_getElem?_getD, List.getElem?_eq_getElem hjl]; rfl, hx]
         exact congrArg some (costF_congr (cn_cn _) (cn_cn _) (cn_cn _) (cn_cn _))
        have hoj : Own w0 ((b10, Row 35 [.float .f64 x1, .float .f64 y1]) :: (M2 ++ Y)) := Own.cons hb10 (hbr.own.app hoY)
        refine W_if_true rfl (W_skip' (Nx_then (W_seq (W_block (W_seq (W_sg Try.mixed ?_))))))
        replace hs := hs.drewN 1
        refine SG_stageB [0, 2, 3, 4] [1, 5, 6, 7] [] (noBk (SPD (costF far x1 y1 t.ax t.ay t.seen.length) 0)) (g' := 0) (by kernel_rfl) (by kernel_rfl) (fun _ _ _ _ _ h => h) hs ?_
        refine PL_val rfl (fun w => R_move rfl) ?_
        refine PL_val rfl (fun w => R_move rfl) ?_
        refine PL_val rfl (fun w => R_move rfl) ?_
        refine PL_val rfl (fun w => R_idxN Try.underlying109 Try.ti112 rfl rfl (natc_k _) (by omega) haa) ?_
        refine PL_endB ?_
        refine HB_val rfl (fun w R hR hs => R_loadA Try.agg35 Try.ti35 rfl (by exact cellsAt_whole (cs := [.float .f64 x1, .float .f64 y1]) (hs.get (i := 0) rfl))) ?_
        refine HB_val rfl (fun w R hR hs => R_loadA Try.agg112 Try.ti112 rfl (by exact hcells hs (fun p hp => List.mem_append_left _ (List.mem_cons_of_mem _ (List.mem_append_right _ (hMY p hp)))))) ?_
        refine HB_callH rfl Try.fun57 rfl (fun w R hR hs => rcostH hs hf (hD.old hs (hoj.app hR)).far x1 y1 t.ax t.ay t.vx t.vy t.seen.length qc q0) ?_
        rintro _ rfl
        refine HB_val rfl (fun w R hR hs => R_assign rfl) ?_
        refine HB_tail ?_
        intro w hs
        refine RL_sg (SG_end (by kernel_rfl) ?_)
        refine Nx_then (W_region (L_move rfl rfl (L_move rfl rfl (L_buildSlice rfl hs Try.underlying93 Try.ti2 rfl (by decide) rfl (by simp [Value.cells]) ?_))))
        intro b115 w hb115 hnb115 hs
        simp only [List.flatMap_cons, List.flatMap_nil, cells_int, cells_float, cells_complex, cells_bool, cells_string, cells_pointer, cells_slice, cells_map, cells_agg, List.append_nil, List.set_cons_succ, List.set_cons_zero, List.cons_append, List.nil_append] at hs
        skip
        replace hs : HS w0 w ((((b10, Row 35 [.float .f64 x1, .float .f64 y1]) :: Y) ++ M2) ++ [(b115, Row 2 [.int .i64 (costF far x1 y1 t.ax t.ay t.seen.length)])]) := HS.re hs (fun c => by simp only [List.map_append, List.map_cons, List.map_nil, List.sum_append, List.sum_cons, List.sum_nil]; omega)
        refine L_appendT (L := (b10, Row 35 [.float .f64 x1, .float .f64 y1]) :: Y) (M := M2) rfl Try.underlying93 Try.ti2 rfl hs (by assumption) hbr rfl rfl rfl (by simp [Value.oneCell']) (by omega) (by omega) ?_
        intro v' w M3 hs hb3
        refine L_assign rfl rfl (RL_nil' (Nx_block (Nx_then (W_region (L_move rfl rfl (L_add rfl rfl rfl (wrp_i64 (by omega)) ?_))))))
        refine L_assign rfl rfl (RL_nil' ?_)
        refine Nx_loopP (j + 1, v', M3, _) (is := [0, 3, 4, 5, 6, 7, 8, 10, 12, 13]) (I' := (fun (j : Nat) (vr : Value) (M2 : Bks) (w : World) => (j ≤ mm) ∧ (Bl w0 2 1 vr j (il (row.take j)) M2) ∧ (HS w0 w ((b10, Row 35 [.float .f64 x1, .float .f64 y1]) :: (M2 ++ Y)))) (j + 1) (v') (M3) (_)) rfl rfl rfl ?_ ?_
        ·
         refine ⟨by omega, ?_, ?_⟩
         ·
          rw [take_snoc hcj, ← il_snoc]; exact hb3
         ·
          exact HS.re hs (fun c => by simp only [List.map_append, List.map_cons, List.map_nil, List.sum_append, List.sum_cons, List.sum_nil]; omega)
        ·
         omega
       ·
        obtain rfl : b = false := by rw [hb]; exact decide_eq_false hlj
        have hjm : row.take j = row := List.take_of_length_le (by omega)
        rw [hjm] at hbr
        have hjr : row.length = j := by omega
        obtain ⟨av, cv, rfl, hcv⟩ := hbr.slice
        refine W_if_false rfl (W_exit' (Ex_then_exit (Ex_loop_exit (Ex_block_hit (Nx_then (W_region (L_move rfl rfl (L_move rfl rfl (L_buildSlice1 rfl hs Try.underlying89 Try.ti93 rfl (by decide) rfl rfl ?_)))))))))
        intro b119 w hb119 hnb119 hs
        simp only [List.map_cons, List.map_nil] at hs
        dsimp only [List.set_cons_succ, List.set_cons_zero, List.cons_append, List.nil_append] at hs
        rw [hY] at hs
        replace hs : HS w0 w ((((b10, Row 35 [.float .f64 x1, .float .f64 y1]) :: (M2 ++ (rbs rr ++ (M6 ++ (M7 ++ (Ma ++ fms ths)))))) ++ c5.M) ++ [(b119, Row 93 [.slice av j cv])]) := HS.re hs (fun c => by simp only [List.map_append, List.map_cons, List.map_nil, List.sum_append, List.sum_cons, List.sum_nil]; omega)
        refine L_appendT (L := (b10, Row 35 [.float .f64 x1, .float .f64 y1]) :: (M2 ++ (rbs rr ++ (M6 ++ (M7 ++ (Ma ++ fms ths)))))) (M := c5.M) (news := [.slice av j cv]) rfl Try.underlying89 Try.ti93 rfl hs (by assumption) hb5 rfl rfl rfl (by simp [Value.oneCell']) (by omega) (by omega) ?_
        intro v5 w M5 hs hb5'
        refine L_assign rfl rfl (RL_nil' (Nx_block (Nx_then (W_region (L_move rfl rfl (L_add rfl rfl rfl (wrp_i64 (by omega)) ?_))))))
        refine L_assign rfl rfl (RL_nil' ?_)
        refine Nx_loopP (k + 1, news ++ [x], rr ++ [⟨row, .slice av j cv, M2⟩], ⟨v5, M5⟩, ⟨v6, M6⟩, ⟨v7, M7⟩, _) (is := [0, 3, 4, 5, 6, 7, 8]) (I' := (fun (k : Nat) (news : List Th) (rr : List RR) (c5 : VB) (c6 : VB) (c7 : VB) (w : World) => (k ≤ n) ∧ (news.length = k) ∧ (news.map Th.s = O.take k) ∧ (∀ t ∈ news, t.seen = [(i : Int)]) ∧ (rr.length = k) ∧ (rr.map RR.xs = R.take k) ∧ (∀ q ∈ rr, q.ok w0) ∧ (Bl w0 93 1 c5.v k (rvs rr) c5.M) ∧ (Bl w0 35 2 c6.v k (pcs news) c6.M) ∧ (Bl w0 35 2 c7.v k (qcs news) c7.M) ∧ (HS w0 w (c5.M ++ (rbs rr ++ (c6.M ++ (c7.M ++ (Ma ++ fms ths))))))) (k + 1) (news ++ [x]) (rr ++ [⟨row, .slice av j cv, M2⟩]) (⟨v5, M5⟩) (⟨v6, M6⟩) (⟨v7, M7⟩) (_)) rfl rfl rfl ?_ ?_
        ·
         have hOk : O[k]? = some (newS r i tk) := by
          rw [hO, ownS, ← hr, List.getElem?_map, List.getElem?_eq_getElem (by omega), htk, List.getD_eq_getElem?_getD, List.getElem?_eq_getElem (by omega)]; rfl
         have hRk : R[k]? = some row := by
          rw [hR, rowsS, ← hO, List.getElem?_map, hOk, ← xs, hrow, hkn]; rfl
         refine ⟨by omega, hnl1, ?_, ?_, ?_, ?_, ?_, ?_, hb6n, hb7n, ?_⟩
         ·
          rw [List.map_append, hnm, take_snoc hOk, ← xs]; rfl
         ·
          exact fun u hu => (List.mem_append.1 hu).elim (hns u) fun h => by rw [List.mem_singleton.1 h, hx]
         ·
          rw [List.length_append, hrl]; rfl
         ·
          rw [List.map_append, hrm, take_snoc hRk]; rfl
         ·
          refine fun u hu => (List.mem_append.1 hu).elim (hrok u) fun h => ?_
          rw [List.mem_singleton.1 h]
          show Bl w0 2 1 (.slice av j cv) row.length (il row) M2
          rw [hjr]; exact hbr
         ·
          rw [show rvs (rr ++ [RR.mk row (.slice av j cv) M2]) = rvs rr ++ [.slice av j cv] by simp [rvs]]; exact hb5'
         ·
          rw [show rbs (rr ++ [RR.mk row (.slice av j cv) M2]) = rbs rr ++ M2 by simp [rbs]]
          exact HS.pop (p := (b10, Row 35 [.float .f64 x1, .float .f64 y1])) (HS.re hs (fun c => by simp only [List.map_append, List.map_cons, List.map_nil, List.sum_append, List.sum_cons, List.sum_nil]; omega)) hb10
        ·
         omega
    ·
     obtain rfl : k = n := by omega
     have hRl : R.length = k := by rw [hR, rowsS_len, ← hr, hnr]
     rw [List.take_of_length_le (by omega)] at hrm
     rw [List.take_of_length_le (by omega)] at hnm
     have hrx : ∀ q ∈ rr, q.xs.length ≤ 256 := fun q hq => by
      have : q.xs ∈ R := by rw [← hrm]; exact List.mem_map_of_mem hq
      rw [hR] at this
      obtain ⟨x, hx⟩ := rowsS_row this
      rw [hx, rowS, List.length_map, List.length_take]; omega
     obtain ⟨v5, M5⟩ := c5
     obtain ⟨v6, M6⟩ := c6
     obtain ⟨v7, M7⟩ := c7
     change Bl w0 93 1 v5 k (rvs rr) M5 at hb5
     change Bl w0 35 2 v6 k (pcs news) M6 at hb6
     change Bl w0 35 2 v7 k (qcs news) M7 at hb7
     change Z = M5 ++ (rbs rr ++ (M6 ++ (M7 ++ (Ma ++ fms ths)))) at hZ
     obtain ⟨a5, q5, rfl, hq5⟩ := hb5.slice
     obtain ⟨a6, q6, rfl, hq6⟩ := hb6.slice
     obtain ⟨a7, q7, rfl, hq7⟩ := hb7.slice
     have hRI : RowsI w a5 R (rvs rr) := by
      rw [← hrm]
      exact rowsI_sl hs (Bl.slcM hb5 hs (fun p hp => by rw [hZ]; simp [hp])) hrok (fun p hp => by rw [hZ]; simp [hp]) hrx (by decide)
     refine W_seq (W_seq (W_region (L_move rfl rfl (L_move rfl rfl (L_nilCheck rfl rfl (L_fieldAddr rfl (off := 2) Try.underlying79 rfl rfl Try.ti59 rfl (L_load rfl Try.one59 rfl (by exact hDw.t) ?_)))))))
     refine L_move rfl rfl ?_
     refine L_idx1 rfl Try.underlying59 Try.ti38 rfl rfl (natc_k _) (by omega) (hDw.told.ao (by rw [List.length_map]; omega)) ?_
     refine L_load rfl Try.one38 rfl (by exact htv) ?_
     refine L_len rfl Try.underlying38 rfl (L_lss rfl rfl rfl (dfalse (by omega)) ?_)
     refine RL_then (W_if_false rfl (W_exit' (Ex_then_exit (Ex_loop_exit (Ex_block_hit (Nx_then (W_seq (W_region (L_move rfl rfl (L_call rfl Try.fun58 rfl (rmost_ok a5 k q5 R (rvs rr) w hRI hRl (by omega)) ?_))))))))))
     rintro _ wm ⟨v1, N1, ms, cnt, tt, ee, rfl, hsm, hbm, hM⟩
     have hsz := hs.size
     replace hs := hs.call hsm hbm.own
     replace hbm := hbm.mono hsz
     have hM' : MostAns (rowsS far rs i (ths.map Th.s)) ms cnt tt ee := hR ▸ hM
     obtain ⟨hml, hmr⟩ := mates_ok hf (hn i hlt) hM'
     rw [← hr, ← hnr] at hml
     obtain ⟨am, cm, rfl, hcm⟩ := hbm.slice
     obtain ⟨X, hX⟩ : ∃ X, X = N1 ++ (M6 ++ M7) := ⟨_, rfl⟩
     have hoX : Own w0 X := by rw [hX]; exact hbm.own.app (hb6.own.app hb7.own)
     have hs0 : HS w0 wm (X ++ (Ma ++ fms ths)) := by
      rw [hZ] at hs
      rw [hX]
      exact HS.dropR (M := M5 ++ rbs rr) (HS.re hs (fun c => by simp only [List.map_append, List.map_cons, List.map_nil, List.sum_append, List.sum_cons, List.sum_nil]; omega)) (hb5.own.app (rbs_own hrok))
     clear hs
     have hs := hs0
     clear hs0
     clear hDw htv hRI hsm
     have hxm : ∀ {w : World} {L : Bks}, HS w0 w L → (∀ p ∈ X, p ∈ L) → SlC w am (il ms) := fun h1 h2 => Bl.slcM hbm h1 (fun p hp => h2 p (by rw [hX]; simp [hp]))
     have hx6 : ∀ {w : World} {L : Bks}, HS w0 w L → (∀ p ∈ X, p ∈ L) → SlC w a6 (pcs news) := fun h1 h2 => Bl.slcM hb6 h1 (fun p hp => h2 p (by rw [hX]; simp [hp]))
     have hx7 : ∀ {w : World} {L : Bks}, HS w0 w L → (∀ p ∈ X, p ∈ L) → SlC w a7 (qcs news) := fun h1 h2 => Bl.slcM hb7 h1 (fun p hp => h2 p (by rw [hX]; simp [hp]))
     refine L_move rfl rfl (L_extract rfl rfl rfl (L_extract rfl rfl rfl (L_extract rfl rfl rfl (L_extract rfl rfl rfl (L_assign rfl rfl (L_assign rfl rfl (L_assign rfl rfl (L_assign rfl rfl (RL_then (W_seq (W_region (L_assign rfl rfl ?_))))))))))))
     refine RL_then (W_block ?_)
     refine W_loop5 (fun (k' : Nat) (th3 : List Th) (v3 : Value) (M3 : Bks) (w : World) => [(0, .pointer (some ⟨B, 0, none⟩)), (3, v3), (4, .int .i64 i), (6, .slice a6 k q6), (7, .slice a7 k q7), (15, .slice am ms.length cm), (19, .int .i64 k')]) (fun (k' : Nat) (th3 : List Th) (v3 : Value) (M3 : Bks) (w : World) => w) (fun (k' : Nat) (th3 : List Th) (v3 : Value) (M3 : Bks) (w : World) => (k' ≤ k) ∧ (th3.map Th.s = ((O.zip ms).take k').foldl (stp i) (ths.map Th.s)) ∧ (Bl w0 112 5 v3 th3.length (fcs th3) M3) ∧ (∀ t ∈ th3, Bl w0 3 1 t.v t.seen.length (il t.seen) t.M) ∧ (ths.length ≤ th3.length) ∧ (th3.length ≤ i * 256 + k') ∧ (∀ t ∈ th3, t.seen.length ≤ 1 + i * 256 + k') ∧ (HS w0 w (X ++ (M3 ++ fms th3)))) (fun (k' : Nat) (th3 : List Th) (v3 : Value) (M3 : Bks) (w : World) => k - k') (0) (ths) (.slice aa ths.length ca) (Ma) (_) (is := [0, 3, 4, 6, 7, 15, 19]) rfl rfl ?_ ?_
     ·
      exact ⟨Nat.zero_le _, rfl, hba, hok, Nat.le_refl _, Nat.le_trans htl (Nat.le_add_right _ _), fun t ht => Nat.le_trans (hsl t ht) (Nat.le_add_right _ _), hs⟩
     ·
      clear hs
      intro k' th3 v3 M3 w hI
      show W _ _ _ _ [(0, .pointer (some ⟨B, 0, none⟩)), (3, v3), (4, .int .i64 i), (6, .slice a6 k q6), (7, .slice a7 k q7), (15, .slice am ms.length cm), (19, .int .i64 k')] w
      obtain ⟨hk', h3m, hb3, h3ok, h3g, h3l, h3s, hs⟩ := hI
      obtain ⟨a3, q3, rfl, hq3⟩ := hb3.slice
      by_cases hlk : k' < k
      ·
       obtain ⟨x, hx⟩ : ∃ x, x = news.getD k' th0 := ⟨_, rfl⟩
       have hkn : k' < news.length := by omega
       have hxse := hns x (by rw [hx]; exact getD_mem hkn)
       have hOx : O[k']? = some x.s := by rw [hx]; exact get_of_map hnm hkn
       obtain ⟨m, hm⟩ : ∃ m, m = ms.getD k' 0 := ⟨_, rfl⟩
       have hmk : ms[k']? = some m := by rw [hm, List.getD_eq_getElem?_getD, List.getElem?_eq_getElem (by omega)]; rfl
       have hmb := hmr k' (by omega)
       rw [← hm, List.length_take, List.length_map] at hmb
       have hz : (O.zip ms)[k']? = some (x.s, m) := by rw [List.getElem?_zip_eq_some]; exact ⟨hOx, hmk⟩
       have hgm : (il ms)[k']? = some (.int .i64 m) := by rw [hm]; exact il_get (by omega)
       have hdn : (O.zip ms).take (k' + 1) = (O.zip ms).take k' ++ [(x.s, m)] := take_snoc hz
       have hXs : ∀ p ∈ X, p ∈ X ++ (M3 ++ fms th3) := fun p hp => List.mem_append_left _ hp
       have hsm := hxm hs hXs
       have ha6 : a6 = some (aD a6) := (hx6 hs hXs).ao (by rw [pcs_len]; omega)
       have ha7 : a7 = some (aD a7) := (hx7 hs hXs).ao (by rw [qcs_len]; omega)
       have hc6 : ∀ {w : World} {L : Bks}, HS w0 w L → (∀ p ∈ X, p ∈ L) → CellsAt w ((aD a6).add (k' * 2)) [.float .f64 x.ax, .float .f64 x.ay] := fun h1 h2 => by
        have := dp_at (hx6 h1 h2) hkn
        rw [← hx] at this; exact this
       have hc7 : ∀ {w : World} {L : Bks}, HS w0 w L → (∀ p ∈ X, p ∈ L) → CellsAt w ((aD a7).add (k' * 2)) [.float .f64 x.vx, .float .f64 x.vy] := fun h1 h2 => by
        have := dq_at (hx7 h1 h2) hkn
        rw [← hx] at this; exact this
       by_cases h0 : 0 ≤ m
       ·
        obtain ⟨q, rfl⟩ : ∃ q : Nat, m = (q : Int) := ⟨m.toNat, by omega⟩
        have hq3' : q < th3.length := by omega
        obtain ⟨t, hth⟩ : ∃ t, t = th3.getD q th0 := ⟨_, rfl⟩
        have htok := h3ok t (by rw [hth]; exact getD_mem hq3')
        have htl' := h3s t (by rw [hth]; exact getD_mem hq3')
        obtain ⟨q0, qc, htv, hqc⟩ := htok.slice
        have hsp := dms_split hq3'
        rw [← hth] at hsp
        obtain ⟨g, cap, sp, hv, rfl, hg, hgl, hgc⟩ := hb3.own_row (by omega)
        injection hv with hv1 _ hv3
        subst hv1 hv3
        obtain ⟨Wt, hWt⟩ : ∃ Wt, Wt = X ++ (fms (th3.take q) ++ fms (th3.drop (q + 1))) := ⟨_, rfl⟩
        have hXW : ∀ p ∈ X, p ∈ Wt := fun p hp => by rw [hWt]; exact List.mem_append_left _ hp
        have hs0 : HS w0 w ((g, Row 112 (fcs th3 ++ sp)) :: (t.M ++ Wt)) := by
         rw [hsp] at hs
         rw [hWt]
         exact HS.re hs (fun c => by simp only [List.map_append, List.map_cons, List.map_nil, List.sum_append, List.sum_cons, List.sum_nil]; omega)
        clear hs hsm
        have hs := hs0
        clear hs0
        have hXW2 : ∀ p ∈ X, p ∈ (g, Row 112 (fcs th3 ++ sp)) :: (t.M ++ Wt) := fun p hp => List.mem_cons_of_mem _ (List.mem_append_right _ (hXW p hp))
        have hcg : CellsAt w ((Addr.mk g 0 none).add (q * 5)) [.float .f64 t.ax, .float .f64 t.ay, .float .f64 t.vx, .float .f64 t.vy, .slice q0 t.seen.length qc] := by
         have := dth_at (a := some ⟨g, 0, none⟩) (SlC.of_row (hs.get (i := 0) rfl)) hq3'
         rw [← hth] at this
         unfold Th.cells at this
         rw [htv] at this; exact this
        have hsm := hxm hs hXW2
        refine W_seq (W_seq (W_region (L_move rfl rfl (L_move rfl rfl (L_len rfl Try.underlying110 rfl (L_lss rfl rfl rfl (dtrue (by omega)) ?_))))))
        refine RL_then (W_if_true rfl (W_skip' (Nx_then (W_seq (W_block (W_seq (W_region (L_move rfl rfl (L_move rfl rfl ?_)))))))))
        refine L_idx1 rfl Try.underlying60 Try.ti3 rfl rfl (natc_k _) (by omega) (hsm.ao (by rw [il_length]; omega)) ?_
        refine L_load rfl Try.one3 rfl (by exact hsm.get hgm) ?_
        refine L_assign rfl rfl (RL_then (W_seq (W_seq (W_region (L_move rfl rfl (L_lss rfl rfl rfl (dfalse (by omega)) ?_))))))
        refine RL_then (W_if_false rfl (W_skip' (Nx_then (W_seq (W_region (L_move rfl rfl (L_move rfl rfl (L_idxN rfl Try.underlying109 Try.ti112 rfl rfl (natc_k _) (by omega) rfl ?_))))))))
        refine L_loadA rfl Try.agg112 Try.ti112 rfl (by exact hcg) ?_
        refine L_alloc rfl hs Try.ti112 ?_; intro b21 w hb21 _ hs; replace hs := HS.push hs
        refine L_storeA hs (i := 0) rfl Try.ti112 rfl rfl (by rfl) (by simp) (by simp [Value.oneCell']) ?_
        intro w hs
        dsimp only [List.set_cons_succ, List.set_cons_zero, List.cons_append, List.nil_append] at hs
        refine RL_then (W_seq ?_)
        replace hs : HS w0 w ((b21, Row 112 [.float .f64 t.ax, .float .f64 t.ay, .float .f64 t.vx, .float .f64 t.vy, .slice q0 t.seen.length qc]) :: (g, Row 112 (fcs th3 ++ sp)) :: (t.M ++ Wt)) := hs
        have hXW3 : ∀ {v : Nat × Obj}, ∀ p ∈ X, p ∈ v :: (g, Row 112 (fcs th3 ++ sp)) :: (t.M ++ Wt) := fun p hp => List.mem_cons_of_mem _ (hXW2 p hp)
        refine W_pht [0, 1, 3, 4, 5, 6, 9, 10, 12, 13, 14, 15] [2, 7, 8, 11, 16, 17, 18, 19] [20] (fun _ _ _ => False) Try.mixed (by kernel_rfl) (fun _ _ _ _ _ h => h) hs ?_
        refine PL_val rfl (fun w => R_fieldAddr (off := 0) Try.underlying112 rfl rfl Try.ti35 rfl) ?_
        refine PL_val rfl (fun w => R_fieldAddr (off := 0) Try.underlying35 rfl rfl Try.ti22 rfl) ?_
        refine PL_val rfl (fun w => R_move rfl) ?_
        refine PL_val rfl (fun w => R_move rfl) ?_
        refine PL_val rfl (fun w => R_idxN Try.underlying110 Try.ti35 rfl rfl (natc_k _) (by omega) ha6) ?_
        refine PL_val rfl (fun w => R_fieldAddr (off := 0) Try.underlying35 rfl rfl Try.ti22 rfl) ?_
        refine PL_val rfl (fun w => R_fieldAddr (off := 0) Try.underlying112 rfl rfl Try.ti35 rfl) ?_
        refine PL_val rfl (fun w => R_fieldAddr (off := 1) Try.underlying35 rfl rfl Try.ti22 rfl) ?_
        refine PL_val rfl (fun w => R_move rfl) ?_
        refine PL_val rfl (fun w => R_move rfl) ?_
        refine PL_val rfl (fun w => R_idxN Try.underlying110 Try.ti35 rfl rfl (natc_k _) (by omega) ha6) ?_
        refine PL_val rfl (fun w => R_fieldAddr (off := 1) Try.underlying35 rfl rfl Try.ti22 rfl) ?_
        refine PL_end (HL_val rfl (fun w hs => R_load Try.one22 rfl (by exact hs.cell (i := 0) rfl rfl)) ?_)
        refine HL_val rfl (fun w hs => R_load Try.one22 rfl (by exact hc6 hs hXW3 0 _ rfl)) ?_
        refine HL_farith rfl (op := .add) rfl rfl rfl ?_
        intro r166 hr166
        refine HL_val rfl (fun w hs => R_load Try.one22 rfl (by exact hs.cell (i := 0) rfl rfl)) ?_
        refine HL_val rfl (fun w hs => R_load Try.one22 rfl (by exact hc6 hs hXW3 1 _ rfl)) ?_
        refine HL_farith rfl (op := .add) rfl rfl rfl ?_
        intro r175 hr175
        refine HL_val rfl (fun w hs => R_build rfl (Pl.built Try.pl35 rfl)) ?_
        refine HL_val rfl (fun w hs => R_fieldAddr (off := 0) Try.underlying112 rfl rfl Try.ti35 rfl) ?_
        refine HL_tail ?_
        intro w hs
        refine L_storeA hs (i := 0) rfl Try.ti35 rfl rfl (by rfl) (by simp) (by simp [Value.oneCell']) ?_
        intro w hs
        dsimp only [List.set_cons_succ, List.set_cons_zero, List.cons_append, List.nil_append] at hs
        refine RL_then (W_seq ?_)
        replace hs : HS w0 w ((b21, Row 112 [.float .f64 r166, .float .f64 r175, .float .f64 t.vx, .float .f64 t.vy, .slice q0 t.seen.length qc]) :: (g, Row 112 (fcs th3 ++ sp)) :: (t.M ++ Wt)) := hs
        refine W_pht [0, 1, 3, 4, 5, 6, 9, 10, 12, 13, 14, 15] [2, 7, 8, 11, 16, 17, 18, 19] [20] (fun _ _ _ => False) Try.mixed (by kernel_rfl) (fun _ _ _ _ _ h => h) hs ?_
        refine PL_val rfl (fun w => R_fieldAddr (off := 2) Try.underlying112 rfl rfl Try.ti35 rfl) ?_
        refine PL_val rfl (fun w => R_fieldAddr (off := 0) Try.underlying35 rfl rfl Try.ti22 rfl) ?_
        refine PL_val rfl (fun w => R_move rfl) ?_
        refine PL_val rfl (fun w => R_move rfl) ?_
        refine PL_val rfl (fun w => R_idxN Try.underlying110 Try.ti35 rfl rfl (natc_k _) (by omega) ha7) ?_
        refine PL_val rfl (fun w => R_fieldAddr (off := 0) Try.underlying35 rfl rfl Try.ti22 rfl) ?_
        refine PL_val rfl (fun w => R_fieldAddr (off := 2) Try.underlying112 rfl rfl Try.ti35 rfl) ?_
        refine PL_val rfl (fun w => R_fieldAddr (off := 1) Try.underlying35 rfl rfl Try.ti22 rfl) ?_
        refine PL_val rfl (fun w => R_move rfl) ?_
        refine PL_val rfl (fun w => R_move rfl) ?_
        refine PL_val rfl (fun w => R_idxN Try.underlying110 Try.ti35 rfl rfl (natc_k _) (by omega) ha7) ?_
        refine PL_val rfl (fun w => R_fieldAddr (off := 1) Try.underlying35 rfl rfl Try.ti22 rfl) ?_
        refine PL_end (HL_val rfl (fun w hs => R_load Try.one22 rfl (by exact hs.cell (i := 0) rfl rfl)) ?_)
        refine HL_val rfl (fun w hs => R_load Try.one22 rfl (by exact hc7 hs hXW3 0 _ rfl)) ?_
        refine HL_farith rfl (op := .add) rfl rfl rfl ?_
        intro r186 hr186
        refine HL_val rfl (fun w hs => R_load Try.one22 rfl (by exact hs.cell (i := 0) rfl rfl)) ?_
        refine HL_val rfl (fun w hs => R_load Try.one22 rfl (by exact hc7 hs hXW3 1 _ rfl)) ?_
        refine HL_farith rfl (op := .add) rfl rfl rfl ?_
        intro r195 hr195
        refine HL_val rfl (fun w hs => R_build rfl (Pl.built Try.pl35 rfl)) ?_
        refine HL_val rfl (fun w hs => R_fieldAddr (off := 2) Try.underlying112 rfl rfl Try.ti35 rfl) ?_
        refine HL_tail ?_
        intro w hs
        refine L_storeA hs (i := 0) rfl Try.ti35 rfl rfl (by rfl) (by simp) (by simp [Value.oneCell']) ?_
        intro w hs
        dsimp only [List.set_cons_succ, List.set_cons_zero, List.cons_append, List.nil_append] at hs
        refine RL_then (W_seq ?_)
        replace hs : HS w0 w ((b21, Row 112 [.float .f64 r166, .float .f64 r175, .float .f64 r186, .float .f64 r195, .slice q0 t.seen.length qc]) :: (g, Row 112 (fcs th3 ++ sp)) :: (t.M ++ Wt)) := hs
        refine W_region (L_fieldAddr rfl (off := 4) Try.underlying112 rfl rfl Try.ti60 rfl (L_load rfl Try.one60 rfl (by exact hs.cell (i := 0) rfl rfl) ?_))
        refine L_move rfl rfl (L_buildSlice1 rfl hs Try.underlying60 Try.ti3 rfl (by decide) rfl rfl ?_)
        intro b201 w hb201 hnb201 hs
        simp only [List.map_cons, List.map_nil] at hs
        dsimp only [List.set_cons_succ, List.set_cons_zero, List.cons_append, List.nil_append] at hs
        replace hs : HS w0 w ((((b21, Row 112 [.float .f64 r166, .float .f64 r175, .float .f64 r186, .float .f64 r195, .slice q0 t.seen.length qc]) :: (g, Row 112 (fcs th3 ++ sp)) :: Wt) ++ t.M) ++ [(b201, Row 3 [.int .i64 i])]) := HS.re hs (fun c => by simp only [List.map_append, List.map_cons, List.map_nil, List.sum_append, List.sum_cons, List.sum_nil]; omega)
        rw [htv] at htok
        refine L_appendT (L := (b21, Row 112 [.float .f64 r166, .float .f64 r175, .float .f64 r186, .float .f64 r195, .slice q0 t.seen.length qc]) :: (g, Row 112 (fcs th3 ++ sp)) :: Wt) (M := t.M) rfl Try.underlying60 Try.ti3 rfl hs (by assumption) htok rfl rfl rfl (by simp [Value.oneCell']) (by omega) (by omega) ?_
        intro v' w M' hs hbn
        obtain ⟨av, cv, rfl, hcv⟩ := hbn.slice
        refine L_fieldAddr rfl (off := 4) Try.underlying112 rfl rfl Try.ti60 rfl (L_store hs (i := 0) rfl Try.ti60 rfl rfl (by rfl) (by simp) rfl ?_)
        intro w hs
        dsimp only [List.set_cons_succ, List.set_cons_zero, List.cons_append, List.nil_append] at hs
        refine RL_then (W_region (L_move rfl rfl (L_move rfl rfl ?_)))
        obtain ⟨t', ht'e⟩ : ∃ t', t' = Th.mk 0 r166 r175 r186 r195 (t.seen ++ [(i : Int)]) (.slice av (t.seen.length + 1) cv) M' := ⟨_, rfl⟩
        have hce : t'.cells = [.float .f64 r166, .float .f64 r175, .float .f64 r186, .float .f64 r195, .slice av (t.seen.length + 1) cv] := by rw [ht'e]; rfl
        replace hs : HS w0 w (((b21, Row 112 [.float .f64 r166, .float .f64 r175, .float .f64 r186, .float .f64 r195, .slice av (t.seen.length + 1) cv]) :: (g, Row 112 (fcs th3 ++ sp)) :: Wt) ++ M') := hs
        refine L_loadA rfl Try.agg112 Try.ti112 rfl (by exact cellsAt_whole (cs := [.float .f64 r166, .float .f64 r175, .float .f64 r186, .float .f64 r195, .slice av (t.seen.length + 1) cv]) (hs.get (i := 0) rfl)) ?_
        refine L_idxN rfl Try.underlying109 Try.ti112 rfl rfl (natc_k _) (by omega) rfl ?_
        refine L_storeA hs (i := 1) rfl Try.ti112 rfl rfl (by exact add_lit0 _ _) (by simp [dcs_len]; omega) (by simp [Value.oneCell']) ?_
        intro w hs
        dsimp only [List.set_cons_succ, List.set_cons_zero, List.cons_append, List.nil_append] at hs
        refine RL_nil' (Nx_block (Nx_then (W_region (L_move rfl rfl (L_add rfl rfl rfl (wrp_i64 (by omega)) ?_)))))
        refine L_assign rfl rfl (RL_nil' ?_)
        refine Nx_loopP (k' + 1, th3.set q t', _, [(g, Row 112 (fcs (th3.set q t') ++ sp))], _) (is := [0, 3, 4, 6, 7, 15, 19]) (I' := (fun (k' : Nat) (th3 : List Th) (v3 : Value) (M3 : Bks) (w : World) => (k' ≤ k) ∧ (th3.map Th.s = ((O.zip ms).take k').foldl (stp i) (ths.map Th.s)) ∧ (Bl w0 112 5 v3 th3.length (fcs th3) M3) ∧ (∀ t ∈ th3, Bl w0 3 1 t.v t.seen.length (il t.seen) t.M) ∧ (ths.length ≤ th3.length) ∧ (th3.length ≤ i * 256 + k') ∧ (∀ t ∈ th3, t.seen.length ≤ 1 + i * 256 + k') ∧ (HS w0 w (X ++ (M3 ++ fms th3)))) (k' + 1) (th3.set q t') (_) ([(g, Row 112 (fcs (th3.set q t') ++ sp))]) (_)) rfl rfl rfl ?_ ?_
        ·
         have ht'ok : Bl w0 3 1 t'.v t'.seen.length (il t'.seen) t'.M := by
          rw [ht'e]
          show Bl w0 3 1 (.slice av (t.seen.length + 1) cv) (t.seen ++ [(i : Int)]).length (il (t.seen ++ [(i : Int)])) M'
          rw [List.length_append, ← il_snoc]
          exact hbn
         have ht's : t'.s = mrgS i t.s x.s := by
          rw [ht'e]
          unfold Th.s mrgS
          show ST.mk _ _ _ _ _ = ST.mk (fop .add (cn t.ax) (cn x.ax)) (fop .add (cn t.ay) (cn x.ay)) (fop .add (cn t.vx) (cn x.vx)) (fop .add (cn t.vy) (cn x.vy)) _
          rw [fop_cn, fop_cn, fop_cn, fop_cn, ← Fs.cn hr166, ← Fs.cn hr175, ← Fs.cn hr186, ← Fs.cn hr195]
         refine ⟨by omega, ?_, ?_, ?_, ?_, ?_, ?_, ?_⟩
         ·
          rw [hdn, List.foldl_append, ← h3m]
          show _ = stp i (th3.map Th.s) (x.s, (q : Int))
          unfold stp
          rw [if_pos h0, List.map_set, ht's, Int.toNat_natCast]
          have := get_of_map (m := th3.map Th.s) (f := Th.s) (d := th0) rfl hq3'
          rw [List.getD_eq_getElem?_getD, this, ← hth]; rfl
         ·
          rw [List.length_set]
          refine .row hg (by rw [dcs_len, List.length_set]) ?_ hgc
          rw [← hgl, List.length_append, List.length_append, dcs_len, dcs_len, List.length_set]
         ·
          intro u hu
          rcases List.mem_or_eq_of_mem_set hu with h1 | h1
          ·
           exact h3ok u h1
          ·
           rw [h1]; exact ht'ok
         ·
          rw [List.length_set]; exact h3g
         ·
          rw [List.length_set]; omega
         ·
          intro u hu
          rcases List.mem_or_eq_of_mem_set hu with h1 | h1
          ·
           have := h3s u h1; omega
          ·
           rw [h1, ht'e]
           show (t.seen ++ [(i : Int)]).length ≤ _
           rw [List.length_append, List.length_singleton]; omega
         ·
          have ht'M : t'.M = M' := by rw [ht'e]
          rw [dms_set hq3', ht'M]
          have e9 := dcs_set hq3' t' sp
          rw [hce] at e9
          have h1 : HS w0 w (((b21, Row 112 [.float .f64 r166, .float .f64 r175, .float .f64 r186, .float .f64 r195, .slice av (t.seen.length + 1) cv]) :: (g, Row 112 (fcs (th3.set q t') ++ sp)) :: Wt) ++ M') := by
           rw [← e9]; exact hs
          rw [hWt] at h1
          exact HS.pop (p := (b21, Row 112 [.float .f64 r166, .float .f64 r175, .float .f64 r186, .float .f64 r195, .slice av (t.seen.length + 1) cv])) (HS.re h1 (fun c => by simp only [List.map_append, List.map_cons, List.map_nil, List.sum_append, List.sum_cons, List.sum_nil]; omega)) hb21
        ·
         omega
       ·
        refine W_seq (W_seq (W_region (L_move rfl rfl (L_move rfl rfl (L_len rfl Try.underlying110 rfl (L_lss rfl rfl rfl (dtrue (by omega)) ?_))))))
        refine RL_then (W_if_true rfl (W_skip' (Nx_then (W_seq (W_block (W_seq (W_region (L_move rfl rfl (L_move rfl rfl ?_)))))))))
        refine L_idx1 rfl Try.underlying60 Try.ti3 rfl rfl (natc_k _) (by omega) (hsm.ao (by rw [il_length]; omega)) ?_
        refine L_load rfl Try.one3 rfl (by exact hsm.get hgm) ?_
        refine L_assign rfl rfl (RL_then (W_seq (W_seq (W_region (L_move rfl rfl (L_lss rfl rfl rfl (dtrue (by omega)) ?_))))))
        refine RL_then (W_if_true rfl (W_seq (W_sg Try.mixed ?_)))
        replace hs := hs.drewN 1
        refine SG_stageB [0, 1, 2, 3, 5, 6, 7, 9] [4, 8, 10, 11, 12] [13, 14] (noBk (fun _ _ _ => False)) (g' := 0) (by kernel_rfl) (by kernel_rfl) (fun _ _ _ _ _ h => h) hs ?_
        refine PL_val rfl (fun w => R_move rfl) ?_
        refine PL_val rfl (fun w => R_move rfl) ?_
        refine PL_val rfl (fun w => R_move rfl) ?_
        refine PL_val rfl (fun w => R_idxN Try.underlying110 Try.ti35 rfl rfl (natc_k _) (by omega) ha6) ?_
        refine PL_val rfl (fun w => R_move rfl) ?_
        refine PL_val rfl (fun w => R_move rfl) ?_
        refine PL_val rfl (fun w => R_idxN Try.underlying110 Try.ti35 rfl rfl (natc_k _) (by omega) ha7) ?_
        refine PL_val rfl (fun w => R_move rfl) ?_
        refine PL_endB ?_
        refine HB_val rfl (fun w R hR hs => R_loadA Try.agg35 Try.ti35 rfl (by exact hc6 hs (fun p hp => List.mem_append_left _ (List.mem_append_left _ hp)))) ?_
        refine HB_val rfl (fun w R hR hs => R_loadA Try.agg35 Try.ti35 rfl (by exact hc7 hs (fun p hp => List.mem_append_left _ (List.mem_append_left _ hp)))) ?_
        refine HB_buildSlice1 rfl Try.underlying60 Try.ti3 rfl (by decide) rfl rfl ?_
        intro b150 hb150
        refine HB_val rfl (fun w R hR hs => R_build rfl (Pl.builtN Try.pl112 rfl)) ?_
        refine HB_buildSlice rfl Try.underlying109 Try.ti112 rfl (by decide) rfl (by simp [Value.cells]) ?_
        intro b152 hb152
        refine HB_tail ?_
        intro w hs
        obtain ⟨x', hx'⟩ : ∃ x', x' = Th.mk 0 x.ax x.ay x.vx x.vy [(i : Int)] (.slice (some ⟨b150, 0, none⟩) 1 1) [(b150, Row 3 [.int .i64 i])] := ⟨_, rfl⟩
        have hce : x'.cells = [.float .f64 x.ax, .float .f64 x.ay, .float .f64 x.vx, .float .f64 x.vy, .slice (some ⟨b150, 0, none⟩) 1 1] := by rw [hx']; rfl
        have hs0 : HS w0 w ((X ++ (M3 ++ fms th3)) ++ ([(b150, Row 3 [.int .i64 i])] ++ [(b152, Row 112 [.float .f64 x.ax, .float .f64 x.ay, .float .f64 x.vx, .float .f64 x.vy, .slice (some ⟨b150, 0, none⟩) 1 1])])) := hs
        clear hs
        have hs : HS w0 w (((X ++ (fms th3 ++ [(b150, Row 3 [.int .i64 i])])) ++ M3) ++ [(b152, Row 112 [.float .f64 x.ax, .float .f64 x.ay, .float .f64 x.vx, .float .f64 x.vy, .slice (some ⟨b150, 0, none⟩) 1 1])]) := HS.re hs0 (fun c => by simp only [List.map_append, List.map_cons, List.map_nil, List.sum_append, List.sum_cons, List.sum_nil]; omega)
        clear hs0
        refine L_appendT (L := X ++ (fms th3 ++ [(b150, Row 3 [.int .i64 i])])) (M := M3) (news := [.float .f64 x.ax, .float .f64 x.ay, .float .f64 x.vx, .float .f64 x.vy, .slice (some ⟨b150, 0, none⟩) 1 1]) rfl Try.underlying109 Try.ti112 rfl hs (by assumption) hb3 rfl rfl rfl (by simp [Value.oneCell']) (by omega) (by omega) ?_
        intro v' w M' hs hbn
        refine L_assign rfl rfl (RL_sg (SG_end (by kernel_rfl) ?_))
        refine Nx_then (W_exit' (Ex_then_exit (Ex_block_hit (Nx_then (W_region (L_move rfl rfl (L_add rfl rfl rfl (wrp_i64 (by omega)) ?_)))))))
        refine L_assign rfl rfl (RL_nil' ?_)
        refine Nx_loopP (k' + 1, th3 ++ [x'], v', M', _) (is := [0, 3, 4, 6, 7, 15, 19]) (I' := (fun (k' : Nat) (th3 : List Th) (v3 : Value) (M3 : Bks) (w : World) => (k' ≤ k) ∧ (th3.map Th.s = ((O.zip ms).take k').foldl (stp i) (ths.map Th.s)) ∧ (Bl w0 112 5 v3 th3.length (fcs th3) M3) ∧ (∀ t ∈ th3, Bl w0 3 1 t.v t.seen.length (il t.seen) t.M) ∧ (ths.length ≤ th3.length) ∧ (th3.length ≤ i * 256 + k') ∧ (∀ t ∈ th3, t.seen.length ≤ 1 + i * 256 + k') ∧ (HS w0 w (X ++ (M3 ++ fms th3)))) (k' + 1) (th3 ++ [x']) (v') (M') (_)) rfl rfl rfl ?_ ?_
        ·
         refine ⟨by omega, ?_, ?_, ?_, ?_, ?_, ?_, ?_⟩
         ·
          rw [hdn, List.foldl_append, ← h3m, List.map_append]
          show _ = stp i (th3.map Th.s) (x.s, m)
          unfold stp
          rw [if_neg h0]
          congr 1
          show [x'.s] = [x.s]
          rw [hx']
          unfold Th.s
          rw [hxse]
         ·
          rw [List.length_append, dcs_app, dcs_one, hce]; exact hbn
         ·
          refine fun u hu => (List.mem_append.1 hu).elim (h3ok u) fun h => ?_
          rw [List.mem_singleton.1 h, hx']
          exact Bl.row hb150 rfl rfl (Nat.le_refl _)
         ·
          rw [List.length_append]; omega
         ·
          rw [List.length_append, List.length_singleton]; omega
         ·
          refine fun u hu => (List.mem_append.1 hu).elim (fun h => by have := h3s u h; omega) fun h => ?_
          rw [List.mem_singleton.1 h, hx']
          show 1 ≤ _
          omega
         ·
          rw [dms_app, dms_one, show x'.M = [(b150, Row 3 [.int .i64 i])] by rw [hx']]
          exact HS.re hs (fun c => by simp only [List.map_append, List.map_cons, List.map_nil, List.sum_append, List.sum_cons, List.sum_nil]; omega)
        ·
         omega
      ·
       obtain rfl : k' = k := by omega
       refine W_seq (W_seq (W_region (L_move rfl rfl (L_move rfl rfl (L_len rfl Try.underlying110 rfl (L_lss rfl rfl rfl (dfalse (by omega)) ?_))))))
       refine RL_then (W_if_false rfl (W_exit' (Ex_then_exit (Ex_loop_exit (Ex_block_hit (Nx_block (Nx_then (W_region (L_move rfl rfl (L_add rfl rfl rfl (wrp_i64 (by omega)) ?_))))))))))
       refine L_assign rfl rfl (RL_nil' ?_)
       refine Nx_loopP (i + 1, th3, _, M3, _) (is := [0, 3, 4]) (I' := (fun (i : Nat) (ths : List Th) (va : Value) (Ma : Bks) (w : World) => (i ≤ rs.length) ∧ (FusTo far rs i (ths.map Th.s)) ∧ (Bl w0 112 5 va ths.length (fcs ths) Ma) ∧ (∀ t ∈ ths, Bl w0 3 1 t.v t.seen.length (il t.seen) t.M) ∧ (ths.length ≤ i * 256) ∧ (∀ t ∈ ths, t.seen.length ≤ 1 + i * 256) ∧ (HS w0 w (Ma ++ fms ths))) (i + 1) (th3) (_) (M3) (_)) rfl rfl rfl ?_ ?_
       ·
        have hzl : (O.zip ms).take k' = O.zip ms := List.take_of_length_le (by rw [List.length_zip]; omega)
        rw [hzl] at h3m
        refine ⟨by omega, ?_, hb3, h3ok, by omega, fun u hu => (by have := h3s u hu; omega), ?_⟩
        ·
         rw [h3m, hO]; exact .step hF hlt hM'
        ·
         exact HS.dropL hs hoX
       ·
        omega
  ·
   obtain rfl : i = rs.length := by omega
   refine W_seq (W_seq (W_region (L_move rfl rfl (L_move rfl rfl (L_nilCheck rfl rfl (L_fieldAddr rfl (off := 1) Try.underlying79 rfl rfl Try.ti58 rfl (L_load rfl Try.one58 rfl (by exact hDw.s) ?_)))))))
   refine L_len rfl Try.underlying58 rfl (L_lss rfl rfl rfl (dfalse (by omega)) ?_)
   refine RL_then (W_if_false rfl (W_exit' (Ex_then_exit (Ex_loop_exit (Ex_block_hit (Nx_then (W_seq (W_region (L_assign rfl rfl (RL_then (W_seq (W_seq ?_))))))))))))
   refine W_region (L_assign rfl rfl (RL_then (W_block ?_)))
   refine W_loop5 (fun (j : Nat) (fs : List Th) (vo : Value) (Mo : Bks) (w : World) => [(3, .slice aa ths.length ca), (22, vo), (23, .int .i64 j)]) (fun (j : Nat) (fs : List Th) (vo : Value) (Mo : Bks) (w : World) => w) (fun (j : Nat) (fs : List Th) (vo : Value) (Mo : Bks) (w : World) => (j ≤ ths.length) ∧ (fs.length = j) ∧ (fs.map Th.s = ((ths.take j).map Th.s).map prt) ∧ (fs.map Th.M = (ths.take j).map Th.M) ∧ (∀ t ∈ fs, Bl w0 3 1 t.v t.seen.length (il t.seen) t.M) ∧ (∀ t ∈ fs, t.seen.length ≤ 4097) ∧ (Bl w0 64 5 vo j (fcs fs) Mo) ∧ (HS w0 w (Mo ++ (Ma ++ fms ths)))) (fun (j : Nat) (fs : List Th) (vo : Value) (Mo : Bks) (w : World) => ths.length - j) (0) ([]) (.slice none 0 0) ([]) (w) (is := [3, 22, 23]) rfl rfl ?_ ?_
   ·
    exact ⟨Nat.zero_le _, rfl, rfl, rfl, fun _ h => absurd h List.not_mem_nil, fun _ h => absurd h List.not_mem_nil, .nil, hs⟩
   ·
    clear hs hDw
    intro j fs vo Mo w hI
    show W _ _ _ _ [(3, .slice aa ths.length ca), (22, vo), (23, .int .i64 j)] w
    obtain ⟨hj, hfl, hfm, hfM, hfb, hfs, hbo, hs⟩ := hI
    by_cases hlj : j < ths.length
    ·
     obtain ⟨t, hth⟩ : ∃ t, t = ths.getD j th0 := ⟨_, rfl⟩
     have htok := hok t (by rw [hth]; exact getD_mem hlj)
     have hts := hsl t (by rw [hth]; exact getD_mem hlj)
     obtain ⟨q0, qc, htv, hqc⟩ := htok.slice
     have htj : ths[j]? = some t := by rw [hth, List.getD_eq_getElem?_getD, List.getElem?_eq_getElem hlj]; rfl
     have hsa : SlC w aa (fcs ths) := Bl.slcM hba hs (fun p hp => by simp [hp])
     have hcg : CellsAt w ((aD aa).add (j * 5)) [.float .f64 t.ax, .float .f64 t.ay, .float .f64 t.vx, .float .f64 t.vy, .slice q0 t.seen.length qc] := by
      have := dth_at hsa hlj
      rw [← hth] at this
      unfold Th.cells at this
      rw [htv] at this; exact this
     obtain ⟨L, hL⟩ : ∃ L, L = Mo ++ (Ma ++ fms ths) := ⟨_, rfl⟩
     rw [← hL] at hs
     refine W_seq (W_seq (W_region (L_move rfl rfl (L_move rfl rfl (L_len rfl Try.underlying109 rfl (L_lss rfl rfl rfl (dtrue (by omega)) ?_))))))
     refine RL_then (W_if_true rfl (W_skip' (Nx_then (W_seq (W_block (W_seq (W_region (L_move rfl rfl (L_move rfl rfl ?_)))))))))
     refine L_idxN rfl Try.underlying109 Try.ti112 rfl rfl (natc_k _) (by omega) (hsa.ao (by rw [dcs_len]; omega)) ?_
     refine L_loadA rfl Try.agg112 Try.ti112 rfl (by exact hcg) ?_
     refine L_alloc rfl hs Try.ti112 ?_; intro b24 w hb24 _ hs; replace hs := HS.push hs
     refine L_storeA hs (i := 0) rfl Try.ti112 rfl rfl (by rfl) (by simp) (by simp [Value.oneCell']) ?_
     intro w hs
     dsimp only [List.set_cons_succ, List.set_cons_zero, List.cons_append, List.nil_append] at hs
     refine RL_then ?_
     replace hs : HS w0 w ((b24, Row 112 [.float .f64 t.ax, .float .f64 t.ay, .float .f64 t.vx, .float .f64 t.vy, .slice q0 t.seen.length qc]) :: L) := hs
     refine W_sg Try.mixed ?_
     replace hs := hs.drewN 1
     refine SG_stageB [0, 2, 6, 9] [1, 3, 4, 5, 7, 8, 10, 11, 12] [13, 14] (noBk (SPD 0 t.seen.length)) (g' := 0) (by kernel_rfl) (by kernel_rfl) (fun _ _ _ _ _ h => h) hs ?_
     refine PL_val rfl (fun w => R_move rfl) ?_
     refine PL_val rfl (fun w => R_fieldAddr (off := 0) Try.underlying112 rfl rfl Try.ti35 rfl) ?_
     refine PL_val rfl (fun w => R_fieldAddr (off := 2) Try.underlying112 rfl rfl Try.ti35 rfl) ?_
     refine PL_val rfl (fun w => R_fieldAddr (off := 4) Try.underlying112 rfl rfl Try.ti60 rfl) ?_
     refine PL_endB ?_
     refine HB_val rfl (fun w R hR hs => R_loadA Try.agg112 Try.ti112 rfl (by exact cellsAt_whole (cs := [.float .f64 t.ax, .float .f64 t.ay, .float .f64 t.vx, .float .f64 t.vy, .slice q0 t.seen.length qc]) (hs.get (i := 0) rfl))) ?_
     refine HB_val rfl (fun w R hR hs => R_loadA Try.agg35 Try.ti35 rfl (by exact cellsAt_lit (n := 2) (hs.get (i := 0) rfl) rfl)) ?_
     refine HB_callH rfl Try.fun59 rfl (fun w R hR hs => rplaceH 0 hs t.ax t.ay t.vx t.vy t.ax t.ay t.seen.length qc q0) ?_
     rintro _ hmv
     obtain ⟨sx, sy, rfl, hsx, hsy⟩ := hmv _ _ rfl
     refine HB_val rfl (fun w R hR hs => R_loadA Try.agg112 Try.ti112 rfl (by exact cellsAt_whole (cs := [.float .f64 t.ax, .float .f64 t.ay, .float .f64 t.vx, .float .f64 t.vy, .slice q0 t.seen.length qc]) (hs.get (i := 0) rfl))) ?_
     refine HB_val rfl (fun w R hR hs => R_loadA Try.agg35 Try.ti35 rfl (by exact cellsAt_lit (n := 2) (hs.get (i := 0) rfl) rfl)) ?_
     refine HB_callH rfl Try.fun59 rfl (fun w R hR hs => rplaceH 0 hs t.ax t.ay t.vx t.vy t.vx t.vy t.seen.length qc q0) ?_
     rintro _ hmv
     obtain ⟨ux, uy, rfl, hux, huy⟩ := hmv _ _ rfl
     refine HB_val rfl (fun w R hR hs => R_load Try.one60 rfl (by exact hs.cell (i := 0) rfl rfl)) ?_
     refine HB_val rfl (fun w R hR hs => R_build rfl (Pl.builtN Try.pl64 rfl)) ?_
     refine HB_buildSlice rfl Try.underlying55 Try.ti64 rfl (by decide) rfl (by simp [Value.cells]) ?_
     intro b230 hb230
     refine HB_tail ?_
     intro w hs
     obtain ⟨f, hfe⟩ : ∃ f, f = Th.mk 0 sx sy ux uy t.seen (.slice q0 t.seen.length qc) t.M := ⟨_, rfl⟩
     have hce : f.cells = [.float .f64 sx, .float .f64 sy, .float .f64 ux, .float .f64 uy, .slice q0 t.seen.length qc] := by rw [hfe]; rfl
     have hs0 : HS w0 w (((b24, Row 112 [.float .f64 t.ax, .float .f64 t.ay, .float .f64 t.vx, .float .f64 t.vy, .slice q0 t.seen.length qc]) :: L) ++ [(b230, Row 64 [.float .f64 sx, .float .f64 sy, .float .f64 ux, .float .f64 uy, .slice q0 t.seen.length qc])]) := hs
     clear hs
     rw [hL] at hs0
     have hs : HS w0 w ((((b24, Row 112 [.float .f64 t.ax, .float .f64 t.ay, .float .f64 t.vx, .float .f64 t.vy, .slice q0 t.seen.length qc]) :: (Ma ++ fms ths)) ++ Mo) ++ [(b230, Row 64 [.float .f64 sx, .float .f64 sy, .float .f64 ux, .float .f64 uy, .slice q0 t.seen.length qc])]) := HS.re hs0 (fun c => by simp only [List.map_append, List.map_cons, List.map_nil, List.sum_append, List.sum_cons, List.sum_nil]; omega)
     clear hs0
     refine L_appendT (L := (b24, Row 112 [.float .f64 t.ax, .float .f64 t.ay, .float .f64 t.vx, .float .f64 t.vy, .slice q0 t.seen.length qc]) :: (Ma ++ fms ths)) (M := Mo) (news := [.float .f64 sx, .float .f64 sy, .float .f64 ux, .float .f64 uy, .slice q0 t.seen.length qc]) rfl Try.underlying55 Try.ti64 rfl hs (by assumption) hbo rfl rfl rfl (by simp [Value.oneCell']) (by omega) (by omega) ?_
     intro v' w M' hs hbn
     refine L_assign rfl rfl (RL_sg (SG_end (by kernel_rfl) ?_))
     refine Nx_block (Nx_then (W_region (L_move rfl rfl (L_add rfl rfl rfl (wrp_i64 (by omega)) ?_))))
     refine L_assign rfl rfl (RL_nil' ?_)
     refine Nx_loopP (j + 1, fs ++ [f], v', M', _) (is := [3, 22, 23]) (I' := (fun (j : Nat) (fs : List Th) (vo : Value) (Mo : Bks) (w : World) => (j ≤ ths.length) ∧ (fs.length = j) ∧ (fs.map Th.s = ((ths.take j).map Th.s).map prt) ∧ (fs.map Th.M = (ths.take j).map Th.M) ∧ (∀ t ∈ fs, Bl w0 3 1 t.v t.seen.length (il t.seen) t.M) ∧ (∀ t ∈ fs, t.seen.length ≤ 4097) ∧ (Bl w0 64 5 vo j (fcs fs) Mo) ∧ (HS w0 w (Mo ++ (Ma ++ fms ths)))) (j + 1) (fs ++ [f]) (v') (M') (_)) rfl rfl rfl ?_ ?_
     ·
      have hfM' : f.M = t.M := by rw [hfe]
      refine ⟨by omega, by rw [List.length_append, hfl]; rfl, ?_, ?_, ?_, ?_, ?_, ?_⟩
      ·
       rw [take_snoc htj, List.map_append, List.map_append, List.map_append, hfm]
       congr 1
       show [f.s] = [prt t.s]
       congr 1
       rw [hfe]
       unfold Th.s prt
       rw [hsx, hsy, hux, huy]
       show ST.mk _ _ _ _ _ = ST.mk (fop .quo (cn t.ax) (FloatKind.f64.nearest (t.seen.length : Int))) (fop .quo (cn t.ay) (FloatKind.f64.nearest (t.seen.length : Int))) (fop .quo (cn t.vx) (FloatKind.f64.nearest (t.seen.length : Int))) (fop .quo (cn t.vy) (FloatKind.f64.nearest (t.seen.length : Int))) _
       rw [fop_congr (op := .quo) (cn_cn t.ax) rfl, fop_congr (op := .quo) (cn_cn t.ay) rfl, fop_congr (op := .quo) (cn_cn t.vx) rfl, fop_congr (op := .quo) (cn_cn t.vy) rfl]
      ·
       rw [take_snoc htj, List.map_append, List.map_append, hfM]
       show _ ++ [f.M] = _ ++ [t.M]
       rw [hfM']
      ·
       refine fun u hu => (List.mem_append.1 hu).elim (hfb u) fun h => ?_
       rw [List.mem_singleton.1 h, hfe]
       show Bl w0 3 1 (.slice q0 t.seen.length qc) t.seen.length (il t.seen) t.M
       rw [← htv]; exact htok
      ·
       refine fun u hu => (List.mem_append.1 hu).elim (hfs u) fun h => ?_
       rw [List.mem_singleton.1 h, hfe]
       show t.seen.length ≤ 4097
       omega
      ·
       rw [dcs_app, dcs_one, hce]; exact hbn
      ·
       exact HS.pop (p := (b24, Row 112 [.float .f64 t.ax, .float .f64 t.ay, .float .f64 t.vx, .float .f64 t.vy, .slice q0 t.seen.length qc])) (HS.re hs (fun c => by simp only [List.map_append, List.map_cons, List.map_nil, List.sum_append, List.sum_cons, List.sum_nil]; omega)) hb24
     ·
      omega
    ·
     have hjt : ths.take j = ths := List.take_of_length_le (by omega)
     rw [hjt] at hfm hfM
     obtain ⟨ao, co, rfl, hco⟩ := hbo.slice
     refine W_seq (W_seq (W_region (L_move rfl rfl (L_move rfl rfl (L_len rfl Try.underlying109 rfl (L_lss rfl rfl rfl (dfalse (by omega)) ?_))))))
     refine RL_then (W_if_false rfl (W_exit' (Ex_then_exit (Ex_loop_exit (Ex_block_hit (Nx_then (W_seq (W_region (L_move rfl rfl (L_assign rfl rfl (RL_then (W_ret' ?_))))))))))))
     refine Ex_done1 rfl rfl ?_
     refine ⟨_, rfl, ths.map Th.s, fs, Mo, hF, hfm, by rw [hfl]; exact hbo, hfb, ?_, by omega, hfs⟩
     rw [fms_of hfM]
     exact HS.dropR (M := Ma) (HS.re hs (fun c => by simp only [List.map_append, List.map_cons, List.map_nil, List.sum_append, List.sum_cons, List.sum_nil]; omega)) hba.own
end Go.Proofs.Ytknpoemkmcdgcaa
