/-
  A part of the proof: what functions that the statement reaches do, or a plain law on what they do. Each theorem holds under its own premises alone.
-/
import Derived.Test.YtihhloeakenfgaaTD12
namespace Go.Proofs.Ytihhloeakenfgaa
open Go Go.Lk
def one64 : Nat := 4607182418800017408
set_option maxHeartbeats 4000000 in
theorem known_ok (w0 : World) : Ret Try.prog 4 [] w0 fun v w' => v = .bool true ∧ HS w0 w' [] := by
  refine Ret.start fun w hs => ?_
  refine calls_of_W Try.func4 rfl rfl rfl ?_
  refine W_seq ?_
  refine W_region ?_
  refine L_assign rfl rfl ?_
  refine RL_then ?_
  refine W_seq ?_
  refine W_region ?_
  refine L_buildSlice1 rfl hs Try.underlying27 Try.ti28 rfl (by decide) rfl rfl ?_
  intro b31 w hb31 hnb31 hs
  simp only [List.map_cons, List.map_nil] at hs
  try dsimp only [List.set_cons_succ, List.set_cons_zero, List.cons_append, List.nil_append] at hs
  refine L_buildSlice1 rfl hs Try.underlying39 Try.ti27 rfl (by decide) rfl rfl ?_
  intro b32 w hb32 hnb32 hs
  simp only [List.map_cons, List.map_nil] at hs
  try dsimp only [List.set_cons_succ, List.set_cons_zero, List.cons_append, List.nil_append] at hs
  have hR : RowsC w (some ⟨b32, 0, none⟩) [[(4607182418800017408, 0)]] [.slice (some ⟨b31, 0, none⟩) 1 1] := rowsC1 (SlC.of_row (sp := []) (hs.get (i := 1) rfl)) (SlC.of_row (sp := []) (hs.get (i := 0) rfl)) rfl (by decide)
  replace hs := hs.forget (Own.cons hb31 (Own.cons hb32 Own.nil))
  refine L_call rfl Try.fun10 rfl (doppler_bad (some ⟨b32, 0, none⟩) none 1 1 0 0 [[(4607182418800017408, 0)]] _ w hR rfl (by decide) (fun i hi => by match i, hi with | 0, _ => decide) (by decide)) ?_
  rintro _ wa ⟨rfl, hsa⟩
  replace hs := hs.nil hsa
  clear hsa hR
  refine L_move rfl rfl ?_
  refine L_extract rfl rfl rfl ?_
  refine L_extract rfl rfl rfl ?_
  refine L_assign rfl rfl ?_
  refine L_assign rfl rfl ?_
  refine RL_then ?_
  refine W_seq ?_
  refine W_region ?_
  refine L_buildSlice1 rfl hs Try.underlying27 Try.ti28 rfl (by decide) rfl rfl ?_
  intro b37 w hb37 hnb37 hs
  simp only [List.map_cons, List.map_nil] at hs
  try dsimp only [List.set_cons_succ, List.set_cons_zero, List.cons_append, List.nil_append] at hs
  refine L_buildSlice1 rfl hs Try.underlying39 Try.ti27 rfl (by decide) rfl rfl ?_
  intro b38 w hb38 hnb38 hs
  simp only [List.map_cons, List.map_nil] at hs
  try dsimp only [List.set_cons_succ, List.set_cons_zero, List.cons_append, List.nil_append] at hs
  have hR : RowsC w (some ⟨b38, 0, none⟩) [[(4607182418800017408, 0)]] [.slice (some ⟨b37, 0, none⟩) 1 1] := rowsC1 (SlC.of_row (sp := []) (hs.get (i := 1) rfl)) (SlC.of_row (sp := []) (hs.get (i := 0) rfl)) rfl (by decide)
  replace hs := hs.forget (Own.cons hb37 (Own.cons hb38 Own.nil))
  refine L_call rfl Try.fun11 rfl (compress_none (some ⟨b38, 0, none⟩) none 1 1 0 [[(4607182418800017408, 0)]] _ w hR rfl (by decide) (fun i hi => by match i, hi with | 0, _ => decide) (by decide +kernel)) ?_
  rintro _ wb ⟨rfl, hsb⟩
  replace hs := hs.nil hsb
  clear hsb hR
  refine L_move rfl rfl ?_
  refine L_extract rfl rfl rfl ?_
  refine L_extract rfl rfl rfl ?_
  refine L_assign rfl rfl ?_
  refine L_assign rfl rfl ?_
  refine RL_then ?_
  refine W_seq ?_
  refine W_region ?_
  refine L_buildSlice1 rfl hs Try.underlying27 Try.ti28 rfl (by decide) rfl rfl ?_
  intro b43 w hb43 hnb43 hs
  simp only [List.map_cons, List.map_nil] at hs
  try dsimp only [List.set_cons_succ, List.set_cons_zero, List.cons_append, List.nil_append] at hs
  have tt : SlC w (some ⟨b43, 0, none⟩) (cl [(4607182418800017408, 0)]) := SlC.of_row (sp := []) (hs.get (i := 0) rfl)
  replace hs := hs.forget (Own.cons hb43 Own.nil)
  refine L_call rfl Try.fun11 rfl (compress_ok none (some ⟨b43, 0, none⟩) 0 0 1 1 0 [] [] [(4607182418800017408, 0)] w (RowsC.none w) rfl rfl tt rfl (by decide) (by decide +kernel) (by decide +kernel)) ?_
  rintro _ wc ⟨Bc, vc, Mc, rfl, hsc, hBc, hOc, _, _⟩
  replace hs := hs.nil (hsc.forget (Own.cons hBc hOc))
  clear hsc hOc hBc tt
  refine L_move rfl rfl ?_
  refine L_extract rfl rfl rfl ?_
  refine L_extract rfl rfl rfl ?_
  refine L_assign rfl rfl ?_
  refine L_assign rfl rfl ?_
  refine RL_then ?_
  refine W_seq ?_
  refine W_region ?_
  refine L_buildSlice1 rfl hs Try.underlying27 Try.ti28 rfl (by decide) rfl rfl ?_
  intro b48 w hb48 hnb48 hs
  simp only [List.map_cons, List.map_nil] at hs
  try dsimp only [List.set_cons_succ, List.set_cons_zero, List.cons_append, List.nil_append] at hs
  refine L_buildSlice1 rfl hs Try.underlying27 Try.ti28 rfl (by decide) rfl rfl ?_
  intro b49 w hb49 hnb49 hs
  simp only [List.map_nil] at hs
  try dsimp only [List.set_cons_succ, List.set_cons_zero, List.cons_append, List.nil_append] at hs
  refine L_buildSlice1 rfl hs Try.underlying39 Try.ti27 rfl (by decide) rfl rfl ?_
  intro b50 w hb50 hnb50 hs
  simp only [List.map_cons, List.map_nil] at hs
  try dsimp only [List.set_cons_succ, List.set_cons_zero, List.cons_append, List.nil_append] at hs
  have hR : RowsC w (some ⟨b50, 0, none⟩) [[(4607182418800017408, 0)], []] [.slice (some ⟨b48, 0, none⟩) 1 1, .slice (some ⟨b49, 0, none⟩) 0 0] := rowsC2 (SlC.of_row (sp := []) (hs.get (i := 2) rfl)) (SlC.of_row (sp := []) (hs.get (i := 0) rfl)) (SlC.of_row (sp := []) (hs.get (i := 1) rfl)) rfl rfl (by decide) (by decide)
  replace hs := hs.forget (Own.cons hb48 (Own.cons hb49 (Own.cons hb50 Own.nil)))
  have hch : chkF [[(4607182418800017408, 0)], []] 0 = 5 := by decide +kernel
  refine L_call rfl Try.fun12 rfl (across_bad (some ⟨b50, 0, none⟩) 2 2 [[(4607182418800017408, 0)], []] _ w hR rfl (by decide) (fun i hi => by match i, hi with | 0, _ => decide | 1, _ => decide) (by rw [hch]; decide)) ?_
  rw [hch]
  rintro _ wd ⟨rfl, hsd⟩
  replace hs := hs.nil hsd
  clear hsd hR hch
  refine L_move rfl rfl ?_
  refine L_extract rfl rfl rfl ?_
  refine L_extract rfl rfl rfl ?_
  refine L_assign rfl rfl ?_
  refine L_assign rfl rfl ?_
  refine RL_then ?_
  refine W_seq ?_
  refine W_region ?_
  refine L_buildSlice1 rfl hs Try.underlying27 Try.ti28 rfl (by decide) rfl rfl ?_
  intro b55 w hb55 hnb55 hs
  simp only [List.map_nil] at hs
  try dsimp only [List.set_cons_succ, List.set_cons_zero, List.cons_append, List.nil_append] at hs
  refine L_buildSlice1 rfl hs Try.underlying27 Try.ti28 rfl (by decide) rfl rfl ?_
  intro b56 w hb56 hnb56 hs
  simp only [List.map_nil] at hs
  try dsimp only [List.set_cons_succ, List.set_cons_zero, List.cons_append, List.nil_append] at hs
  refine L_buildSlice1 rfl hs Try.underlying39 Try.ti27 rfl (by decide) rfl rfl ?_
  intro b57 w hb57 hnb57 hs
  simp only [List.map_cons, List.map_nil] at hs
  try dsimp only [List.set_cons_succ, List.set_cons_zero, List.cons_append, List.nil_append] at hs
  have hR : RowsC w (some ⟨b57, 0, none⟩) [[], []] [.slice (some ⟨b55, 0, none⟩) 0 0, .slice (some ⟨b56, 0, none⟩) 0 0] := rowsC2 (SlC.of_row (sp := []) (hs.get (i := 2) rfl)) (SlC.of_row (sp := []) (hs.get (i := 0) rfl)) (SlC.of_row (sp := []) (hs.get (i := 1) rfl)) rfl rfl (by decide) (by decide)
  replace hs := hs.forget (Own.cons hb55 (Own.cons hb56 (Own.cons hb57 Own.nil)))
  refine L_call rfl Try.fun12 rfl (across_ok (some ⟨b57, 0, none⟩) 2 2 0 [[], []] _ w hR rfl rfl (by decide +kernel)) ?_
  rintro _ we ⟨Ae, Be, ve, ze, rfl, hse, hAe, hBe, _, _, _, _⟩
  replace hs := hs.nil (hse.forget (Own.cons hAe (Own.cons hBe Own.nil)))
  clear hse hAe hBe hR
  refine L_move rfl rfl ?_
  refine L_extract rfl rfl rfl ?_
  refine L_extract rfl rfl rfl ?_
  refine L_assign rfl rfl ?_
  refine L_assign rfl rfl ?_
  refine RL_then ?_
  refine W_seq ?_
  refine W_region ?_
  refine L_buildSlice1 rfl hs Try.underlying27 Try.ti28 rfl (by decide) rfl rfl ?_
  intro b62 w hb62 hnb62 hs
  simp only [List.map_cons, List.map_nil] at hs
  try dsimp only [List.set_cons_succ, List.set_cons_zero, List.cons_append, List.nil_append] at hs
  refine L_buildSlice1 rfl hs Try.underlying27 Try.ti28 rfl (by decide) rfl rfl ?_
  intro b63 w hb63 hnb63 hs
  simp only [List.map_cons, List.map_nil] at hs
  try dsimp only [List.set_cons_succ, List.set_cons_zero, List.cons_append, List.nil_append] at hs
  refine L_buildSlice1 rfl hs Try.underlying39 Try.ti27 rfl (by decide) rfl rfl ?_
  intro b64 w hb64 hnb64 hs
  simp only [List.map_cons, List.map_nil] at hs
  try dsimp only [List.set_cons_succ, List.set_cons_zero, List.cons_append, List.nil_append] at hs
  refine L_buildSlice1 rfl hs Try.underlying44 Try.ti25 rfl (by decide) rfl rfl ?_
  intro b65 w hb65 hnb65 hs
  simp only [List.map_cons, List.map_nil] at hs
  try dsimp only [List.set_cons_succ, List.set_cons_zero, List.cons_append, List.nil_append] at hs
  have hR : RowsC w (some ⟨b64, 0, none⟩) [[(4607182418800017408, 0)], [(4613937818241073152, 0)]] [.slice (some ⟨b62, 0, none⟩) 1 1, .slice (some ⟨b63, 0, none⟩) 1 1] := rowsC2 (SlC.of_row (sp := []) (hs.get (i := 2) rfl)) (SlC.of_row (sp := []) (hs.get (i := 0) rfl)) (SlC.of_row (sp := []) (hs.get (i := 1) rfl)) rfl rfl (by decide) (by decide)
  have hW : SlC w (some ⟨b65, 0, none⟩) (fl [4611686018427387904, 4607182418800017408]) := SlC.of_row (sp := []) (hs.get (i := 3) rfl)
  replace hs := hs.forget (Own.cons hb62 (Own.cons hb63 (Own.cons hb64 (Own.cons hb65 Own.nil))))
  refine L_call rfl Try.fun10 rfl (doppler_ok (some ⟨b64, 0, none⟩) (some ⟨b65, 0, none⟩) 2 2 1 2 [[(4607182418800017408, 0)], [(4613937818241073152, 0)]] _ [4611686018427387904, 4607182418800017408] w hR rfl rfl (by decide +kernel) hW rfl) ?_
  rintro _ wx ⟨Ax, Bx, vx, zx, rfl, hsx, hAx, hBx, hvxl, hvx, hzxl, hD⟩
  have X : SlC wx (some ⟨Bx, 0, none⟩) vx := SlC.of_row (sp := []) (by rw [List.append_nil]; exact hsx.get (i := 1) rfl)
  have XZ : SlC wx (some ⟨Ax, 0, none⟩) (cl zx) := SlC.of_row (sp := []) (by rw [List.append_nil]; exact hsx.get (i := 0) rfl)
  obtain ⟨d0, d1⟩ := dop2 (hD 0 (by decide)) (a0 := 4611686018427387904) (b0 := 0) (a1 := 4613937818241073152) (b1 := 0) (y0 := 4617315517961601024) (z0 := 0) (y1 := 13830554455654793216) (z1 := 0) (by decide +kernel) (by decide +kernel) (by decide +kernel) (by decide +kernel) (by decide +kernel) (by decide +kernel)
  have h1 := hs.nil (hsx.forget (Own.cons hAx (Own.cons hBx Own.nil)))
  have hx0 : vx[0]? = some (.slice (some ⟨Ax, 0, none⟩) 1 1) := by rw [hvx 0 (by decide)]; unfold bval; rw [slA_at (by decide)]
  have hx1 : vx[1]? = some (.slice (some ⟨Ax, 1, none⟩) 1 1) := by rw [hvx 1 (by decide)]; unfold bval; rw [slA_at (by decide)]
  have fX0 : wx.cell? ((Addr.mk Ax 0 none).add 0) = some (.complex .f64 4617315517961601024 0) := cell_at (o := 0) XZ (by rw [cl_get (by rw [hzxl]; decide)]; exact congrArg (fun z : Nat × Nat => some (Value.complex .f64 z.1 z.2)) d0)
  have fX1 : wx.cell? ((Addr.mk Ax 1 none).add 0) = some (.complex .f64 13830554455654793216 0) := cell_at (o := 1) XZ (by rw [cl_get (by rw [hzxl]; decide)]; exact congrArg (fun z : Nat × Nat => some (Value.complex .f64 z.1 z.2)) d1)
  have gX0 := X.get hx0
  have gX1 := X.get hx1
  clear hs hsx hAx hBx hD hR hW X XZ hvx d0 d1
  have hs := HS.refl wx
  refine L_move rfl rfl ?_
  refine L_extract rfl rfl rfl ?_
  refine L_extract rfl rfl rfl ?_
  refine L_assign rfl rfl ?_
  refine L_assign rfl rfl ?_
  refine RL_then ?_
  refine W_seq ?_
  refine W_region ?_
  refine L_move rfl rfl ?_
  first | refine L_eql rfl rfl rfl (dtrue (by omega)) ?_ | refine L_eql rfl rfl rfl (dfalse (by omega)) ?_ | refine L_eql rfl rfl rfl rfl ?_
  refine L_move rfl rfl ?_
  first | (refine RL_want rfl rfl ?_; refine L_move rfl rfl ?_) | refine RL_skip rfl rfl rfl rfl ?_ | refine RL_skipU rfl rfl rfl ?_
  first | (refine RL_want rfl rfl ?_; (first | refine L_eql rfl rfl rfl (dtrue (by omega)) ?_ | refine L_eql rfl rfl rfl (dfalse (by omega)) ?_ | refine L_eql rfl rfl rfl rfl ?_)) | refine RL_skip rfl rfl rfl rfl ?_ | refine RL_skipU rfl rfl rfl ?_
  first | refine L_pick_t rfl rfl rfl ?_ | refine L_pick_f rfl rfl rfl ?_
  refine L_move rfl rfl ?_
  first | (refine RL_want rfl rfl ?_; refine L_move rfl rfl ?_) | refine RL_skip rfl rfl rfl rfl ?_ | refine RL_skipU rfl rfl rfl ?_
  first | (refine RL_want rfl rfl ?_; (first | refine L_eql rfl rfl rfl (dtrue (by omega)) ?_ | refine L_eql rfl rfl rfl (dfalse (by omega)) ?_ | refine L_eql rfl rfl rfl rfl ?_)) | refine RL_skip rfl rfl rfl rfl ?_ | refine RL_skipU rfl rfl rfl ?_
  first | refine L_pick_t rfl rfl rfl ?_ | refine L_pick_f rfl rfl rfl ?_
  refine L_move rfl rfl ?_
  first | (refine RL_want rfl rfl ?_; refine L_move rfl rfl ?_) | refine RL_skip rfl rfl rfl rfl ?_ | refine RL_skipU rfl rfl rfl ?_
  first | (refine RL_want rfl rfl ?_; refine L_len rfl Try.underlying39 rfl ?_) | refine RL_skip rfl rfl rfl rfl ?_ | refine RL_skipU rfl rfl rfl ?_
  first | (refine RL_want rfl rfl ?_; (first | refine L_eql rfl rfl rfl (dtrue (by omega)) ?_ | refine L_eql rfl rfl rfl (dfalse (by omega)) ?_ | refine L_eql rfl rfl rfl rfl ?_)) | refine RL_skip rfl rfl rfl rfl ?_ | refine RL_skipU rfl rfl rfl ?_
  first | refine L_pick_t rfl rfl rfl ?_ | refine L_pick_f rfl rfl rfl ?_
  refine L_move rfl rfl ?_
  first | (refine RL_want rfl rfl ?_; refine L_move rfl rfl ?_) | refine RL_skip rfl rfl rfl rfl ?_ | refine RL_skipU rfl rfl rfl ?_
  first | (refine RL_want rfl rfl ?_; (first | refine L_eql rfl rfl rfl (dtrue (by omega)) ?_ | refine L_eql rfl rfl rfl (dfalse (by omega)) ?_ | refine L_eql rfl rfl rfl rfl ?_)) | refine RL_skip rfl rfl rfl rfl ?_ | refine RL_skipU rfl rfl rfl ?_
  first | refine L_pick_t rfl rfl rfl ?_ | refine L_pick_f rfl rfl rfl ?_
  refine L_move rfl rfl ?_
  first | (refine RL_want rfl rfl ?_; refine L_move rfl rfl ?_) | refine RL_skip rfl rfl rfl rfl ?_ | refine RL_skipU rfl rfl rfl ?_
  first | (refine RL_want rfl rfl ?_; (first | refine L_eql rfl rfl rfl (dtrue (by omega)) ?_ | refine L_eql rfl rfl rfl (dfalse (by omega)) ?_ | refine L_eql rfl rfl rfl rfl ?_)) | refine RL_skip rfl rfl rfl rfl ?_ | refine RL_skipU rfl rfl rfl ?_
  first | refine L_pick_t rfl rfl rfl ?_ | refine L_pick_f rfl rfl rfl ?_
  refine L_move rfl rfl ?_
  first | (refine RL_want rfl rfl ?_; refine L_move rfl rfl ?_) | refine RL_skip rfl rfl rfl rfl ?_ | refine RL_skipU rfl rfl rfl ?_
  first | (refine RL_want rfl rfl ?_; refine L_len rfl Try.underlying39 rfl ?_) | refine RL_skip rfl rfl rfl rfl ?_ | refine RL_skipU rfl rfl rfl ?_
  first | (refine RL_want rfl rfl ?_; (first | refine L_eql rfl rfl rfl (dtrue (by omega)) ?_ | refine L_eql rfl rfl rfl (dfalse (by omega)) ?_ | refine L_eql rfl rfl rfl rfl ?_)) | refine RL_skip rfl rfl rfl rfl ?_ | refine RL_skipU rfl rfl rfl ?_
  first | refine L_pick_t rfl rfl rfl ?_ | refine L_pick_f rfl rfl rfl ?_
  refine L_move rfl rfl ?_
  first | (refine RL_want rfl rfl ?_; refine L_move rfl rfl ?_) | refine RL_skip rfl rfl rfl rfl ?_ | refine RL_skipU rfl rfl rfl ?_
  first | (refine RL_want rfl rfl ?_; (first | refine L_eql rfl rfl rfl (dtrue (by omega)) ?_ | refine L_eql rfl rfl rfl (dfalse (by omega)) ?_ | refine L_eql rfl rfl rfl rfl ?_)) | refine RL_skip rfl rfl rfl rfl ?_ | refine RL_skipU rfl rfl rfl ?_
  first | refine L_pick_t rfl rfl rfl ?_ | refine L_pick_f rfl rfl rfl ?_
  refine L_move rfl rfl ?_
  first | (refine RL_want rfl rfl ?_; refine L_move rfl rfl ?_) | refine RL_skip rfl rfl rfl rfl ?_ | refine RL_skipU rfl rfl rfl ?_
  first | (refine RL_want rfl rfl ?_; refine L_len rfl Try.underlying39 rfl ?_) | refine RL_skip rfl rfl rfl rfl ?_ | refine RL_skipU rfl rfl rfl ?_
  first | (refine RL_want rfl rfl ?_; (first | refine L_eql rfl rfl rfl (dtrue (by omega)) ?_ | refine L_eql rfl rfl rfl (dfalse (by omega)) ?_ | refine L_eql rfl rfl rfl rfl ?_)) | refine RL_skip rfl rfl rfl rfl ?_ | refine RL_skipU rfl rfl rfl ?_
  first | refine L_pick_t rfl rfl rfl ?_ | refine L_pick_f rfl rfl rfl ?_
  refine L_move rfl rfl ?_
  first | (refine RL_want rfl rfl ?_; refine L_move rfl rfl ?_) | refine RL_skip rfl rfl rfl rfl ?_ | refine RL_skipU rfl rfl rfl ?_
  first | (refine RL_want rfl rfl ?_; refine L_idx1 rfl Try.underlying39 Try.ti27 rfl rfl (by with_reducible first | exact natc_k _ | exact natc_a1 _ | exact natc_0 | exact natc_1 | exact natc_2 | exact natc_s1 _ (by omega) | exact natc_a2 _ | exact natc_add _ _ | exact natc_mul _ _ | exact natc (by omega)) (by omega) rfl ?_) | refine RL_skip rfl rfl rfl rfl ?_ | refine RL_skipU rfl rfl rfl ?_
  first | (refine RL_want rfl rfl ?_; refine L_load rfl Try.one27 rfl (by first | exact gX0 | exact gX1 | exact fX0 | exact fX1) ?_) | refine RL_skip rfl rfl rfl rfl ?_ | refine RL_skipU rfl rfl rfl ?_
  first | (refine RL_want rfl rfl ?_; refine L_idx1 rfl Try.underlying27 Try.ti28 rfl rfl (by with_reducible first | exact natc_k _ | exact natc_a1 _ | exact natc_0 | exact natc_1 | exact natc_2 | exact natc_s1 _ (by omega) | exact natc_a2 _ | exact natc_add _ _ | exact natc_mul _ _ | exact natc (by omega)) (by omega) rfl ?_) | refine RL_skip rfl rfl rfl rfl ?_ | refine RL_skipU rfl rfl rfl ?_
  first | (refine RL_want rfl rfl ?_; refine L_load rfl Try.one28 rfl (by first | exact gX0 | exact gX1 | exact fX0 | exact fX1) ?_) | refine RL_skip rfl rfl rfl rfl ?_ | refine RL_skipU rfl rfl rfl ?_
  first | (refine RL_want rfl rfl ?_; refine RL_val rfl (R_ceqlT rfl rfl (by decide +kernel) (by decide +kernel)) ?_) | refine RL_skip rfl rfl rfl rfl ?_ | refine RL_skipU rfl rfl rfl ?_
  first | refine L_pick_t rfl rfl rfl ?_ | refine L_pick_f rfl rfl rfl ?_
  refine L_move rfl rfl ?_
  first | (refine RL_want rfl rfl ?_; refine L_move rfl rfl ?_) | refine RL_skip rfl rfl rfl rfl ?_ | refine RL_skipU rfl rfl rfl ?_
  first | (refine RL_want rfl rfl ?_; refine L_idx1 rfl Try.underlying39 Try.ti27 rfl rfl (by with_reducible first | exact natc_k _ | exact natc_a1 _ | exact natc_0 | exact natc_1 | exact natc_2 | exact natc_s1 _ (by omega) | exact natc_a2 _ | exact natc_add _ _ | exact natc_mul _ _ | exact natc (by omega)) (by omega) rfl ?_) | refine RL_skip rfl rfl rfl rfl ?_ | refine RL_skipU rfl rfl rfl ?_
  first | (refine RL_want rfl rfl ?_; refine L_load rfl Try.one27 rfl (by first | exact gX0 | exact gX1 | exact fX0 | exact fX1) ?_) | refine RL_skip rfl rfl rfl rfl ?_ | refine RL_skipU rfl rfl rfl ?_
  first | (refine RL_want rfl rfl ?_; refine L_idx1 rfl Try.underlying27 Try.ti28 rfl rfl (by with_reducible first | exact natc_k _ | exact natc_a1 _ | exact natc_0 | exact natc_1 | exact natc_2 | exact natc_s1 _ (by omega) | exact natc_a2 _ | exact natc_add _ _ | exact natc_mul _ _ | exact natc (by omega)) (by omega) rfl ?_) | refine RL_skip rfl rfl rfl rfl ?_ | refine RL_skipU rfl rfl rfl ?_
  first | (refine RL_want rfl rfl ?_; refine L_load rfl Try.one28 rfl (by first | exact gX0 | exact gX1 | exact fX0 | exact fX1) ?_) | refine RL_skip rfl rfl rfl rfl ?_ | refine RL_skipU rfl rfl rfl ?_
  first | (refine RL_want rfl rfl ?_; refine RL_val rfl (R_ceqlT rfl rfl (by decide +kernel) (by decide +kernel)) ?_) | refine RL_skip rfl rfl rfl rfl ?_ | refine RL_skipU rfl rfl rfl ?_
  first | refine L_pick_t rfl rfl rfl ?_ | refine L_pick_f rfl rfl rfl ?_
  refine L_assign rfl rfl ?_
  refine RL_then ?_
  refine W_seq ?_
  refine W_region ?_
  replace hs := h1.nil hs
  clear h1 gX0 gX1 fX0 fX1 hx0 hx1 hvxl hzxl
  refine L_make1 (l := 257) (c := 257) rfl hs Try.underlying39 Try.ti27 rfl rfl rfl rfl (Nat.le_refl _) (by omega) (by omega) rfl ?_
  intro Bo w hBo hnBo hs
  replace hs : HS w0 w [(Bo, Row 27 (List.replicate 257 (.slice none 0 0)))] := hs
  refine L_assign rfl rfl ?_
  refine RL_then ?_
  refine W_seq ?_
  refine W_seq ?_
  refine W_region ?_
  refine L_assign rfl rfl ?_
  refine RL_then ?_
  refine W_block ?_
  refine W_loop4 (fun (i : Nat) (vs : List Value) (Ms : List (Nat × Obj)) (w : World) => [(13, .bool true), (14, .slice (some ⟨Bo, 0, none⟩) 257 257), (15, .int .i64 i)]) (fun (i : Nat) (vs : List Value) (Ms : List (Nat × Obj)) (w : World) => w) (fun (i : Nat) (vs : List Value) (Ms : List (Nat × Obj)) (w : World) => (i ≤ 257) ∧ (vs.length = 257) ∧ (Own w0 Ms) ∧ (∀ q, q < i → ∃ g, vs[q]? = some (.slice (some ⟨g, 0, none⟩) 2 2) ∧ (g, Row 28 (List.replicate 2 (.complex .f64 0 0))) ∈ Ms) ∧ (HS w0 w ((Bo, Row 27 vs) :: Ms))) (fun (i : Nat) (vs : List Value) (Ms : List (Nat × Obj)) (w : World) => 257 - i) (0) (List.replicate 257 (.slice none 0 0)) ([]) (w) (is := [13, 14, 15]) rfl rfl ?_ ?_
  · exact ⟨Nat.zero_le _, List.length_replicate .., Own.nil, fun _ h => absurd h (Nat.not_lt_zero _), hs⟩
  · clear hs
    intro i vs Ms w hI
    show W _ _ _ _ [(13, .bool true), (14, .slice (some ⟨Bo, 0, none⟩) 257 257), (15, .int .i64 i)] w
    obtain ⟨hi, hvl, hOM, hv, hs⟩ := hI
    by_cases hlt : i < 257
    · refine W_seq ?_
      refine W_seq ?_
      refine W_region ?_
      refine L_move rfl rfl ?_
      refine L_move rfl rfl ?_
      refine L_len rfl Try.underlying39 rfl ?_
      first | refine L_lss rfl rfl rfl (dtrue (by omega)) ?_ | refine L_lss rfl rfl rfl (dfalse (by omega)) ?_ | refine L_lss rfl rfl rfl rfl ?_
      refine RL_then ?_
      refine W_if_true rfl ?_
      refine W_skip' ?_
      refine Nx_then ?_
      refine W_seq ?_
      refine W_block ?_
      refine W_region ?_
      refine L_move rfl rfl ?_
      refine L_move rfl rfl ?_
      refine L_make1 (l := 2) (c := 2) rfl hs Try.underlying27 Try.ti28 rfl rfl rfl rfl (Nat.le_refl _) (by omega) (by omega) rfl ?_
      intro g w hg hng hs
      replace hs : HS w0 w ((Bo, Row 27 vs) :: (g, Row 28 (List.replicate 2 (.complex .f64 0 0))) :: Ms) :=
        HS.mem_perm (L := ((Bo, Row 27 vs) :: Ms) ++ [(g, Row 28 (List.replicate 2 (.complex .f64 0 0)))]) hs (List.Perm.cons _ (List.perm_append_comm (l₂ := [_])))
      refine L_idx1 rfl Try.underlying39 Try.ti27 rfl rfl (by with_reducible first | exact natc_k _ | exact natc_a1 _ | exact natc_0 | exact natc_1 | exact natc_2 | exact natc_s1 _ (by omega) | exact natc_a2 _ | exact natc_add _ _ | exact natc_mul _ _ | exact natc (by omega)) (by omega) rfl ?_
      refine L_store hs (i := 0) rfl Try.ti27 rfl rfl (by first | rfl | exact add_lit0 _ _ | exact Addr.add_lit ..) (by omega) rfl ?_
      intro w hs
      try dsimp only [List.set_cons_succ, List.set_cons_zero, List.cons_append, List.nil_append] at hs
      refine RL_nil' ?_
      refine Nx_block ?_
      refine Nx_then ?_
      refine W_region ?_
      refine L_move rfl rfl ?_
      first | refine L_add rfl rfl rfl (wrp_i64 (by omega)) ?_ | refine L_add rfl rfl rfl rfl ?_
      refine L_assign rfl rfl ?_
      refine RL_nil' ?_
      refine Nx_loopP (i + 1, vs.set i (.slice (some ⟨g, 0, none⟩) 2 2), (g, Row 28 (List.replicate 2 (.complex .f64 0 0))) :: Ms, _) (is := [13, 14, 15]) (I' := (fun (i : Nat) (vs : List Value) (Ms : List (Nat × Obj)) (w : World) => (i ≤ 257) ∧ (vs.length = 257) ∧ (Own w0 Ms) ∧ (∀ q, q < i → ∃ g, vs[q]? = some (.slice (some ⟨g, 0, none⟩) 2 2) ∧ (g, Row 28 (List.replicate 2 (.complex .f64 0 0))) ∈ Ms) ∧ (HS w0 w ((Bo, Row 27 vs) :: Ms))) (i + 1) (vs.set i (.slice (some ⟨g, 0, none⟩) 2 2)) ((g, Row 28 (List.replicate 2 (.complex .f64 0 0))) :: Ms) (_)) rfl rfl rfl ?_ ?_
      · refine ⟨by omega, by simp [hvl], Own.cons hg hOM, fun q hq => ?_, hs⟩
        by_cases hqi : q = i
        · subst hqi
          exact ⟨g, List.getElem?_set_self (by omega), List.mem_cons_self ..⟩
        · obtain ⟨g', e1, e2⟩ := hv q (by omega)
          exact ⟨g', by rw [List.getElem?_set_ne (Ne.symm hqi)]; exact e1, List.mem_cons_of_mem _ e2⟩
      · omega
    · obtain rfl : i = 257 := by omega
      have RR : RowsC w (some ⟨Bo, 0, none⟩) (List.replicate 257 (List.replicate 2 (0, 0))) vs := RowsC.rep (SlC.of_row (sp := []) (by rw [List.append_nil]; exact hs.get (i := 0) rfl)) hvl (fun q hq => by
        obtain ⟨g, e1, e2⟩ := hv q hq
        exact ⟨g, e1, hs.has _ (List.mem_cons_of_mem _ e2)⟩)
      have h1 := hs.forget (Own.cons hBo hOM)
      clear hs hv hOM
      have hs := HS.refl w
      refine W_seq ?_
      refine W_seq ?_
      refine W_region ?_
      refine L_move rfl rfl ?_
      refine L_move rfl rfl ?_
      refine L_len rfl Try.underlying39 rfl ?_
      first | refine L_lss rfl rfl rfl (dtrue (by omega)) ?_ | refine L_lss rfl rfl rfl (dfalse (by omega)) ?_ | refine L_lss rfl rfl rfl rfl ?_
      refine RL_then ?_
      refine W_if_false rfl ?_
      refine W_exit' ?_
      refine Ex_then_exit ?_
      refine Ex_loop_exit ?_
      refine Ex_block_hit ?_
      refine Nx_then ?_
      refine W_seq ?_
      refine W_region ?_
      refine L_move rfl rfl ?_
      have hch : chkF (List.replicate 257 (List.replicate 2 (0, 0))) 0 = 3 := (chkF_rep (by decide)).trans (by decide)
      refine L_call rfl Try.fun12 rfl (across_bad (some ⟨Bo, 0, none⟩) 257 257 _ vs w RR (List.length_replicate ..) (by decide) (fun i hi => by rw [rep_len hi]; decide) (by rw [hch]; decide)) ?_
      rw [hch]
      rintro _ wa ⟨rfl, hsa⟩
      replace RR := RR.old hsa Own.nil
      replace h1 := h1.nil hsa
      clear hs hsa hch
      have hs := HS.refl wa
      refine L_move rfl rfl ?_
      refine L_extract rfl rfl rfl ?_
      refine L_extract rfl rfl rfl ?_
      refine L_assign rfl rfl ?_
      refine L_assign rfl rfl ?_
      refine RL_then ?_
      refine W_seq ?_
      refine W_region ?_
      refine L_move rfl rfl ?_
      refine RL_val rfl (R_slice010 Try.underlying39 Try.ti27 rfl rfl (by with_reducible first | exact natc_k _ | exact natc_a1 _ | exact natc_0 | exact natc_1 | exact natc_2 | exact natc_s1 _ (by omega) | exact natc_a2 _ | exact natc_add _ _ | exact natc_mul _ _ | exact natc (by omega)) (by omega)) ?_
      have R6 := RR.take (m := 256)
      rw [List.take_replicate, show min 256 257 = 256 from rfl] at R6
      have hch : chkF (List.replicate 256 (List.replicate 2 (0, 0))) 0 = 0 := (chkF_rep (by decide)).trans (by decide)
      refine L_call rfl Try.fun12 rfl (across_ok (some ⟨Bo, 0, none⟩) 256 257 2 _ (vs.take 256) wa R6 (List.length_replicate ..) (by unfold widC; exact rep_len (by decide)) hch) ?_
      rintro _ wb ⟨Ab, Bb, vb, zb, rfl, hsb, hAb, hBb, _, _, _, _⟩
      have hNb : Own wa [(Ab, Row 28 (cl zb)), (Bb, Row 27 vb)] := Own.cons hAb (Own.cons hBb Own.nil)
      replace R6 := R6.old hsb hNb
      replace h1 := h1.nil (hsb.forget hNb)
      clear hs hsb hNb hAb hBb hch RR
      have hs := HS.refl wb
      obtain ⟨N, hN⟩ : ∃ N, N = 16384 := ⟨_, rfl⟩
      have hN' : (16384 : Int) = ((N : Nat) : Int) := by omega
      refine L_move rfl rfl ?_
      refine L_extract rfl rfl rfl ?_
      refine L_extract rfl rfl rfl ?_
      refine L_assign rfl rfl ?_
      refine L_assign rfl rfl ?_
      refine RL_then ?_
      refine W_seq ?_
      refine W_region ?_
      refine L_make1 (l := 17) (c := 17) rfl hs Try.underlying39 Try.ti27 rfl rfl rfl rfl (Nat.le_refl _) (by omega) (by omega) rfl ?_
      intro Bw w hBw hnBw hs
      replace hs : HS wb w [(Bw, Row 27 (List.replicate 17 (.slice none 0 0)))] := hs
      refine L_assign rfl rfl ?_
      refine RL_then ?_
      refine W_seq ?_
      refine W_seq ?_
      refine W_region ?_
      refine L_assign rfl rfl ?_
      refine RL_then ?_
      refine W_block ?_
      refine W_loop4 (fun (i : Nat) (vt : List Value) (Ms : List (Nat × Obj)) (w : World) => [(13, .bool true), (14, .slice (some ⟨Bo, 0, none⟩) 257 257), (17, .int .i64 3), (18, .slice (some ⟨Bb, 0, none⟩) 2 2), (19, .int .i64 0), (20, .slice (some ⟨Bw, 0, none⟩) 17 17), (21, .int .i64 i)]) (fun (i : Nat) (vt : List Value) (Ms : List (Nat × Obj)) (w : World) => w) (fun (i : Nat) (vt : List Value) (Ms : List (Nat × Obj)) (w : World) => (i ≤ 17) ∧ (vt.length = 17) ∧ (Own wb Ms) ∧ (∀ q, q < i → ∃ g, vt[q]? = some (.slice (some ⟨g, 0, none⟩) N N) ∧ (g, Row 28 (List.replicate N (.complex .f64 0 0))) ∈ Ms) ∧ (HS wb w ((Bw, Row 27 vt) :: Ms))) (fun (i : Nat) (vt : List Value) (Ms : List (Nat × Obj)) (w : World) => 17 - i) (0) (List.replicate 17 (.slice none 0 0)) ([]) (w) (is := [13, 14, 17, 18, 19, 20, 21]) rfl rfl ?_ ?_
      · exact ⟨Nat.zero_le _, List.length_replicate .., Own.nil, fun _ h => absurd h (Nat.not_lt_zero _), hs⟩
      · clear hs
        intro i vt Ms w hI
        show W _ _ _ _ [(13, .bool true), (14, .slice (some ⟨Bo, 0, none⟩) 257 257), (17, .int .i64 3), (18, .slice (some ⟨Bb, 0, none⟩) 2 2), (19, .int .i64 0), (20, .slice (some ⟨Bw, 0, none⟩) 17 17), (21, .int .i64 i)] w
        obtain ⟨hi, htl, hOM, hv, hs⟩ := hI
        by_cases hlt : i < 17
        · refine W_seq ?_
          refine W_seq ?_
          refine W_region ?_
          refine L_move rfl rfl ?_
          refine L_move rfl rfl ?_
          refine L_len rfl Try.underlying39 rfl ?_
          first | refine L_lss rfl rfl rfl (dtrue (by omega)) ?_ | refine L_lss rfl rfl rfl (dfalse (by omega)) ?_ | refine L_lss rfl rfl rfl rfl ?_
          refine RL_then ?_
          refine W_if_true rfl ?_
          refine W_skip' ?_
          refine Nx_then ?_
          refine W_seq ?_
          refine W_block ?_
          refine W_region ?_
          refine L_move rfl rfl ?_
          refine L_move rfl rfl ?_
          refine L_make1 (l := N) (c := N) rfl hs Try.underlying27 Try.ti28 rfl rfl hN' hN' (Nat.le_refl _) (by omega) (by omega) rfl ?_
          intro g w hg hng hs
          replace hs : HS wb w ((Bw, Row 27 vt) :: (g, Row 28 (List.replicate N (.complex .f64 0 0))) :: Ms) :=
            HS.mem_perm (L := ((Bw, Row 27 vt) :: Ms) ++ [(g, Row 28 (List.replicate N (.complex .f64 0 0)))]) hs (List.Perm.cons _ (List.perm_append_comm (l₂ := [_])))
          refine L_idx1 rfl Try.underlying39 Try.ti27 rfl rfl (by with_reducible first | exact natc_k _ | exact natc_a1 _ | exact natc_0 | exact natc_1 | exact natc_2 | exact natc_s1 _ (by omega) | exact natc_a2 _ | exact natc_add _ _ | exact natc_mul _ _ | exact natc (by omega)) (by omega) rfl ?_
          refine L_store hs (i := 0) rfl Try.ti27 rfl rfl (by first | rfl | exact add_lit0 _ _ | exact Addr.add_lit ..) (by omega) rfl ?_
          intro w hs
          try dsimp only [List.set_cons_succ, List.set_cons_zero, List.cons_append, List.nil_append] at hs
          refine RL_nil' ?_
          refine Nx_block ?_
          refine Nx_then ?_
          refine W_region ?_
          refine L_move rfl rfl ?_
          first | refine L_add rfl rfl rfl (wrp_i64 (by omega)) ?_ | refine L_add rfl rfl rfl rfl ?_
          refine L_assign rfl rfl ?_
          refine RL_nil' ?_
          refine Nx_loopP (i + 1, vt.set i (.slice (some ⟨g, 0, none⟩) N N), (g, Row 28 (List.replicate N (.complex .f64 0 0))) :: Ms, _) (is := [13, 14, 17, 18, 19, 20, 21]) (I' := (fun (i : Nat) (vt : List Value) (Ms : List (Nat × Obj)) (w : World) => (i ≤ 17) ∧ (vt.length = 17) ∧ (Own wb Ms) ∧ (∀ q, q < i → ∃ g, vt[q]? = some (.slice (some ⟨g, 0, none⟩) N N) ∧ (g, Row 28 (List.replicate N (.complex .f64 0 0))) ∈ Ms) ∧ (HS wb w ((Bw, Row 27 vt) :: Ms))) (i + 1) (vt.set i (.slice (some ⟨g, 0, none⟩) N N)) ((g, Row 28 (List.replicate N (.complex .f64 0 0))) :: Ms) (_)) rfl rfl rfl ?_ ?_
          · refine ⟨by omega, by simp [htl], Own.cons hg hOM, fun q hq => ?_, hs⟩
            by_cases hqi : q = i
            · subst hqi
              exact ⟨g, List.getElem?_set_self (by omega), List.mem_cons_self ..⟩
            · obtain ⟨g', e1, e2⟩ := hv q (by omega)
              exact ⟨g', by rw [List.getElem?_set_ne (Ne.symm hqi)]; exact e1, List.mem_cons_of_mem _ e2⟩
          · omega
        · obtain rfl : i = 17 := by omega
          have WW : RowsC w (some ⟨Bw, 0, none⟩) (List.replicate 17 (List.replicate N (0, 0))) vt := RowsC.rep (SlC.of_row (sp := []) (by rw [List.append_nil]; exact hs.get (i := 0) rfl)) htl (fun q hq => by
            obtain ⟨g, e1, e2⟩ := hv q hq
            exact ⟨g, e1, hs.has _ (List.mem_cons_of_mem _ e2)⟩)
          have hNb : Own wb ((Bw, Row 27 vt) :: Ms) := Own.cons hBw hOM
          replace R6 := R6.old hs hNb
          replace h1 := h1.nil (hs.forget hNb)
          clear hs hv hOM hNb hBw
          have hs := HS.refl w
          refine W_seq ?_
          refine W_seq ?_
          refine W_region ?_
          refine L_move rfl rfl ?_
          refine L_move rfl rfl ?_
          refine L_len rfl Try.underlying39 rfl ?_
          first | refine L_lss rfl rfl rfl (dtrue (by omega)) ?_ | refine L_lss rfl rfl rfl (dfalse (by omega)) ?_ | refine L_lss rfl rfl rfl rfl ?_
          refine RL_then ?_
          refine W_if_false rfl ?_
          refine W_exit' ?_
          refine Ex_then_exit ?_
          refine Ex_loop_exit ?_
          refine Ex_block_hit ?_
          refine Nx_then ?_
          refine W_seq ?_
          refine W_region ?_
          refine L_move rfl rfl ?_
          have hch : chkF (List.replicate 17 (List.replicate N (0, 0))) 0 = 3 := (chkF_rep (by decide)).trans (by rw [hN]; decide)
          refine L_call rfl Try.fun12 rfl (across_bad (some ⟨Bw, 0, none⟩) 17 17 _ vt w WW (List.length_replicate ..) (by decide) (fun i hi => by rw [rep_len hi, hN]; decide) (by rw [hch]; decide)) ?_
          rw [hch]
          rintro _ wc ⟨rfl, hsc⟩
          replace WW := WW.old hsc Own.nil
          replace R6 := R6.old hsc Own.nil
          replace h1 := h1.nil hsc
          clear hs hsc hch
          have hs := HS.refl wc
          -- the pulse too long
          refine L_move rfl rfl ?_
          refine L_extract rfl rfl rfl ?_
          refine L_extract rfl rfl rfl ?_
          refine L_assign rfl rfl ?_
          refine L_assign rfl rfl ?_
          refine RL_then ?_
          refine W_seq ?_
          refine W_sg Try.mixed ?_
          replace hs := hs.drewN 1
          refine SG_stage [0, 1] [] [2, 3, 4] (fun _ _ _ => False) (g' := 4) (by kernel_rfl) (by kernel_rfl) (fun _ _ _ _ _ h => h) hs ?_
          refine PL_val rfl (fun w => R_move rfl) ?_
          refine PL_val rfl (fun w => R_slice010 Try.underlying39 Try.ti27 rfl rfl (by with_reducible first | exact natc_k _ | exact natc_a1 _ | exact natc_0 | exact natc_1 | exact natc_2 | exact natc_s1 _ (by omega) | exact natc_a2 _ | exact natc_add _ _ | exact natc_mul _ _ | exact natc (by omega)) (by omega)) ?_
          refine PL_end ?_
          refine HL_tail ?_
          intro w hs
          refine L_make1 (l := 65) (c := 65) rfl hs Try.underlying27 Try.ti28 rfl rfl rfl rfl (Nat.le_refl _) (by omega) (by omega) rfl ?_; intro b163 w hb163 hnb163 hs
          have W6 := WW.take (m := 16)
          rw [List.take_replicate, show min 16 17 = 16 from rfl] at W6
          have hNc := Own.cons hb163 Own.nil (o := Row 28 (List.replicate 65 (.complex .f64 0 0)))
          replace W6 := W6.old hs hNc
          replace R6 := R6.old hs hNc
          replace h1 := h1.nil (hs.forget hNc)
          clear WW hs hNc
          have hs := HS.refl w
          have hch0 : chkF (List.replicate 16 (List.replicate N (0, 0))) 0 = 0 := (chkF_rep (by decide)).trans (by rw [hN]; decide)
          have hch : chkF (List.replicate 16 (List.replicate N (0, 0))) ((65 : Nat) : Int) = 3 := (chkF_rep (by decide)).trans (by rw [hN]; decide)
          refine L_call rfl Try.fun11 rfl (compress_long (some ⟨Bw, 0, none⟩) (some ⟨b163, 0, none⟩) 16 17 65 65 _ (vt.take 16) w W6 (List.length_replicate ..) (by decide) (fun i hi => by rw [rep_len hi, hN]; decide) (by rw [hch0]; decide) (by decide) (by rw [hch]; decide)) ?_
          rintro _ wd ⟨rfl, hsd⟩
          replace R6 := R6.old hsd Own.nil
          replace h1 := h1.nil hsd
          clear hs hsd hch hch0 W6
          have hs := HS.refl wd
          -- a row too long
          obtain ⟨M, hM⟩ : ∃ M, M = 16385 := ⟨_, rfl⟩
          have hM' : (16385 : Int) = ((M : Nat) : Int) := by omega
          refine L_move rfl rfl ?_
          refine RL_sg ?_
          refine SG_stage [5, 6, 7, 8] [] [] (fun _ _ _ => False) (g' := 0) (by kernel_rfl) (by kernel_rfl) (fun _ _ _ _ _ h => h) hs ?_
          refine PL_val rfl (fun w => R_extract rfl rfl) ?_
          refine PL_val rfl (fun w => R_extract rfl rfl) ?_
          refine PL_val rfl (fun w => R_assign rfl) ?_
          refine PL_val rfl (fun w => R_assign rfl) ?_
          refine PL_end ?_
          refine HL_tail ?_
          intro w hs
          refine RL_sg ?_
          refine SG_end (by kernel_rfl) ?_
          refine Nx_then ?_
          refine W_seq ?_
          refine W_region ?_
          refine L_make1 (l := M) (c := M) rfl hs Try.underlying27 Try.ti28 rfl rfl hM' hM' (Nat.le_refl _) (by omega) (by omega) rfl ?_; intro b168 w hb168 hnb168 hs
          refine L_buildSlice1 rfl hs Try.underlying39 Try.ti27 rfl (by decide) rfl rfl ?_
          intro b169 w hb169 hnb169 hs
          simp only [List.map_cons, List.map_nil] at hs
          try dsimp only [List.set_cons_succ, List.set_cons_zero, List.cons_append, List.nil_append] at hs
          replace hs : HS wd w [(b168, Row 28 (List.replicate M (.complex .f64 0 0))), (b169, Row 27 [.slice (some ⟨b168, 0, none⟩) M M])] := hs
          have hR : RowsC w (some ⟨b169, 0, none⟩) [List.replicate M (0, 0)] [.slice (some ⟨b168, 0, none⟩) M M] := rowsC1 (SlC.of_row (sp := []) (by rw [List.append_nil]; exact hs.get (i := 1) rfl)) (SlC.of_row (sp := []) (by rw [List.append_nil, cl_rep]; exact hs.get (i := 0) rfl)) (List.length_replicate ..) (Nat.le_refl _)
          have hNd : Own wd [(b168, Row 28 (List.replicate M (.complex .f64 0 0))), (b169, Row 27 [.slice (some ⟨b168, 0, none⟩) M M])] := Own.cons hb168 (Own.cons hb169 Own.nil)
          replace R6 := R6.old hs hNd
          replace h1 := h1.nil (hs.forget hNd)
          clear hs hNd
          have hs := HS.refl w
          have hch : chkF [List.replicate M (0, 0)] 0 = 3 := (chkF_rep (k := 1) (by decide)).trans (by rw [hM]; decide)
          refine L_call rfl Try.fun12 rfl (across_bad (some ⟨b169, 0, none⟩) 1 1 _ _ w hR rfl (by decide) (fun i hi => by match i, hi with | 0, _ => exact Nat.le_trans (Nat.le_of_eq (List.length_replicate ..)) (by omega)) (by rw [hch]; decide)) ?_
          rw [hch]
          rintro _ we ⟨rfl, hse⟩
          replace R6 := R6.old hse Own.nil
          replace h1 := h1.nil hse
          clear hs hse hch hR
          have hs := HS.refl we
          -- as many rows as may be
          refine L_move rfl rfl ?_
          refine L_extract rfl rfl rfl ?_
          refine L_extract rfl rfl rfl ?_
          refine L_assign rfl rfl ?_
          refine L_assign rfl rfl ?_
          refine RL_then ?_
          refine W_seq ?_
          refine W_sg Try.mixed ?_
          replace hs := hs.drewN 1
          refine SG_stage [0, 1] [] [2, 3, 4] (fun _ _ _ => False) (g' := 4) (by kernel_rfl) (by kernel_rfl) (fun _ _ _ _ _ h => h) hs ?_
          refine PL_val rfl (fun w => R_move rfl) ?_
          refine PL_val rfl (fun w => R_slice010 Try.underlying39 Try.ti27 rfl rfl (by with_reducible first | exact natc_k _ | exact natc_a1 _ | exact natc_0 | exact natc_1 | exact natc_2 | exact natc_s1 _ (by omega) | exact natc_a2 _ | exact natc_add _ _ | exact natc_mul _ _ | exact natc (by omega)) (by omega)) ?_
          refine PL_end ?_
          refine HL_tail ?_
          intro w hs
          refine L_make1 (l := 256) (c := 256) rfl hs Try.underlying44 Try.ti25 rfl rfl rfl rfl (Nat.le_refl _) (by omega) (by omega) rfl ?_; intro b176 w hb176 hnb176 hs
          replace hs : HS we w [(b176, Row 25 (fl (List.replicate 256 0)))] := by
            have e : fl (List.replicate 256 0) = List.replicate 256 (.float .f64 0) := by unfold fl; rw [List.map_replicate]
            rw [e]; exact hs
          have hW : SlC w (some ⟨b176, 0, none⟩) (fl (List.replicate 256 0)) := SlC.of_row (sp := []) (by rw [List.append_nil]; exact hs.get (i := 0) rfl)
          have hNe := Own.cons hb176 Own.nil (o := Row 25 (fl (List.replicate 256 0)))
          replace R6 := R6.old hs hNe
          replace h1 := h1.nil (hs.forget hNe)
          clear hs hNe
          have hs := HS.refl w
          have hch : chkF (List.replicate 256 (List.replicate 2 (0, 0))) ((256 : Nat) : Int) = 0 := (chkF_rep (by decide)).trans (by decide)
          refine L_call rfl Try.fun10 rfl (doppler_ok (some ⟨Bo, 0, none⟩) (some ⟨b176, 0, none⟩) 256 257 2 256 _ (vs.take 256) (List.replicate 256 0) w R6 (List.length_replicate ..) (by unfold widC; exact rep_len (by decide)) hch hW (List.length_replicate ..)) ?_
          rintro _ wf ⟨Af, Bf, vf, zf, rfl, hsf, hAf, hBf, _, _, _, _⟩
          have hNf : Own w [(Af, Row 28 (cl zf)), (Bf, Row 27 vf)] := Own.cons hAf (Own.cons hBf Own.nil)
          replace h1 := h1.nil (hsf.forget hNf)
          clear hs hsf hNf hch hW R6
          have hs := HS.refl wf
          refine L_move rfl rfl ?_
          refine RL_sg ?_
          refine SG_stage [5, 6, 7, 8] [] [] (fun _ _ _ => False) (g' := 0) (by kernel_rfl) (by kernel_rfl) (fun _ _ _ _ _ h => h) hs ?_
          refine PL_val rfl (fun w => R_extract rfl rfl) ?_
          refine PL_val rfl (fun w => R_extract rfl rfl) ?_
          refine PL_val rfl (fun w => R_assign rfl) ?_
          refine PL_val rfl (fun w => R_assign rfl) ?_
          refine PL_end ?_
          refine HL_tail ?_
          intro w hs
          refine RL_sg ?_
          refine SG_end (by kernel_rfl) ?_
          refine Nx_then ?_
          refine W_seq ?_
          refine W_region ?_
          refine L_move rfl rfl ?_
          refine L_move rfl rfl ?_
          first | (refine RL_want rfl rfl ?_; refine L_move rfl rfl ?_) | refine RL_skip rfl rfl rfl rfl ?_ | refine RL_skipU rfl rfl rfl ?_
          first | (refine RL_want rfl rfl ?_; (first | refine L_eql rfl rfl rfl (dtrue (by omega)) ?_ | refine L_eql rfl rfl rfl (dfalse (by omega)) ?_ | refine L_eql rfl rfl rfl rfl ?_)) | refine RL_skip rfl rfl rfl rfl ?_ | refine RL_skipU rfl rfl rfl ?_
          first | refine L_pick_t rfl rfl rfl ?_ | refine L_pick_f rfl rfl rfl ?_
          refine L_move rfl rfl ?_
          first | (refine RL_want rfl rfl ?_; refine L_move rfl rfl ?_) | refine RL_skip rfl rfl rfl rfl ?_ | refine RL_skipU rfl rfl rfl ?_
          first | (refine RL_want rfl rfl ?_; (first | refine L_eql rfl rfl rfl (dtrue (by omega)) ?_ | refine L_eql rfl rfl rfl (dfalse (by omega)) ?_ | refine L_eql rfl rfl rfl rfl ?_)) | refine RL_skip rfl rfl rfl rfl ?_ | refine RL_skipU rfl rfl rfl ?_
          first | refine L_pick_t rfl rfl rfl ?_ | refine L_pick_f rfl rfl rfl ?_
          refine L_move rfl rfl ?_
          first | (refine RL_want rfl rfl ?_; refine L_move rfl rfl ?_) | refine RL_skip rfl rfl rfl rfl ?_ | refine RL_skipU rfl rfl rfl ?_
          first | (refine RL_want rfl rfl ?_; refine L_len rfl Try.underlying39 rfl ?_) | refine RL_skip rfl rfl rfl rfl ?_ | refine RL_skipU rfl rfl rfl ?_
          first | (refine RL_want rfl rfl ?_; (first | refine L_eql rfl rfl rfl (dtrue (by omega)) ?_ | refine L_eql rfl rfl rfl (dfalse (by omega)) ?_ | refine L_eql rfl rfl rfl rfl ?_)) | refine RL_skip rfl rfl rfl rfl ?_ | refine RL_skipU rfl rfl rfl ?_
          first | refine L_pick_t rfl rfl rfl ?_ | refine L_pick_f rfl rfl rfl ?_
          refine L_move rfl rfl ?_
          first | (refine RL_want rfl rfl ?_; refine L_move rfl rfl ?_) | refine RL_skip rfl rfl rfl rfl ?_ | refine RL_skipU rfl rfl rfl ?_
          first | (refine RL_want rfl rfl ?_; (first | refine L_eql rfl rfl rfl (dtrue (by omega)) ?_ | refine L_eql rfl rfl rfl (dfalse (by omega)) ?_ | refine L_eql rfl rfl rfl rfl ?_)) | refine RL_skip rfl rfl rfl rfl ?_ | refine RL_skipU rfl rfl rfl ?_
          first | refine L_pick_t rfl rfl rfl ?_ | refine L_pick_f rfl rfl rfl ?_
          refine L_move rfl rfl ?_
          first | (refine RL_want rfl rfl ?_; refine L_move rfl rfl ?_) | refine RL_skip rfl rfl rfl rfl ?_ | refine RL_skipU rfl rfl rfl ?_
          first | (refine RL_want rfl rfl ?_; (first | refine L_eql rfl rfl rfl (dtrue (by omega)) ?_ | refine L_eql rfl rfl rfl (dfalse (by omega)) ?_ | refine L_eql rfl rfl rfl rfl ?_)) | refine RL_skip rfl rfl rfl rfl ?_ | refine RL_skipU rfl rfl rfl ?_
          first | refine L_pick_t rfl rfl rfl ?_ | refine L_pick_f rfl rfl rfl ?_
          refine L_move rfl rfl ?_
          first | (refine RL_want rfl rfl ?_; refine L_move rfl rfl ?_) | refine RL_skip rfl rfl rfl rfl ?_ | refine RL_skipU rfl rfl rfl ?_
          first | (refine RL_want rfl rfl ?_; (first | refine L_eql rfl rfl rfl (dtrue (by omega)) ?_ | refine L_eql rfl rfl rfl (dfalse (by omega)) ?_ | refine L_eql rfl rfl rfl rfl ?_)) | refine RL_skip rfl rfl rfl rfl ?_ | refine RL_skipU rfl rfl rfl ?_
          first | refine L_pick_t rfl rfl rfl ?_ | refine L_pick_f rfl rfl rfl ?_
          refine L_move rfl rfl ?_
          first | (refine RL_want rfl rfl ?_; refine L_move rfl rfl ?_) | refine RL_skip rfl rfl rfl rfl ?_ | refine RL_skipU rfl rfl rfl ?_
          first | (refine RL_want rfl rfl ?_; (first | refine L_eql rfl rfl rfl (dtrue (by omega)) ?_ | refine L_eql rfl rfl rfl (dfalse (by omega)) ?_ | refine L_eql rfl rfl rfl rfl ?_)) | refine RL_skip rfl rfl rfl rfl ?_ | refine RL_skipU rfl rfl rfl ?_
          first | refine L_pick_t rfl rfl rfl ?_ | refine L_pick_f rfl rfl rfl ?_
          refine L_move rfl rfl ?_
          replace h1 := h1.nil hs
          refine RL_want rfl rfl ?_
          refine L_call rfl Try.fun13 rfl (wakes9_ok _) ?_
          rintro _ wg ⟨rfl, hsg⟩
          first | refine L_pick_t rfl rfl rfl ?_ | refine L_pick_f rfl rfl rfl ?_
          refine L_assign rfl rfl ?_
          refine RL_then ?_
          refine W_ret' ?_
          refine Ex_done1 rfl rfl ?_
          exact ⟨_, rfl, rfl, h1.nil hsg⟩
end Go.Proofs.Ytihhloeakenfgaa
