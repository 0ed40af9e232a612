/-
  A part of the proof: what functions that the statement reaches do, or a plain law on what they do. Each theorem holds under its own premises alone.
-/
import Derived.Test.YtcfdmenmlemahaaTG11
namespace Go.Proofs.Ytcfdmenmlemahaa
open Go Go.Lk Go.Pr
theorem rowsI_lit {w : World} {b : Nat} {vs : List Value} {rows : List (List Int)} (hb : w.heap[b]? = some (Row 38 vs)) (hl : vs.length = rows.length)
    (h : ∀ i, i < rows.length → ∃ g, vs[i]? = some (SlN g (rows.getD i []).length) ∧ w.heap[g]? = some (Row 2 (il (rows.getD i []))) ∧ (rows.getD i []).length ≤ 17592186043904) : RowsI w (some ⟨b, 0, none⟩) rows vs := by
  refine ⟨SlC.of_row (sp := []) (by rw [List.append_nil]; exact hb), hl, fun i hi => ?_⟩
  obtain ⟨g, h1, h2, h3⟩ := h i hi
  exact ⟨_, _, h1, Nat.le_refl _, h3, SlC.of_row (sp := []) (by rw [List.append_nil]; exact h2)⟩
theorem rowsI_two {w : World} {b g0 g1 : Nat} {r0 r1 : List Int} (h0 : w.heap[g0]? = some (Row 2 (il r0))) (h1 : w.heap[g1]? = some (Row 2 (il r1))) (hb : w.heap[b]? = some (Row 38 [SlN g0 r0.length, SlN g1 r1.length])) (k0 : r0.length ≤ 9) (k1 : r1.length ≤ 9) : RowsI w (some ⟨b, 0, none⟩) [r0, r1] [SlN g0 r0.length, SlN g1 r1.length] :=
  rowsI_lit hb rfl fun i hi => match i, hi with
    | 0, _ => ⟨g0, rfl, h0, by show r0.length ≤ _; omega⟩
    | 1, _ => ⟨g1, rfl, h1, by show r1.length ≤ _; omega⟩
theorem rowsI_one {w : World} {b g0 : Nat} {r0 : List Int} (h0 : w.heap[g0]? = some (Row 2 (il r0))) (hb : w.heap[b]? = some (Row 38 [SlN g0 r0.length])) (k0 : r0.length ≤ 9) : RowsI w (some ⟨b, 0, none⟩) [r0] [SlN g0 r0.length] :=
  rowsI_lit hb rfl fun i hi => match i, hi with
    | 0, _ => ⟨g0, rfl, h0, by show r0.length ≤ _; omega⟩
theorem rowsI_three {w : World} {b g0 g1 g2 : Nat} {r0 r1 r2 : List Int} (h0 : w.heap[g0]? = some (Row 2 (il r0))) (h1 : w.heap[g1]? = some (Row 2 (il r1))) (h2 : w.heap[g2]? = some (Row 2 (il r2))) (hb : w.heap[b]? = some (Row 38 [SlN g0 r0.length, SlN g1 r1.length, SlN g2 r2.length])) (k0 : r0.length ≤ 9) (k1 : r1.length ≤ 9) (k2 : r2.length ≤ 9) : RowsI w (some ⟨b, 0, none⟩) [r0, r1, r2] [SlN g0 r0.length, SlN g1 r1.length, SlN g2 r2.length] :=
  rowsI_lit hb rfl fun i hi => match i, hi with
    | 0, _ => ⟨g0, rfl, h0, by show r0.length ≤ _; omega⟩
    | 1, _ => ⟨g1, rfl, h1, by show r1.length ≤ _; omega⟩
    | 2, _ => ⟨g2, rfl, h2, by show r2.length ≤ _; omega⟩
theorem works_ok (w0 : World) : Ret Try.prog 8 [] w0 fun v w' => v = .bool true ∧ HS w0 w' [] := by
  refine Ret.start fun w hs => ?_
  refine calls_of_W Try.func8 rfl rfl rfl ?_
  refine W_seq ?_
  refine W_region ?_
  refine L_assign rfl rfl ?_
  refine RL_then ?_
  refine W_seq ?_
  refine W_region ?_
  refine L_buildSlice rfl hs Try.underlying38 Try.ti2 rfl (by decide) rfl (by simp [Value.cells]) ?_
  intro b9 w hb9 hnb9 hs
  try simp only [List.flatMap_cons, List.flatMap_nil, cells_int, cells_float, cells_complex, cells_bool, cells_string, cells_pointer, cells_slice, cells_map, cells_agg, List.append_nil, List.set_cons_succ, List.set_cons_zero, List.cons_append, List.nil_append] at hs
  refine L_buildSlice rfl hs Try.underlying38 Try.ti2 rfl (by decide) rfl (by simp [Value.cells]) ?_
  intro b10 w hb10 hnb10 hs
  try simp only [List.flatMap_cons, List.flatMap_nil, cells_int, cells_float, cells_complex, cells_bool, cells_string, cells_pointer, cells_slice, cells_map, cells_agg, List.append_nil, List.set_cons_succ, List.set_cons_zero, List.cons_append, List.nil_append] at hs
  refine L_buildSlice rfl hs Try.underlying38 Try.ti2 rfl (by decide) rfl (by simp [Value.cells]) ?_
  intro b11 w hb11 hnb11 hs
  try simp only [List.flatMap_cons, List.flatMap_nil, cells_int, cells_float, cells_complex, cells_bool, cells_string, cells_pointer, cells_slice, cells_map, cells_agg, List.append_nil, List.set_cons_succ, List.set_cons_zero, List.cons_append, List.nil_append] at hs
  refine L_buildSlice rfl hs Try.underlying22 Try.ti38 rfl (by decide) rfl (by simp [Value.cells]) ?_
  intro b12 w hb12 hnb12 hs
  try simp only [List.flatMap_cons, List.flatMap_nil, cells_int, cells_float, cells_complex, cells_bool, cells_string, cells_pointer, cells_slice, cells_map, cells_agg, List.append_nil, List.set_cons_succ, List.set_cons_zero, List.cons_append, List.nil_append] at hs
  have hr : RowsI w (some ⟨b12, 0, none⟩) [[4, 1, 3], [2, 0, 5], [3, 2, 2]] _ := rowsI_three (hs.get (i := 0) rfl) (hs.get (i := 1) rfl) (hs.get (i := 2) rfl) (hs.get (i := 3) rfl) (by decide) (by decide) (by decide)
  refine L_call rfl Try.fun10 rfl (least_ok (some ⟨b12, 0, none⟩) 3 3 _ _ w hr rfl (by omega)) ?_
  rintro _ w1 ⟨v1, N1, ms, t, e, rfl, hs1, hbl1, hans⟩
  obtain ⟨rfl, rfl, rfl⟩ := l_works hans
  obtain ⟨qa, qc, rfl, _⟩ := hbl1.slice
  have h01 : HS w0 w1 [] := (hs.forget (Own.cons hb9 (Own.cons hb10 (Own.cons hb11 (Own.cons hb12 Own.nil))))).nil (hs1.forget hbl1.own)
  have hsl1 : SlC w1 qa (il [1, 0, 2]) := hbl1.slc (L := []) hs1
  clear hs hr hans hbl1 hs1
  have hs := HS.refl w1
  refine L_move rfl rfl ?_
  refine L_extract rfl rfl rfl ?_
  refine L_extract rfl rfl rfl ?_
  refine L_extract rfl rfl rfl ?_
  refine L_assign rfl rfl ?_
  refine L_assign rfl rfl ?_
  refine L_assign rfl rfl ?_
  refine RL_then ?_
  refine W_seq ?_
  refine W_region ?_
  refine L_buildSlice rfl hs Try.underlying38 Try.ti2 rfl (by decide) rfl (by simp [Value.cells]) ?_
  intro b18 w hb18 hnb18 hs
  try simp only [List.flatMap_cons, List.flatMap_nil, cells_int, cells_float, cells_complex, cells_bool, cells_string, cells_pointer, cells_slice, cells_map, cells_agg, List.append_nil, List.set_cons_succ, List.set_cons_zero, List.cons_append, List.nil_append] at hs
  refine L_buildSlice rfl hs Try.underlying38 Try.ti2 rfl (by decide) rfl (by simp [Value.cells]) ?_
  intro b19 w hb19 hnb19 hs
  try simp only [List.flatMap_cons, List.flatMap_nil, cells_int, cells_float, cells_complex, cells_bool, cells_string, cells_pointer, cells_slice, cells_map, cells_agg, List.append_nil, List.set_cons_succ, List.set_cons_zero, List.cons_append, List.nil_append] at hs
  refine L_buildSlice rfl hs Try.underlying22 Try.ti38 rfl (by decide) rfl (by simp [Value.cells]) ?_
  intro b20 w hb20 hnb20 hs
  try simp only [List.flatMap_cons, List.flatMap_nil, cells_int, cells_float, cells_complex, cells_bool, cells_string, cells_pointer, cells_slice, cells_map, cells_agg, List.append_nil, List.set_cons_succ, List.set_cons_zero, List.cons_append, List.nil_append] at hs
  have hr : RowsI w (some ⟨b20, 0, none⟩) [[5, -1], [3, -1]] _ := rowsI_two (hs.get (i := 0) rfl) (hs.get (i := 1) rfl) (hs.get (i := 2) rfl) (by decide) (by decide)
  refine L_call rfl Try.fun13 rfl (most_ok (some ⟨b20, 0, none⟩) 2 2 _ _ w hr rfl (by omega)) ?_
  rintro _ w2 ⟨v1, N1, ms, cnt, t, e, rfl, hs1, hbl1, hans⟩
  obtain ⟨rfl, rfl, rfl, rfl⟩ := m_works hans
  obtain ⟨qb, qd, rfl, _⟩ := hbl1.slice
  have h12 : HS w1 w2 [] := (hs.forget (Own.cons hb18 (Own.cons hb19 (Own.cons hb20 Own.nil)))).nil (hs1.forget hbl1.own)
  have hsl2 : SlC w2 qb (il [-1, 0]) := hbl1.slc (L := []) hs1
  replace hsl1 := hsl1.old h12 Own.nil
  clear hs hr hans hbl1 hs1
  have hs := HS.refl w2
  refine L_move rfl rfl ?_
  refine L_extract rfl rfl rfl ?_
  refine L_extract rfl rfl rfl ?_
  refine L_extract rfl rfl rfl ?_
  refine L_extract rfl rfl rfl ?_
  refine L_assign rfl rfl ?_
  refine L_assign rfl rfl ?_
  refine L_assign rfl rfl ?_
  refine L_assign rfl rfl ?_
  refine RL_then ?_
  refine W_seq ?_
  refine W_region ?_
  refine L_move rfl rfl ?_
  refine L_buildSlice rfl hs Try.underlying25 Try.ti3 rfl (by decide) rfl (by simp [Value.cells]) ?_
  intro b27 w hb27 hnb27 hs
  try simp only [List.flatMap_cons, List.flatMap_nil, cells_int, cells_float, cells_complex, cells_bool, cells_string, cells_pointer, cells_slice, cells_map, cells_agg, List.append_nil, List.set_cons_succ, List.set_cons_zero, List.cons_append, List.nil_append] at hs
  refine L_call rfl Try.fun12 rfl (same_ok qa (some ⟨b27, 0, none⟩) 3 3 qc 3 [1, 0, 2] [1, 0, 2] w (hsl1.old hs (Own.cons hb27 Own.nil)) (SlC.of_row (sp := []) (hs.get (i := 0) rfl)) rfl rfl (by omega)) ?_
  rintro _ w3 ⟨rfl, hs3⟩
  replace hs := hs.nil hs3
  rw [decide_eq_true rfl]
  refine L_move rfl rfl ?_
  first | (refine RL_want rfl rfl ?_; refine L_move rfl rfl ?_) | refine RL_skip rfl rfl rfl rfl ?_ | refine RL_skipU rfl rfl rfl ?_
  first | (refine RL_want rfl rfl ?_; (first | refine L_eql rfl rfl rfl (dtrue (by omega)) ?_ | refine L_eql rfl rfl rfl (dfalse (by omega)) ?_ | refine L_eql rfl rfl rfl rfl ?_)) | refine RL_skip rfl rfl rfl rfl ?_ | refine RL_skipU rfl rfl rfl ?_
  first | refine L_pick_t rfl rfl rfl ?_ | refine L_pick_f rfl rfl rfl ?_
  refine L_move rfl rfl ?_
  first | (refine RL_want rfl rfl ?_; refine L_move rfl rfl ?_) | refine RL_skip rfl rfl rfl rfl ?_ | refine RL_skipU rfl rfl rfl ?_
  first | (refine RL_want rfl rfl ?_; (first | refine L_eql rfl rfl rfl (dtrue (by omega)) ?_ | refine L_eql rfl rfl rfl (dfalse (by omega)) ?_ | refine L_eql rfl rfl rfl rfl ?_)) | refine RL_skip rfl rfl rfl rfl ?_ | refine RL_skipU rfl rfl rfl ?_
  first | refine L_pick_t rfl rfl rfl ?_ | refine L_pick_f rfl rfl rfl ?_
  refine L_move rfl rfl ?_
  first | (refine RL_want rfl rfl ?_; refine L_move rfl rfl ?_) | refine RL_skip rfl rfl rfl rfl ?_ | refine RL_skipU rfl rfl rfl ?_
  first | (refine RL_want rfl rfl ?_; refine L_buildSlice rfl hs Try.underlying25 Try.ti3 rfl (by decide) rfl (by simp [Value.cells]) ?_; intro b39 w hb39 hnb39 hs; try simp only [List.flatMap_cons, List.flatMap_nil, cells_int, cells_float, cells_complex, cells_bool, cells_string, cells_pointer, cells_slice, cells_map, cells_agg, List.append_nil, List.set_cons_succ, List.set_cons_zero, List.cons_append, List.nil_append] at hs) | refine RL_skip rfl rfl rfl rfl ?_ | refine RL_skipU rfl rfl rfl ?_
  refine RL_want rfl rfl ?_
  refine L_call rfl Try.fun12 rfl (same_ok qb (some ⟨b39, 0, none⟩) 2 2 qd 2 [-1, 0] [-1, 0] w (hsl2.old hs (Own.cons hb27 (Own.cons hb39 Own.nil))) (SlC.of_row (sp := []) (hs.get (i := 1) rfl)) rfl rfl (by omega)) ?_
  rintro _ w4 ⟨rfl, hs4⟩
  replace hs := hs.nil hs4
  rw [decide_eq_true rfl]
  first | refine L_pick_t rfl rfl rfl ?_ | refine L_pick_f rfl rfl rfl ?_
  refine L_move rfl rfl ?_
  first | (refine RL_want rfl rfl ?_; refine L_move rfl rfl ?_) | refine RL_skip rfl rfl rfl rfl ?_ | refine RL_skipU rfl rfl rfl ?_
  first | (refine RL_want rfl rfl ?_; (first | refine L_eql rfl rfl rfl (dtrue (by omega)) ?_ | refine L_eql rfl rfl rfl (dfalse (by omega)) ?_ | refine L_eql rfl rfl rfl rfl ?_)) | refine RL_skip rfl rfl rfl rfl ?_ | refine RL_skipU rfl rfl rfl ?_
  first | refine L_pick_t rfl rfl rfl ?_ | refine L_pick_f rfl rfl rfl ?_
  refine L_move rfl rfl ?_
  first | (refine RL_want rfl rfl ?_; refine L_move rfl rfl ?_) | refine RL_skip rfl rfl rfl rfl ?_ | refine RL_skipU rfl rfl rfl ?_
  first | (refine RL_want rfl rfl ?_; (first | refine L_eql rfl rfl rfl (dtrue (by omega)) ?_ | refine L_eql rfl rfl rfl (dfalse (by omega)) ?_ | refine L_eql rfl rfl rfl rfl ?_)) | refine RL_skip rfl rfl rfl rfl ?_ | refine RL_skipU rfl rfl rfl ?_
  first | refine L_pick_t rfl rfl rfl ?_ | refine L_pick_f rfl rfl rfl ?_
  refine L_move rfl rfl ?_
  first | (refine RL_want rfl rfl ?_; refine L_move rfl rfl ?_) | refine RL_skip rfl rfl rfl rfl ?_ | refine RL_skipU rfl rfl rfl ?_
  first | (refine RL_want rfl rfl ?_; (first | refine L_eql rfl rfl rfl (dtrue (by omega)) ?_ | refine L_eql rfl rfl rfl (dfalse (by omega)) ?_ | refine L_eql rfl rfl rfl rfl ?_)) | refine RL_skip rfl rfl rfl rfl ?_ | refine RL_skipU rfl rfl rfl ?_
  first | refine L_pick_t rfl rfl rfl ?_ | refine L_pick_f rfl rfl rfl ?_
  refine L_assign rfl rfl ?_
  refine RL_then ?_
  refine W_ret' ?_
  refine Ex_done1 rfl rfl ?_
  exact ⟨_, rfl, rfl, (h01.nil h12).nil (hs.forget (Own.cons hb27 (Own.cons hb39 Own.nil)))⟩
end Go.Proofs.Ytcfdmenmlemahaa
