/-
  A part of the proof: what functions that the statement reaches do, or a plain law on what they do. Each theorem holds under its own premises alone.
-/
import Derived.Test.YtfehgelggjpaaaaTW
namespace Go.Proofs.Ytfehgelggjpaaaa
open Go Go.Lk
theorem rweights_none (order : Int) (w : World) (h : order < 0 ∨ 8 < order) : Ret Try.prog 9 [.int .i64 order] w fun v w' => v = .slice none 0 0 ∧ w' = w := by
  refine calls_of_W Try.func9 rfl rfl rfl ?_
  by_cases h1 : order < 0
  · refine W_seq ?_
    refine W_region ?_
    refine L_assign rfl rfl ?_
    refine RL_then ?_
    refine W_seq ?_
    refine W_seq ?_
    refine W_region ?_
    refine L_move rfl rfl ?_
    first | refine L_lss rfl rfl rfl (dtrue (by omega)) ?_ | refine L_lss rfl rfl rfl (dfalse (by omega)) ?_ | refine L_lss rfl rfl rfl rfl ?_
    refine L_move rfl rfl ?_
    first | (refine RL_want rfl rfl ?_; refine L_move rfl rfl ?_) | refine RL_skip rfl rfl rfl rfl ?_ | refine RL_skipU rfl rfl rfl ?_
    first | (refine RL_want rfl rfl ?_; (first | refine L_gtr rfl rfl rfl (dtrue (by omega)) ?_ | refine L_gtr rfl rfl rfl (dfalse (by omega)) ?_ | refine L_gtr rfl rfl rfl rfl ?_)) | refine RL_skip rfl rfl rfl rfl ?_ | refine RL_skipU rfl rfl rfl ?_
    first | refine L_pick_t rfl rfl rfl ?_ | refine L_pick_f rfl rfl rfl ?_
    refine RL_then ?_
    refine W_if_true rfl ?_
    refine W_seq ?_
    refine W_region ?_
    refine L_assign rfl rfl ?_
    refine RL_then ?_
    refine W_ret' ?_
    refine Ex_then_ret ?_
    refine Ex_done1 rfl rfl ?_
    exact ⟨_, rfl, rfl, rfl⟩
  · refine W_seq ?_
    refine W_region ?_
    refine L_assign rfl rfl ?_
    refine RL_then ?_
    refine W_seq ?_
    refine W_seq ?_
    refine W_region ?_
    refine L_move rfl rfl ?_
    first | refine L_lss rfl rfl rfl (dtrue (by omega)) ?_ | refine L_lss rfl rfl rfl (dfalse (by omega)) ?_ | refine L_lss rfl rfl rfl rfl ?_
    refine L_move rfl rfl ?_
    first | (refine RL_want rfl rfl ?_; refine L_move rfl rfl ?_) | refine RL_skip rfl rfl rfl rfl ?_ | refine RL_skipU rfl rfl rfl ?_
    first | (refine RL_want rfl rfl ?_; (first | refine L_gtr rfl rfl rfl (dtrue (by omega)) ?_ | refine L_gtr rfl rfl rfl (dfalse (by omega)) ?_ | refine L_gtr rfl rfl rfl rfl ?_)) | refine RL_skip rfl rfl rfl rfl ?_ | refine RL_skipU rfl rfl rfl ?_
    first | refine L_pick_t rfl rfl rfl ?_ | refine L_pick_f rfl rfl rfl ?_
    refine RL_then ?_
    refine W_if_true rfl ?_
    refine W_seq ?_
    refine W_region ?_
    refine L_assign rfl rfl ?_
    refine RL_then ?_
    refine W_ret' ?_
    refine Ex_then_ret ?_
    refine Ex_done1 rfl rfl ?_
    exact ⟨_, rfl, rfl, rfl⟩
def rNext (l : List Int) : Nat → List Int
  | 0 => [1]
  | j + 1 => rNext l j ++ [IntKind.i64.wrap (l.getD j 0 + l.getD (j + 1) 0)]
def rOut : Nat → List Int
  | 0 => [1]
  | o + 1 => rNext (rOut o) o ++ [1]
theorem rNext_len (l : List Int) : ∀ j, (rNext l j).length = j + 1
  | 0 => rfl
  | j + 1 => by simp [rNext, rNext_len l j]
theorem rOut_len : ∀ o, (rOut o).length = o + 1
  | 0 => rfl
  | o + 1 => by simp [rOut, rNext_len]
def rSign (m : Nat) (l : List Int) : Nat → List Int
  | 0 => l
  | j + 1 => if (m - j) % 2 = 1 then (rSign m l j).set j (IntKind.i64.wrap (0 - (rSign m l j).getD j 0)) else rSign m l j
theorem rSign_len (m : Nat) (l : List Int) : ∀ j, (rSign m l j).length = l.length
  | 0 => rfl
  | j + 1 => by rw [rSign]; split <;> simp [rSign_len m l j]
theorem bl_one {w0 : World} {b : Nat} (hb : w0.heap.size ≤ b) (x : Int) : Bl w0 2 1 (.slice (some ⟨b, 0, none⟩) 1 1) 1 (il [x]) [(b, Row 2 (il [x]))] := by
  have := Bl.row (E := 2) (sz := 1) (n := 1) (cap := 1) (xs := il [x]) (sp := []) hb (by simp) (by simp) (Nat.le_refl _)
  simpa using this
theorem rweights_some (m : Nat) (w0 : World) (h : m ≤ 8) : Ret Try.prog 9 [.int .i64 m] w0 fun v w' => ∃ M, HS w0 w' M ∧ Bl w0 2 1 v (m + 1) (il (rSign m (rOut m) (m + 1))) M := by
  refine Ret.start fun w hs => ?_
  refine calls_of_W Try.func9 rfl rfl rfl ?_
  refine W_seq ?_
  refine W_region ?_
  refine L_assign rfl rfl ?_
  refine RL_then ?_
  refine W_seq ?_
  refine W_seq ?_
  refine W_region ?_
  refine L_move rfl rfl ?_
  first | refine L_lss rfl rfl rfl (dtrue (by omega)) ?_ | refine L_lss rfl rfl rfl (dfalse (by omega)) ?_ | refine L_lss rfl rfl rfl rfl ?_
  refine L_move rfl rfl ?_
  first | (refine RL_want rfl rfl ?_; refine L_move rfl rfl ?_) | refine RL_skip rfl rfl rfl rfl ?_ | refine RL_skipU rfl rfl rfl ?_
  first | (refine RL_want rfl rfl ?_; (first | refine L_gtr rfl rfl rfl (dtrue (by omega)) ?_ | refine L_gtr rfl rfl rfl (dfalse (by omega)) ?_ | refine L_gtr rfl rfl rfl rfl ?_)) | refine RL_skip rfl rfl rfl rfl ?_ | refine RL_skipU rfl rfl rfl ?_
  first | refine L_pick_t rfl rfl rfl ?_ | refine L_pick_f rfl rfl rfl ?_
  refine RL_then ?_
  refine W_if_false rfl ?_
  refine W_skip' ?_
  refine Nx_then ?_
  refine W_seq ?_
  refine W_region ?_
  refine L_buildSlice rfl hs Try.underlying22 Try.ti2 rfl (by decide) rfl (by simp [Value.cells]) ?_
  intro b14 w hb14 hnb14 hs
  try simp only [List.flatMap_cons, List.flatMap_nil, cells_int, cells_float, cells_complex, cells_bool, cells_string, cells_pointer, cells_slice, cells_map, cells_agg, List.append_nil, List.set_cons_succ, List.set_cons_zero, List.cons_append, List.nil_append] at hs
  refine L_assign rfl rfl ?_
  refine RL_then ?_
  refine W_seq ?_
  refine W_seq ?_
  refine W_region ?_
  refine L_assign rfl rfl ?_
  refine RL_then ?_
  refine W_block ?_
  have hs : HS w0 w [(b14, Row 2 (il [1]))] := hs
  have hbl := bl_one hb14 1
  refine W_loop4 (fun (o : Nat) (v : Value) (M : List (Nat × Obj)) (w : World) => [(0, .int .i64 m), (3, v), (4, .int .i64 o)]) (fun (o : Nat) (v : Value) (M : List (Nat × Obj)) (w : World) => w) (fun (o : Nat) (v : Value) (M : List (Nat × Obj)) (w : World) => (o ≤ m) ∧ (HS w0 w M) ∧ (Bl w0 2 1 v (o + 1) (il (rOut o)) M)) (fun (o : Nat) (v : Value) (M : List (Nat × Obj)) (w : World) => m - o) (0) (.slice (some ⟨b14, 0, none⟩) 1 1) ([(b14, Row 2 (il [1]))]) (w) (is := [0, 3, 4]) rfl rfl ?_ ?_
  · exact ⟨Nat.zero_le _, hs, hbl⟩
  · intro o v M w hI
    show W _ _ _ _ [(0, .int .i64 m), (3, v), (4, .int .i64 o)] w
    obtain ⟨ho, hs, hbl⟩ := hI
    have hl := rOut_len o
    by_cases hlt : o < m
    · refine W_seq ?_
      refine W_seq ?_
      refine W_region ?_
      refine L_move rfl rfl ?_
      refine L_move rfl rfl ?_
      first | refine L_lss rfl rfl rfl (dtrue (by omega)) ?_ | refine L_lss rfl rfl rfl (dfalse (by omega)) ?_ | refine L_lss rfl rfl rfl rfl ?_
      refine RL_then ?_
      refine W_if_true rfl ?_
      obtain ⟨g, cap, sp, rfl, rfl, hg, hc, hn⟩ := hbl.own_row (by omega)
      refine W_skip' ?_
      refine Nx_then ?_
      refine W_seq ?_
      refine W_block ?_
      refine W_seq ?_
      refine W_region ?_
      refine L_buildSlice rfl hs Try.underlying22 Try.ti2 rfl (by decide) rfl (by simp [Value.cells]) ?_
      intro b20 w hb20 hnb20 hs
      try simp only [List.flatMap_cons, List.flatMap_nil, cells_int, cells_float, cells_complex, cells_bool, cells_string, cells_pointer, cells_slice, cells_map, cells_agg, List.append_nil, List.set_cons_succ, List.set_cons_zero, List.cons_append, List.nil_append] at hs
      refine L_assign rfl rfl ?_
      refine RL_then ?_
      refine W_seq ?_
      refine W_seq ?_
      refine W_region ?_
      refine L_assign rfl rfl ?_
      refine RL_then ?_
      refine W_block ?_
      have hs : HS w0 w ([(g, Row 2 (il (rOut o) ++ sp))] ++ [(b20, Row 2 (il [1]))]) := hs
      have hbn := bl_one hb20 1
      refine W_loop4 (fun (j : Nat) (u : Value) (M : List (Nat × Obj)) (w : World) => [(0, .int .i64 m), (3, .slice (some ⟨g, 0, none⟩) (o + 1) cap), (4, .int .i64 o), (5, u), (6, .int .i64 ((j + 1 : Nat) : Int))]) (fun (j : Nat) (u : Value) (M : List (Nat × Obj)) (w : World) => w) (fun (j : Nat) (u : Value) (M : List (Nat × Obj)) (w : World) => (j ≤ o) ∧ (HS w0 w ([(g, Row 2 (il (rOut o) ++ sp))] ++ M)) ∧ (Bl w0 2 1 u (j + 1) (il (rNext (rOut o) j)) M)) (fun (j : Nat) (u : Value) (M : List (Nat × Obj)) (w : World) => o - j) (0) (.slice (some ⟨b20, 0, none⟩) 1 1) ([(b20, Row 2 (il [1]))]) (w) (is := [0, 3, 4, 5, 6]) rfl rfl ?_ ?_
      · exact ⟨Nat.zero_le _, hs, hbn⟩
      · intro j u M w hI
        show W _ _ _ _ [(0, .int .i64 m), (3, .slice (some ⟨g, 0, none⟩) (o + 1) cap), (4, .int .i64 o), (5, u), (6, .int .i64 ((j + 1 : Nat) : Int))] w
        obtain ⟨hj, hs, hbn⟩ := hI
        by_cases hlt2 : j < o
        · refine W_seq ?_
          refine W_seq ?_
          refine W_region ?_
          refine L_move rfl rfl ?_
          refine L_move rfl rfl ?_
          refine L_len rfl Try.underlying22 rfl ?_
          first | refine L_lss rfl rfl rfl (dtrue (by omega)) ?_ | refine L_lss rfl rfl rfl (dfalse (by omega)) ?_ | refine L_lss rfl rfl rfl rfl ?_
          refine RL_then ?_
          refine W_if_true rfl ?_
          refine W_skip' ?_
          refine Nx_then ?_
          refine W_seq ?_
          refine W_block ?_
          refine W_pht [0, 1, 2, 3, 4, 6, 7, 8] [5, 9, 10] [11, 12, 13] (fun _ _ _ => False) Try.mixed (by kernel_rfl) (fun _ _ _ _ _ h => h) hs ?_
          refine PL_val rfl (fun w => R_move rfl) ?_
          refine PL_val rfl (fun w => R_move rfl) ?_
          refine PL_val rfl (fun w => R_move rfl) ?_
          first | refine PL_val rfl (fun w => R_sub rfl rfl (wrp_i64 (by omega))) ?_ | refine PL_val rfl (fun w => R_sub rfl rfl rfl) ?_
          refine PL_val rfl (fun w => R_idx1 Try.underlying22 Try.ti2 rfl rfl (by with_reducible first | exact natc_k _ | exact natc_a1 _ | exact natc_0 | exact natc_1 | exact natc_2 | exact natc_s1 _ (by omega) | exact natc_a2 _ | exact natc_add _ _ | exact natc_mul _ _ | exact natc (by omega)) (by omega) rfl) ?_
          refine PL_val rfl (fun w => R_move rfl) ?_
          refine PL_val rfl (fun w => R_move rfl) ?_
          refine PL_val rfl (fun w => R_idx1 Try.underlying22 Try.ti2 rfl rfl (by with_reducible first | exact natc_k _ | exact natc_a1 _ | exact natc_0 | exact natc_1 | exact natc_2 | exact natc_s1 _ (by omega) | exact natc_a2 _ | exact natc_add _ _ | exact natc_mul _ _ | exact natc (by omega)) (by omega) rfl) ?_
          refine PL_end ?_
          refine HL_val rfl (fun w hs => R_load Try.one2 rfl (by exact hs.cellA (i := 0) rfl (il_get' (by omega)))) ?_
          refine HL_val rfl (fun w hs => R_load Try.one2 rfl (by exact hs.cellA (i := 0) rfl (il_get' (by omega)))) ?_
          first | refine HL_val rfl (fun w hs => R_add rfl rfl (wrp_i64 (by omega))) ?_ | refine HL_val rfl (fun w hs => R_add rfl rfl rfl) ?_
          refine HL_tail ?_
          intro w hs
          refine L_buildSlice rfl hs Try.underlying22 Try.ti2 rfl (by decide) rfl (by simp [Value.cells]) ?_
          intro b38 w hb38 hnb38 hs
          try simp only [List.flatMap_cons, List.flatMap_nil, cells_int, cells_float, cells_complex, cells_bool, cells_string, cells_pointer, cells_slice, cells_map, cells_agg, List.append_nil, List.set_cons_succ, List.set_cons_zero, List.cons_append, List.nil_append] at hs
          refine L_appendT rfl Try.underlying22 Try.ti2 rfl (L := [(g, Row 2 (il (rOut o) ++ sp))]) hs (by assumption) hbn rfl rfl rfl (by simp [Value.oneCell'] ) (by omega) (by omega) ?_
          intro v39 w M39 hs hbn
          refine L_assign rfl rfl ?_
          refine RL_nil' ?_
          refine Nx_block ?_
          refine Nx_then ?_
          refine W_region ?_
          refine L_move rfl rfl ?_
          first | refine L_add rfl rfl rfl (wrp_i64 (by omega)) ?_ | refine L_add rfl rfl rfl rfl ?_
          refine L_assign rfl rfl ?_
          refine RL_nil' ?_
          rw [Nat.add_sub_cancel, show il (rNext (rOut o) j) ++ [Value.int .i64 (IntKind.i64.wrap ((rOut o).getD j 0 + (rOut o).getD (j + 1) 0))] = il (rNext (rOut o) (j + 1)) by simp [il, rNext]] at hbn
          refine Nx_loopP (j + 1, v39, M39, w) (is := [0, 3, 4, 5, 6]) (I' := (fun (j : Nat) (u : Value) (M : List (Nat × Obj)) (w : World) => (j ≤ o) ∧ (HS w0 w ([(g, Row 2 (il (rOut o) ++ sp))] ++ M)) ∧ (Bl w0 2 1 u (j + 1) (il (rNext (rOut o) j)) M)) (j + 1) (v39) (M39) (w)) rfl rfl rfl ?_ ?_
          · exact ⟨by omega, hs, hbn⟩
          · omega
        · refine W_seq ?_
          refine W_seq ?_
          refine W_region ?_
          refine L_move rfl rfl ?_
          refine L_move rfl rfl ?_
          refine L_len rfl Try.underlying22 rfl ?_
          first | refine L_lss rfl rfl rfl (dtrue (by omega)) ?_ | refine L_lss rfl rfl rfl (dfalse (by omega)) ?_ | refine L_lss rfl rfl rfl rfl ?_
          refine RL_then ?_
          refine W_if_false rfl ?_
          obtain rfl : j = o := by omega
          refine W_exit' ?_
          refine Ex_then_exit ?_
          refine Ex_loop_exit ?_
          refine Ex_block_hit ?_
          refine Nx_then ?_
          refine W_region ?_
          refine L_move rfl rfl ?_
          refine L_buildSlice rfl hs Try.underlying22 Try.ti2 rfl (by decide) rfl (by simp [Value.cells]) ?_
          intro b41 w hb41 hnb41 hs
          try simp only [List.flatMap_cons, List.flatMap_nil, cells_int, cells_float, cells_complex, cells_bool, cells_string, cells_pointer, cells_slice, cells_map, cells_agg, List.append_nil, List.set_cons_succ, List.set_cons_zero, List.cons_append, List.nil_append] at hs
          refine L_appendT rfl Try.underlying22 Try.ti2 rfl (L := [(g, Row 2 (il (rOut j) ++ sp))]) hs (by assumption) hbn rfl rfl rfl (by simp [Value.oneCell'] ) (by omega) (by omega) ?_
          intro v42 w M42 hs hbn
          refine L_assign rfl rfl ?_
          refine RL_nil' ?_
          refine Nx_block ?_
          refine Nx_then ?_
          refine W_region ?_
          refine L_move rfl rfl ?_
          first | refine L_add rfl rfl rfl (wrp_i64 (by omega)) ?_ | refine L_add rfl rfl rfl rfl ?_
          refine L_assign rfl rfl ?_
          refine RL_nil' ?_
          have hs : HS w0 w M42 := hs.dropL (Own.cons hg Own.nil)
          rw [show il (rNext (rOut j) j) ++ [Value.int .i64 1] = il (rOut (j + 1)) by simp [il, rOut]] at hbn
          refine Nx_loopP (j + 1, v42, M42, w) (is := [0, 3, 4]) (I' := (fun (o : Nat) (v : Value) (M : List (Nat × Obj)) (w : World) => (o ≤ m) ∧ (HS w0 w M) ∧ (Bl w0 2 1 v (o + 1) (il (rOut o)) M)) (j + 1) (v42) (M42) (w)) rfl rfl rfl ?_ ?_
          · exact ⟨by omega, hs, hbn⟩
          · omega
    · refine W_seq ?_
      refine W_seq ?_
      refine W_region ?_
      refine L_move rfl rfl ?_
      refine L_move rfl rfl ?_
      first | refine L_lss rfl rfl rfl (dtrue (by omega)) ?_ | refine L_lss rfl rfl rfl (dfalse (by omega)) ?_ | refine L_lss rfl rfl rfl rfl ?_
      refine RL_then ?_
      refine W_if_false rfl ?_
      obtain rfl : o = m := by omega
      obtain ⟨g, cap, sp, rfl, rfl, hg, hc, hn⟩ := hbl.own_row (by omega)
      refine W_exit' ?_
      refine Ex_then_exit ?_
      refine Ex_loop_exit ?_
      refine Ex_block_hit ?_
      refine Nx_then ?_
      refine W_seq ?_
      refine W_seq ?_
      refine W_region ?_
      refine L_assign rfl rfl ?_
      refine RL_then ?_
      refine W_block ?_
      refine W_loop2 (fun (j : Nat) (w : World) => [(0, .int .i64 o), (3, .slice (some ⟨g, 0, none⟩) (o + 1) cap), (7, .int .i64 j)]) (fun (j : Nat) (w : World) => w) (fun (j : Nat) (w : World) => (j ≤ o + 1) ∧ (HS w0 w [(g, Row 2 (il (rSign o (rOut o) j) ++ sp))])) (fun (j : Nat) (w : World) => o + 1 - j) (0) (w) (is := [0, 3, 7]) rfl rfl ?_ ?_
      · exact ⟨Nat.zero_le _, hs⟩
      · intro j w hI
        show W _ _ _ _ [(0, .int .i64 o), (3, .slice (some ⟨g, 0, none⟩) (o + 1) cap), (7, .int .i64 j)] w
        obtain ⟨hj, hs⟩ := hI
        have hl2 := rSign_len o (rOut o) j
        by_cases hlt2 : j < o + 1
        · refine W_seq ?_
          refine W_seq ?_
          refine W_region ?_
          refine L_move rfl rfl ?_
          refine L_move rfl rfl ?_
          refine L_len rfl Try.underlying22 rfl ?_
          first | refine L_lss rfl rfl rfl (dtrue (by omega)) ?_ | refine L_lss rfl rfl rfl (dfalse (by omega)) ?_ | refine L_lss rfl rfl rfl rfl ?_
          refine RL_then ?_
          refine W_if_true rfl ?_
          refine W_skip' ?_
          refine Nx_then ?_
          refine W_seq ?_
          refine W_block ?_
          refine W_seq ?_
          refine W_region ?_
          refine L_move rfl rfl ?_
          refine L_move rfl rfl ?_
          first | refine L_sub rfl rfl rfl (wrp_i64 (by omega)) ?_ | refine L_sub rfl rfl rfl rfl ?_
          refine L_rem rfl rfl rfl (by omega) ?_
          first | refine L_eql rfl rfl rfl (dtrue (by omega)) ?_ | refine L_eql rfl rfl rfl (dfalse (by omega)) ?_ | refine L_eql rfl rfl rfl rfl ?_
          refine RL_then ?_
          by_cases hodd : (o - j) % 2 = 1
          · refine W_set 53 (v' := .bool true) rfl (congrArg Value.bool (dtrue (by rw [Int.tmod_eq_emod_of_nonneg (by omega)]; omega))) ?_
            refine W_if_true rfl ?_
            refine W_region ?_
            refine L_move rfl rfl ?_
            refine L_move rfl rfl ?_
            refine L_move rfl rfl ?_
            refine L_move rfl rfl ?_
            refine L_idx1 rfl Try.underlying22 Try.ti2 rfl rfl (by with_reducible first | exact natc_k _ | exact natc_a1 _ | exact natc_0 | exact natc_1 | exact natc_2 | exact natc_s1 _ (by omega) | exact natc_a2 _ | exact natc_add _ _ | exact natc_mul _ _ | exact natc (by omega)) (by omega) rfl ?_
            refine L_load rfl Try.one2 rfl (by exact hs.cellA (i := 0) rfl (il_get' (by omega))) ?_
            first | refine L_neg rfl rfl (wrp_i64 (by omega)) ?_ | refine L_neg rfl rfl rfl ?_
            refine L_idx1 rfl Try.underlying22 Try.ti2 rfl rfl (by with_reducible first | exact natc_k _ | exact natc_a1 _ | exact natc_0 | exact natc_1 | exact natc_2 | exact natc_s1 _ (by omega) | exact natc_a2 _ | exact natc_add _ _ | exact natc_mul _ _ | exact natc (by omega)) (by omega) rfl ?_
            refine L_store hs (i := 0) rfl Try.ti2 rfl rfl (by first | rfl | exact add_lit0 _ _) (by first | omega | (simp; done) | (simp; omega)) rfl ?_
            intro w hs
            try dsimp only [List.set_cons_succ, List.set_cons_zero, List.cons_append, List.nil_append] at hs
            refine RL_nil' ?_
            refine Nx_block ?_
            refine Nx_then ?_
            refine W_region ?_
            refine L_move rfl rfl ?_
            first | refine L_add rfl rfl rfl (wrp_i64 (by omega)) ?_ | refine L_add rfl rfl rfl rfl ?_
            refine L_assign rfl rfl ?_
            refine RL_nil' ?_
            rw [il_set' _ _ _ _ (by omega)] at hs
            refine Nx_loopP (j + 1, w) (is := [0, 3, 7]) (I' := (fun (j : Nat) (w : World) => (j ≤ o + 1) ∧ (HS w0 w [(g, Row 2 (il (rSign o (rOut o) j) ++ sp))])) (j + 1) (w)) rfl rfl rfl ?_ ?_
            · exact ⟨by omega, by rw [rSign, if_pos hodd]; exact hs⟩
            · omega
          · refine W_set 53 (v' := .bool false) rfl (congrArg Value.bool (dfalse (by rw [Int.tmod_eq_emod_of_nonneg (by omega)]; omega))) ?_
            refine W_if_false rfl ?_
            refine W_skip' ?_
            refine Nx_block ?_
            refine Nx_then ?_
            refine W_region ?_
            refine L_move rfl rfl ?_
            first | refine L_add rfl rfl rfl (wrp_i64 (by omega)) ?_ | refine L_add rfl rfl rfl rfl ?_
            refine L_assign rfl rfl ?_
            refine RL_nil' ?_
            refine Nx_loopP (j + 1, w) (is := [0, 3, 7]) (I' := (fun (j : Nat) (w : World) => (j ≤ o + 1) ∧ (HS w0 w [(g, Row 2 (il (rSign o (rOut o) j) ++ sp))])) (j + 1) (w)) rfl rfl rfl ?_ ?_
            · exact ⟨by omega, by rw [rSign, if_neg hodd]; exact hs⟩
            · omega
        · refine W_seq ?_
          refine W_seq ?_
          refine W_region ?_
          refine L_move rfl rfl ?_
          refine L_move rfl rfl ?_
          refine L_len rfl Try.underlying22 rfl ?_
          first | refine L_lss rfl rfl rfl (dtrue (by omega)) ?_ | refine L_lss rfl rfl rfl (dfalse (by omega)) ?_ | refine L_lss rfl rfl rfl rfl ?_
          refine RL_then ?_
          refine W_if_false rfl ?_
          obtain rfl : j = o + 1 := by omega
          refine W_exit' ?_
          refine Ex_then_exit ?_
          refine Ex_loop_exit ?_
          refine Ex_block_hit ?_
          refine Nx_then ?_
          refine W_seq ?_
          refine W_region ?_
          refine L_move rfl rfl ?_
          refine L_assign rfl rfl ?_
          refine RL_then ?_
          refine W_ret' ?_
          refine Ex_done1 rfl rfl ?_
          refine ⟨_, rfl, [(g, Row 2 (il (rSign o (rOut o) (o + 1)) ++ sp))], hs, .row hg (by simp; omega) ?_ hn⟩
          rw [← hc]; simp [hl2]
end Go.Proofs.Ytfehgelggjpaaaa
