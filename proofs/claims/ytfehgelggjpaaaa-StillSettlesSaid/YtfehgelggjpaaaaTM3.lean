/-
  A part of the proof: what functions that the statement reaches do, or a plain law on what they do. Each theorem holds under its own premises alone.
-/
import Derived.Test.YtfehgelggjpaaaaTM2
namespace Go.Proofs.Ytfehgelggjpaaaa
open Go Go.Lk
/-- what a feeding leaves at a gate -/
def gD (row l0 : List Nat) (j : Nat) : Nat := fop .sub (row.getD j 0) (l0.getD j 0)
def gL (s : Nat) (row l0 : List Nat) (j : Nat) : Nat := fop .add (l0.getD j 0) (fop .mul s (gD row l0 j))
theorem feed_nil (r : Value) (w : World) : Ret Try.prog 16 [.pointer none, r] w fun v w' => v = .tuple #[.slice none 0 0, .int .i64 1] ∧ w' = w := by
  refine calls_of_W Try.func16 rfl rfl rfl ?_
  refine W_seq ?_
  refine W_region ?_
  refine L_assign rfl rfl ?_
  refine L_assign rfl rfl ?_
  refine RL_then ?_
  refine W_seq ?_
  refine W_block ?_
  refine W_seq ?_
  refine W_region ?_
  refine L_move rfl rfl ?_
  refine L_ptrNil rfl Try.underlying40 rfl rfl ?_
  refine L_assign rfl rfl ?_
  refine RL_then ?_
  refine W_if_true rfl ?_
  refine W_seq ?_
  refine W_region ?_
  refine L_assign rfl rfl ?_
  refine L_assign rfl rfl ?_
  refine RL_then ?_
  refine W_ret' ?_
  refine Ex_block_ret ?_
  refine Ex_then_ret ?_
  refine Ex_done2 rfl rfl rfl ?_
  exact ⟨_, rfl, rfl, rfl⟩
theorem feed_len (b g k s : Nat) (fed : Bool) (ls : List Nat) (a : Option Addr) (n c : Nat) (w : World) (hm : IsMap w 60 b g k s fed ls) (h : n ≠ k) : Ret Try.prog 16 [.pointer (some ⟨b, 0, none⟩), .slice a n c] w fun v w' => v = .tuple #[.slice none 0 0, .int .i64 5] ∧ w' = w := by
  refine calls_of_W Try.func16 rfl rfl rfl ?_
  have hb := hm.box
  refine W_seq ?_
  refine W_region ?_
  refine L_assign rfl rfl ?_
  refine L_assign rfl rfl ?_
  refine RL_then ?_
  refine W_seq ?_
  refine W_block ?_
  refine W_seq ?_
  refine W_region ?_
  refine L_move rfl rfl ?_
  refine L_ptrNil rfl Try.underlying40 rfl rfl ?_
  refine L_assign rfl rfl ?_
  refine RL_then ?_
  refine W_if_false rfl ?_
  refine W_seq ?_
  refine W_region ?_
  refine L_move rfl rfl ?_
  refine L_len rfl Try.underlying39 rfl ?_
  refine L_move rfl rfl ?_
  refine L_nilCheck rfl rfl ?_
  refine L_fieldAddr rfl (off := 0) Try.underlying60 rfl rfl Try.ti39 rfl ?_
  refine L_load rfl Try.one39 rfl (by rw [add_lit0]; exact Lk.cell_of_row hb rfl) ?_
  refine L_len rfl Try.underlying39 rfl ?_
  first | refine L_neq rfl rfl rfl (dtrue (by omega)) ?_ | refine L_neq rfl rfl rfl (dfalse (by omega)) ?_ | refine L_neq rfl rfl rfl rfl ?_
  refine L_assign rfl rfl ?_
  refine RL_then ?_
  refine W_if_true rfl ?_
  refine W_seq ?_
  refine W_region ?_
  refine L_assign rfl rfl ?_
  refine L_assign rfl rfl ?_
  refine RL_then ?_
  refine W_ret' ?_
  refine Ex_block_ret ?_
  refine Ex_then_ret ?_
  refine Ex_done2 rfl rfl rfl ?_
  exact ⟨_, rfl, rfl, rfl⟩
theorem feed_ok (b g k s : Nat) (fed : Bool) (ls row l0 : List Nat) (a : Option Addr) (c : Nat) (w0 : World) (hm : IsMap w0 60 b g k s fed ls) (hgb : g ≠ b) (hrow : SlC w0 a (fl row)) (hk : row.length = k) (h1 : 1 ≤ k) (h2 : k ≤ 16384) (ha : (aD a).block ≠ g ∧ (aD a).block ≠ b) (hl0 : l0 = if fed then ls else row) :
    Ret Try.prog 16 [.pointer (some ⟨b, 0, none⟩), .slice a k c] w0 fun v w' => ∃ q out ls', v = .tuple #[.slice (some ⟨q, 0, none⟩) k k, .int .i64 0] ∧ HS w0 w' (MapL 60 g b k s true ls' ++ [(q, Row 35 (fl out))]) ∧ w0.heap.size ≤ q ∧ out.length = k ∧ ls'.length = k ∧ (∀ j, j < k → cn (out.getD j 0) = gD row l0 j) ∧ ∀ j, j < k → cn (ls'.getD j 0) = gL s row l0 j := by
  have hs : HS w0 w0 (MapL 60 g b k s fed ls) := HS.named (by simp [hm.row, hm.box]) (by simp [hgb])
  have hlen := hm.len
  have hao : a = some (aD a) := hrow.ao (by simp [hk]; omega)
  have hrs : (aD a).block < w0.heap.size := World.block_lt_of_cell? w0 _ (hrow.2 0 _ (fl_get (by omega)))
  have hl0l : l0.length = k := by rw [hl0]; split <;> assumption
  have hrow0 : ∀ {w : World} {q : List (Nat × Obj)} {l : List Nat} {v : Value}, HS w0 w ((g, Row 35 (fl l)) :: (b, Row 60 [.slice (some ⟨g, 0, none⟩) k k, .float .f64 s, v]) :: q) → Own w0 q → SlC w a (fl row) := by
    intro w q l v hs ho
    refine ⟨hrow.1, fun j v hv => hs.oldcell (hrow.2 j v hv) ?_⟩
    have := ho.notin hrs
    simp only [List.map_cons, List.mem_cons, not_or]
    refine ⟨?_, ?_, ?_⟩
    · rw [Lk.block_add]; exact ha.1
    · rw [Lk.block_add]; exact ha.2
    · rw [Lk.block_add]; exact this
  refine calls_of_W Try.func16 rfl rfl rfl ?_
  refine W_seq ?_
  refine W_region ?_
  refine L_assign rfl rfl ?_
  refine L_assign rfl rfl ?_
  refine RL_then ?_
  refine W_seq ?_
  refine W_block ?_
  refine W_seq ?_
  refine W_region ?_
  refine L_move rfl rfl ?_
  refine L_ptrNil rfl Try.underlying40 rfl rfl ?_
  refine L_assign rfl rfl ?_
  refine RL_then ?_
  refine W_if_false rfl ?_
  refine W_seq ?_
  refine W_region ?_
  refine L_move rfl rfl ?_
  refine L_len rfl Try.underlying39 rfl ?_
  refine L_move rfl rfl ?_
  refine L_nilCheck rfl rfl ?_
  refine L_fieldAddr rfl (off := 0) Try.underlying60 rfl rfl Try.ti39 rfl ?_
  refine L_load rfl Try.one39 rfl (by exact hs.cellA (i := 1) rfl rfl) ?_
  refine L_len rfl Try.underlying39 rfl ?_
  first | refine L_neq rfl rfl rfl (dtrue (by omega)) ?_ | refine L_neq rfl rfl rfl (dfalse (by omega)) ?_ | refine L_neq rfl rfl rfl rfl ?_
  refine L_assign rfl rfl ?_
  refine RL_then ?_
  refine W_if_false rfl ?_
  refine W_skip' ?_
  refine Nx_block ?_
  refine Nx_then ?_
  refine W_seq ?_
  refine W_seq ?_
  refine W_region ?_
  refine L_move rfl rfl ?_
  refine L_nilCheck rfl rfl ?_
  refine L_fieldAddr rfl (off := 2) Try.underlying60 rfl rfl Try.ti4 rfl ?_
  refine L_load rfl Try.one4 rfl (by exact hs.cellA (i := 1) rfl rfl) ?_
  refine L_not rfl rfl ?_
  refine RL_then ?_
  refine W_cut1 (fun (w : World) => [(0, .pointer (some ⟨b, 0, none⟩)), (1, .slice a k c)]) (fun (w : World) => w) (fun (w : World) => (HS w0 w (MapL 60 g b k s true l0))) ?_ ?_
  · cases fed
    · refine W_if_true rfl ?_
      refine W_seq ?_
      refine W_region ?_
      refine L_move rfl rfl ?_
      refine L_nilCheck rfl rfl ?_
      refine L_fieldAddr rfl (off := 0) Try.underlying60 rfl rfl Try.ti39 rfl ?_
      refine L_load rfl Try.one39 rfl (by exact hs.cellA (i := 1) rfl rfl) ?_
      refine L_move rfl rfl ?_
      have hsl := hrow0 hs Own.nil
      refine L_copy0 rfl Try.underlying39 Try.ti35 hs (i := 0) rfl rfl rfl hsl (by simp [hk]) (Nat.le_refl _) (by simp [hlen]) (fl_one _) ?_
      intro w hs
      rw [show (fl row ++ (fl ls).drop k) = fl l0 by simp [hl0, List.drop_eq_nil_of_le, hlen]] at hs
      simp only [List.set_cons_zero] at hs
      refine RL_then ?_
      refine W_region ?_
      refine L_move rfl rfl ?_
      refine L_nilCheck rfl rfl ?_
      refine L_fieldAddr rfl (off := 2) Try.underlying60 rfl rfl Try.ti4 rfl ?_
      refine L_store hs (i := 1) rfl Try.ti4 rfl rfl (by first | rfl | exact add_lit0 _ _) (by first | omega | (simp; done) | (simp; omega)) rfl ?_
      intro w hs
      try dsimp only [List.set_cons_succ, List.set_cons_zero, List.cons_append, List.nil_append] at hs
      refine RL_nil' ?_
      refine Nx_cutP (w) (is := [0, 1]) (I' := (fun (w : World) => (HS w0 w (MapL 60 g b k s true l0))) (w)) rfl rfl rfl ?_
      exact hs
    · refine W_if_false rfl ?_
      obtain rfl : l0 = ls := by simpa using hl0
      refine W_skip' ?_
      refine Nx_cutP (w0) (is := [0, 1]) (I' := (fun (w : World) => (HS w0 w (MapL 60 g b k s true l0))) (w0)) rfl rfl rfl ?_
      exact hs
  · intro w hI
    show W _ _ _ _ [(0, .pointer (some ⟨b, 0, none⟩)), (1, .slice a k c)] w
    have hs : HS w0 w (MapL 60 g b k s true l0) := hI
    refine W_seq ?_
    refine W_region ?_
    refine L_move rfl rfl ?_
    refine L_len rfl Try.underlying39 rfl ?_
    refine L_make1 rfl hs Try.underlying39 Try.ti35 rfl rfl (by with_reducible first | exact natc_k _ | exact natc_a1 _ | exact natc_0 | exact natc_1 | exact natc_2 | exact natc_s1 _ (by omega) | exact natc_a2 _ | exact natc_add _ _ | exact natc_mul _ _ | exact natc (by omega)) (by with_reducible first | exact natc_k _ | exact natc_a1 _ | exact natc_0 | exact natc_1 | exact natc_2 | exact natc_s1 _ (by omega) | exact natc_a2 _ | exact natc_add _ _ | exact natc_mul _ _ | exact natc (by omega)) (by omega) (by omega) (by omega) rfl ?_
    intro b38 w hb38 hnb38 hs
    try dsimp only [List.set_cons_succ, List.set_cons_zero, List.cons_append, List.nil_append] at hs
    refine L_assign rfl rfl ?_
    refine RL_then ?_
    refine W_seq ?_
    refine W_seq ?_
    refine W_region ?_
    refine L_move rfl rfl ?_
    refine L_len rfl Try.underlying39 rfl ?_
    refine L_move rfl rfl ?_
    refine RL_then ?_
    refine W_block ?_
    rw [fl_rep] at hs
    obtain ⟨q, hq⟩ : ∃ q, q = b38 := ⟨_, rfl⟩
    rw [← hq] at hb38 hs ⊢
    refine W_loop4 (fun (i : Nat) (xs : List Nat) (ls : List Nat) (w : World) => [(0, .pointer (some ⟨b, 0, none⟩)), (6, .slice (some ⟨q, 0, none⟩) k k), (39, .slice a k c), (40, .int .i64 k), (41, .int .i64 i)]) (fun (i : Nat) (xs : List Nat) (ls : List Nat) (w : World) => w) (fun (i : Nat) (xs : List Nat) (ls : List Nat) (w : World) => (i ≤ k) ∧ (xs.length = k) ∧ (ls.length = k) ∧ (∀ j, j < i → cn (xs.getD j 0) = gD row l0 j) ∧ (∀ j, j < i → cn (ls.getD j 0) = gL s row l0 j) ∧ (∀ j, i ≤ j → ls.getD j 0 = l0.getD j 0) ∧ (HS w0 w (MapL 60 g b k s true ls ++ [(q, Row 35 (fl xs))]))) (fun (i : Nat) (xs : List Nat) (ls : List Nat) (w : World) => k - i) (0) (List.replicate k 0) (l0) (w) (is := [0, 6, 39, 40, 41]) rfl rfl ?_ ?_
    · exact ⟨Nat.zero_le _, by simp, hl0l, fun j hj => absurd hj (Nat.not_lt_zero j), fun j hj => absurd hj (Nat.not_lt_zero j), fun _ _ => rfl, hs⟩
    · intro i xs ls w hI
      show W _ _ _ _ [(0, .pointer (some ⟨b, 0, none⟩)), (6, .slice (some ⟨q, 0, none⟩) k k), (39, .slice a k c), (40, .int .i64 k), (41, .int .i64 i)] w
      obtain ⟨hi, hxl, hll, hD, hL, hR, hs⟩ := hI
      replace hs : HS w0 w [(g, Row 35 (fl ls)), (b, Row 60 [.slice (some ⟨g, 0, none⟩) k k, .float .f64 s, .bool true]), (q, Row 35 (fl xs))] := hs
      by_cases hlt : i < k
      · have hsl := hrow0 hs (Own.cons hb38 Own.nil)
        refine W_seq ?_
        refine W_region ?_
        first | refine L_lss rfl rfl rfl (dtrue (by omega)) ?_ | refine L_lss rfl rfl rfl (dfalse (by omega)) ?_ | refine L_lss rfl rfl rfl rfl ?_
        refine RL_then ?_
        refine W_seq ?_
        refine W_if_true rfl ?_
        refine W_skip' ?_
        refine Nx_then ?_
        refine W_seq ?_
        refine W_block ?_
        refine W_seq ?_
        refine W_region ?_
        refine L_move rfl rfl ?_
        refine L_idx1 rfl Try.underlying39 Try.ti35 rfl rfl (by with_reducible first | exact natc_k _ | exact natc_a1 _ | exact natc_0 | exact natc_1 | exact natc_2 | exact natc_s1 _ (by omega) | exact natc_a2 _ | exact natc_add _ _ | exact natc_mul _ _ | exact natc (by omega)) (by omega) (by first | rfl | exact hao) ?_
        refine L_load rfl Try.one35 rfl (by first | exact hsl.get (fl_get (by omega)) | exact hs.cellA (i := 1) rfl rfl | exact hs.cellA (i := 0) rfl (fl_get (by omega))) ?_
        refine L_assign rfl rfl ?_
        refine L_assign rfl rfl ?_
        refine RL_then ?_
        refine W_seq ?_
        refine W_region ?_
        refine L_move rfl rfl ?_
        refine L_move rfl rfl ?_
        refine L_nilCheck rfl rfl ?_
        refine L_fieldAddr rfl (off := 0) Try.underlying60 rfl rfl Try.ti39 rfl ?_
        refine L_load rfl Try.one39 rfl (by first | exact hsl.get (fl_get (by omega)) | exact hs.cellA (i := 1) rfl rfl | exact hs.cellA (i := 0) rfl (fl_get (by omega))) ?_
        refine L_move rfl rfl ?_
        refine L_idx1 rfl Try.underlying39 Try.ti35 rfl rfl (by with_reducible first | exact natc_k _ | exact natc_a1 _ | exact natc_0 | exact natc_1 | exact natc_2 | exact natc_s1 _ (by omega) | exact natc_a2 _ | exact natc_add _ _ | exact natc_mul _ _ | exact natc (by omega)) (by omega) (by first | rfl | exact hao) ?_
        refine L_load rfl Try.one35 rfl (by first | exact hsl.get (fl_get (by omega)) | exact hs.cellA (i := 1) rfl rfl | exact hs.cellA (i := 0) rfl (fl_get (by omega))) ?_
        refine L_farith rfl (op := .sub) rfl rfl rfl ?_
        intro r54 k54 hr54
        try replace hs := hs.drewN k54
        refine L_assign rfl rfl ?_
        refine RL_then ?_
        refine W_seq ?_
        refine W_region ?_
        refine L_move rfl rfl ?_
        refine L_move rfl rfl ?_
        refine L_move rfl rfl ?_
        refine L_idx1 rfl Try.underlying39 Try.ti35 rfl rfl (by with_reducible first | exact natc_k _ | exact natc_a1 _ | exact natc_0 | exact natc_1 | exact natc_2 | exact natc_s1 _ (by omega) | exact natc_a2 _ | exact natc_add _ _ | exact natc_mul _ _ | exact natc (by omega)) (by omega) (by first | rfl | exact hao) ?_
        refine L_store hs (i := 2) rfl Try.ti35 rfl rfl (by first | rfl | exact add_lit0 _ _) (by simp; omega) rfl ?_
        intro w hs
        try dsimp only [List.set_cons_succ, List.set_cons_zero, List.cons_append, List.nil_append] at hs
        refine RL_then ?_
        refine W_pht [0, 1, 2, 4, 7, 8, 9, 11] [3, 5, 6, 10, 12, 13, 14] [15] (fun _ _ _ => False) Try.mixed (by kernel_rfl) (fun _ _ _ _ _ h => h) hs ?_
        refine PL_val rfl (fun w => R_move rfl) ?_
        refine PL_val rfl (fun w => R_nilCheck rfl) ?_
        refine PL_val rfl (fun w => R_fieldAddr (off := 0) Try.underlying60 rfl rfl Try.ti39 rfl) ?_
        refine PL_val rfl (fun w => R_move rfl) ?_
        refine PL_val rfl (fun w => R_move rfl) ?_
        refine PL_val rfl (fun w => R_nilCheck rfl) ?_
        refine PL_val rfl (fun w => R_fieldAddr (off := 1) Try.underlying60 rfl rfl Try.ti35 rfl) ?_
        refine PL_val rfl (fun w => R_move rfl) ?_
        refine PL_end ?_
        refine HL_val rfl (fun w hs => R_load Try.one39 rfl (by first | exact hsl.get (fl_get (by omega)) | exact hs.cellA (i := 1) rfl rfl | exact hs.cellA (i := 0) rfl (fl_get (by omega)))) ?_
        refine HL_val rfl (fun w hs => R_idx1 Try.underlying39 Try.ti35 rfl rfl (by with_reducible first | exact natc_k _ | exact natc_a1 _ | exact natc_0 | exact natc_1 | exact natc_2 | exact natc_s1 _ (by omega) | exact natc_a2 _ | exact natc_add _ _ | exact natc_mul _ _ | exact natc (by omega)) (by omega) (by first | rfl | exact hao)) ?_
        refine HL_val rfl (fun w hs => R_load Try.one35 rfl (by first | exact hsl.get (fl_get (by omega)) | exact hs.cellA (i := 1) rfl rfl | exact hs.cellA (i := 0) rfl (fl_get (by omega)))) ?_
        refine HL_val rfl (fun w hs => R_load Try.one35 rfl (by first | exact hsl.get (fl_get (by omega)) | exact hs.cellA (i := 1) rfl rfl | exact hs.cellA (i := 0) rfl (fl_get (by omega)))) ?_
        refine HL_farith rfl (op := .mul) rfl rfl rfl ?_
        intro r71 hr71
        refine HL_farith rfl (op := .add) rfl rfl rfl ?_
        intro r72 hr72
        refine HL_val rfl (fun w hs => R_idx1 Try.underlying39 Try.ti35 rfl rfl (by with_reducible first | exact natc_k _ | exact natc_a1 _ | exact natc_0 | exact natc_1 | exact natc_2 | exact natc_s1 _ (by omega) | exact natc_a2 _ | exact natc_add _ _ | exact natc_mul _ _ | exact natc (by omega)) (by omega) (by first | rfl | exact hao)) ?_
        refine HL_tail ?_
        intro w hs
        refine L_store hs (i := 0) rfl Try.ti35 rfl rfl (by first | rfl | exact add_lit0 _ _) (by simp; omega) rfl ?_
        intro w hs
        try dsimp only [List.set_cons_succ, List.set_cons_zero, List.cons_append, List.nil_append] at hs
        refine RL_nil' ?_
        refine Nx_block ?_
        refine Nx_then ?_
        refine W_region ?_
        first | refine L_add rfl rfl rfl (wrp_i64 (by omega)) ?_ | refine L_add rfl rfl rfl rfl ?_
        refine L_move rfl rfl ?_
        refine RL_nil' ?_
        rw [fl_set, fl_set] at hs
        rw [hR i (Nat.le_refl _)] at hr54 hr72
        have e54 : cn r54 = gD row l0 i := Fs.cn hr54
        have e72 : cn r72 = gL s row l0 i := by
          rw [Fs.cn hr72]
          refine fop_congr rfl ?_
          rw [Fs.cn hr71, cn_fop]
          exact fop_congr rfl (by rw [e54]; exact (cn_fop ..).symm)
        refine Nx_loopP (i + 1, xs.set i r54, ls.set i r72, w) (is := [0, 6, 39, 40, 41]) (I' := (fun (i : Nat) (xs : List Nat) (ls : List Nat) (w : World) => (i ≤ k) ∧ (xs.length = k) ∧ (ls.length = k) ∧ (∀ j, j < i → cn (xs.getD j 0) = gD row l0 j) ∧ (∀ j, j < i → cn (ls.getD j 0) = gL s row l0 j) ∧ (∀ j, i ≤ j → ls.getD j 0 = l0.getD j 0) ∧ (HS w0 w (MapL 60 g b k s true ls ++ [(q, Row 35 (fl xs))]))) (i + 1) (xs.set i r54) (ls.set i r72) (w)) rfl rfl rfl ?_ ?_
        · refine ⟨by omega, by simp [hxl], by simp [hll], fun j hj => ?_, fun j hj => ?_, fun j hj => ?_, hs⟩
          · rcases Nat.lt_or_ge j i with h5 | h5
            · rw [getD_set_other (by omega)]; exact hD j h5
            · obtain rfl : j = i := by omega
              rw [getD_set_same (by omega)]; exact e54
          · rcases Nat.lt_or_ge j i with h5 | h5
            · rw [getD_set_other (by omega)]; exact hL j h5
            · obtain rfl : j = i := by omega
              rw [getD_set_same (by omega)]; exact e72
          · rw [getD_set_other (by omega)]; exact hR j (by omega)
        · omega
      · refine W_seq ?_
        refine W_region ?_
        first | refine L_lss rfl rfl rfl (dtrue (by omega)) ?_ | refine L_lss rfl rfl rfl (dfalse (by omega)) ?_ | refine L_lss rfl rfl rfl rfl ?_
        refine RL_then ?_
        refine W_seq ?_
        refine W_if_false rfl ?_
        refine W_exit' ?_
        refine Ex_then_exit ?_
        refine Ex_loop_exit ?_
        refine Ex_block_hit ?_
        refine Nx_then ?_
        refine W_seq ?_
        refine W_region ?_
        refine L_move rfl rfl ?_
        refine L_assign rfl rfl ?_
        refine L_assign rfl rfl ?_
        refine RL_then ?_
        refine W_ret' ?_
        refine Ex_done2 rfl rfl rfl ?_
        obtain rfl : i = k := by omega
        exact ⟨_, rfl, _, _, _, rfl, hs, hb38, hxl, hll, hD, hL⟩
end Go.Proofs.Ytfehgelggjpaaaa
