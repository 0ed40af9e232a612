/-
  A part of the proof: what functions that the statement reaches do, or a plain law on what they do. Each theorem holds under its own premises alone.
-/
import Derived.Test.YtfehgelggjpaaaaTM3
namespace Go.Proofs.Ytfehgelggjpaaaa
open Go Go.Lk
theorem same_floats (a b : Option Addr) (c d : Nat) (xs ys : List Nat) (w0 : World) (hx : SlC w0 a (fl xs)) (hy : SlC w0 b (fl ys)) (hl : xs.length = ys.length) (h : ∀ j, j < xs.length → cn (xs.getD j 0) = cn (ys.getD j 0)) (h63 : xs.length ≤ 9223372036854775807) :
    Ret Try.prog 17 [.slice a xs.length c, .slice b ys.length d] w0 fun v w' => v = .bool true ∧ HS w0 w' [] := by
  obtain ⟨k, hk⟩ : ∃ k, k = xs.length := ⟨_, rfl⟩
  rw [← hl, ← hk]
  rw [← hk] at hl h h63
  refine Ret.start fun w hs => ?_
  refine calls_of_W Try.func17 rfl rfl rfl ?_
  refine W_seq ?_
  refine W_region ?_
  refine L_assign rfl rfl ?_
  refine RL_then ?_
  refine W_seq ?_
  refine W_seq ?_
  refine W_region ?_
  refine L_move rfl rfl ?_
  refine L_len rfl Try.underlying39 rfl ?_
  refine L_move rfl rfl ?_
  refine L_len rfl Try.underlying39 rfl ?_
  first | refine L_neq rfl rfl rfl (dtrue (by omega)) ?_ | refine L_neq rfl rfl rfl (dfalse (by omega)) ?_ | refine L_neq rfl rfl rfl rfl ?_
  refine RL_then ?_
  refine W_if_false rfl ?_
  refine W_skip' ?_
  refine Nx_then ?_
  refine W_seq ?_
  refine W_seq ?_
  refine W_region ?_
  refine L_assign rfl rfl ?_
  refine RL_then ?_
  refine W_block ?_
  refine W_loop2 (fun (i : Nat) (w : World) => [(0, .slice a k c), (1, .slice b k d), (5, .int .i64 i)]) (fun (i : Nat) (w : World) => w) (fun (i : Nat) (w : World) => (i ≤ k) ∧ (HS w0 w [])) (fun (i : Nat) (w : World) => k - i) (0) (w) (is := [0, 1, 5]) rfl rfl ?_ ?_
  · exact ⟨Nat.zero_le _, hs⟩
  · intro i w hI
    show W _ _ _ _ [(0, .slice a k c), (1, .slice b k d), (5, .int .i64 i)] w
    obtain ⟨hi, hs⟩ := hI
    by_cases hlt : i < k
    · have hx' := hx.ao (by simp; omega)
      have hy' := hy.ao (by simp; omega)
      refine W_seq ?_
      refine W_seq ?_
      refine W_region ?_
      refine L_move rfl rfl ?_
      refine L_move rfl rfl ?_
      refine L_len rfl Try.underlying39 rfl ?_
      first | refine L_lss rfl rfl rfl (dtrue (by omega)) ?_ | refine L_lss rfl rfl rfl (dfalse (by omega)) ?_ | refine L_lss rfl rfl rfl rfl ?_
      refine RL_then ?_
      refine W_if_true rfl ?_
      refine W_skip' ?_
      refine Nx_then ?_
      refine W_seq ?_
      refine W_block ?_
      refine W_seq ?_
      refine W_pht [0, 1, 2, 4, 5, 6] [3, 7] [8, 9] (fun _ _ _ => False) Try.mixed (by kernel_rfl) (fun _ _ _ _ _ h => h) hs ?_
      refine PL_val rfl (fun w => R_move rfl) ?_
      refine PL_val rfl (fun w => R_move rfl) ?_
      refine PL_val rfl (fun w => R_idx1 Try.underlying39 Try.ti35 rfl rfl (by with_reducible first | exact natc_k _ | exact natc_a1 _ | exact natc_0 | exact natc_1 | exact natc_2 | exact natc_s1 _ (by omega) | exact natc_a2 _ | exact natc_add _ _ | exact natc_mul _ _ | exact natc (by omega)) (by omega) (by first | exact hx' | exact hy')) ?_
      refine PL_val rfl (fun w => R_move rfl) ?_
      refine PL_val rfl (fun w => R_move rfl) ?_
      refine PL_val rfl (fun w => R_idx1 Try.underlying39 Try.ti35 rfl rfl (by with_reducible first | exact natc_k _ | exact natc_a1 _ | exact natc_0 | exact natc_1 | exact natc_2 | exact natc_s1 _ (by omega) | exact natc_a2 _ | exact natc_add _ _ | exact natc_mul _ _ | exact natc (by omega)) (by omega) (by first | exact hx' | exact hy')) ?_
      refine PL_end ?_
      refine HL_val rfl (fun w hs => R_load Try.one35 rfl (by first | exact (hx.old hs Own.nil).get (fl_get (by omega)) | exact (hy.old hs Own.nil).get (fl_get (by omega)))) ?_
      refine HL_val rfl (fun w hs => R_load Try.one35 rfl (by first | exact (hx.old hs Own.nil).get (fl_get (by omega)) | exact (hy.old hs Own.nil).get (fl_get (by omega)))) ?_
      refine HL_tail ?_
      intro w hs
      refine L_call rfl Try.fun20 rfl (same_float _ _ w (h i hlt)) ?_
      rintro _ w ⟨rfl, rfl⟩
      refine L_assign rfl rfl ?_
      refine RL_then ?_
      refine W_seq ?_
      refine W_region ?_
      refine L_move rfl rfl ?_
      refine L_not rfl rfl ?_
      refine RL_then ?_
      refine W_if_false rfl ?_
      refine W_skip' ?_
      refine Nx_block ?_
      refine Nx_then ?_
      refine W_region ?_
      refine L_move rfl rfl ?_
      first | refine L_add rfl rfl rfl (wrp_i64 (by omega)) ?_ | refine L_add rfl rfl rfl rfl ?_
      refine L_assign rfl rfl ?_
      refine RL_nil' ?_
      refine Nx_loopP (i + 1, w) (is := [0, 1, 5]) (I' := (fun (i : Nat) (w : World) => (i ≤ k) ∧ (HS w0 w [])) (i + 1) (w)) rfl rfl rfl ?_ ?_
      · exact ⟨by omega, hs⟩
      · omega
    · refine W_seq ?_
      refine W_seq ?_
      refine W_region ?_
      refine L_move rfl rfl ?_
      refine L_move rfl rfl ?_
      refine L_len rfl Try.underlying39 rfl ?_
      first | refine L_lss rfl rfl rfl (dtrue (by omega)) ?_ | refine L_lss rfl rfl rfl (dfalse (by omega)) ?_ | refine L_lss rfl rfl rfl rfl ?_
      refine RL_then ?_
      refine W_if_false rfl ?_
      refine W_exit' ?_
      refine Ex_then_exit ?_
      refine Ex_loop_exit ?_
      refine Ex_block_hit ?_
      refine Nx_then ?_
      refine W_seq ?_
      refine W_region ?_
      refine L_assign rfl rfl ?_
      refine RL_then ?_
      refine W_ret' ?_
      refine Ex_done1 rfl rfl ?_
      exact ⟨_, rfl, rfl, hs⟩
theorem getD_app_left {α : Type} {l r : List α} {i : Nat} {d : α} (h : i < l.length) : (l ++ r).getD i d = l.getD i d := by simp [List.getD, List.getElem?_append_left h]
theorem getD_app_here {α : Type} {l : List α} {x d : α} : (l ++ [x]).getD l.length d = x := by simp [List.getD]
theorem rfeed_len (b g k s : Nat) (fed : Bool) (ls : List Nat) (a : Option Addr) (n c : Nat) (w : World) (hm : IsMap w 62 b g k s fed ls) (h : n ≠ k) : Ret Try.prog 15 [.pointer (some ⟨b, 0, none⟩), .slice a n c] w fun v w' => v = .tuple #[.slice none 0 0, .int .i64 5] ∧ w' = w := by
  refine calls_of_W Try.func15 rfl rfl rfl ?_
  have hb := hm.box
  refine W_seq ?_
  refine W_region ?_
  refine L_assign rfl rfl ?_
  refine L_assign rfl rfl ?_
  refine RL_then ?_
  refine W_seq ?_
  refine W_seq ?_
  refine W_region ?_
  refine L_move rfl rfl ?_
  refine L_len rfl Try.underlying39 rfl ?_
  refine L_move rfl rfl ?_
  refine L_nilCheck rfl rfl ?_
  refine L_fieldAddr rfl (off := 0) Try.underlying62 rfl rfl Try.ti39 rfl ?_
  refine L_load rfl Try.one39 rfl (by rw [add_lit0]; exact Lk.cell_of_row hb rfl) ?_
  refine L_len rfl Try.underlying39 rfl ?_
  first | refine L_neq rfl rfl rfl (dtrue (by omega)) ?_ | refine L_neq rfl rfl rfl (dfalse (by omega)) ?_ | refine L_neq rfl rfl rfl rfl ?_
  refine RL_then ?_
  refine W_if_true rfl ?_
  refine W_seq ?_
  refine W_region ?_
  refine L_assign rfl rfl ?_
  refine L_assign rfl rfl ?_
  refine RL_then ?_
  refine W_ret' ?_
  refine Ex_then_ret ?_
  refine Ex_done2 rfl rfl rfl ?_
  exact ⟨_, rfl, rfl, rfl⟩
theorem rfeed_ok (b g k s : Nat) (fed : Bool) (ls row l0 : List Nat) (a : Option Addr) (c : Nat) (w0 : World) (hm : IsMap w0 62 b g k s fed ls) (hgb : g ≠ b) (hrow : SlC w0 a (fl row)) (hk : row.length = k) (h1 : 1 ≤ k) (h2 : k ≤ 16384) (ha : (aD a).block ≠ g ∧ (aD a).block ≠ b) (hl0 : l0 = if fed then ls else row) :
    Ret Try.prog 15 [.pointer (some ⟨b, 0, none⟩), .slice a k c] w0 fun v w' => ∃ v1 M out ls', v = .tuple #[v1, .int .i64 0] ∧ HS w0 w' (MapL 62 g b k s true ls' ++ M) ∧ Bl w0 35 1 v1 k (fl out) M ∧ out.length = k ∧ ls'.length = k ∧ (∀ j, j < k → cn (out.getD j 0) = gD row l0 j) ∧ ∀ j, j < k → cn (ls'.getD j 0) = gL s row l0 j := by
  have hs : HS w0 w0 (MapL 62 g b k s fed ls) := HS.named (by simp [hm.row, hm.box]) (by simp [hgb])
  have hlen := hm.len
  have hao : a = some (aD a) := hrow.ao (by simp [hk]; omega)
  have hrs : (aD a).block < w0.heap.size := World.block_lt_of_cell? w0 _ (hrow.2 0 _ (fl_get (by omega)))
  have hl0l : l0.length = k := by rw [hl0]; split <;> assumption
  have hrow0 : ∀ {w : World} {q : List (Nat × Obj)} {l : List Nat} {v : Value}, HS w0 w ((g, Row 35 (fl l)) :: (b, Row 62 [.slice (some ⟨g, 0, none⟩) k k, .float .f64 s, v]) :: q) → Own w0 q → SlC w a (fl row) := by
    intro w q l v hs ho
    refine ⟨hrow.1, fun j v hv => hs.oldcell (hrow.2 j v hv) ?_⟩
    have := ho.notin hrs
    simp only [List.map_cons, List.mem_cons, not_or]
    refine ⟨?_, ?_, ?_⟩
    · rw [Lk.block_add]; exact ha.1
    · rw [Lk.block_add]; exact ha.2
    · rw [Lk.block_add]; exact this
  refine calls_of_W Try.func15 rfl rfl rfl ?_
  refine W_seq ?_
  refine W_region ?_
  refine L_assign rfl rfl ?_
  refine L_assign rfl rfl ?_
  refine RL_then ?_
  refine W_seq ?_
  refine W_seq ?_
  refine W_region ?_
  refine L_move rfl rfl ?_
  refine L_len rfl Try.underlying39 rfl ?_
  refine L_move rfl rfl ?_
  refine L_nilCheck rfl rfl ?_
  refine L_fieldAddr rfl (off := 0) Try.underlying62 rfl rfl Try.ti39 rfl ?_
  refine L_load rfl Try.one39 rfl (by exact hs.cellA (i := 1) rfl rfl) ?_
  refine L_len rfl Try.underlying39 rfl ?_
  first | refine L_neq rfl rfl rfl (dtrue (by omega)) ?_ | refine L_neq rfl rfl rfl (dfalse (by omega)) ?_ | refine L_neq rfl rfl rfl rfl ?_
  refine RL_then ?_
  refine W_if_false rfl ?_
  refine W_skip' ?_
  refine Nx_then ?_
  refine W_seq ?_
  refine W_region ?_
  refine L_assign rfl rfl ?_
  refine RL_then ?_
  refine W_seq ?_
  refine W_seq ?_
  refine W_region ?_
  refine L_assign rfl rfl ?_
  refine RL_then ?_
  refine W_block ?_
  refine W_loop6 (fun (i : Nat) (xs : List Nat) (ls : List Nat) (v : Value) (M : List (Nat × Obj)) (w : World) => [(0, .pointer (some ⟨b, 0, none⟩)), (1, .slice a k c), (6, v), (7, .int .i64 i)]) (fun (i : Nat) (xs : List Nat) (ls : List Nat) (v : Value) (M : List (Nat × Obj)) (w : World) => w) (fun (i : Nat) (xs : List Nat) (ls : List Nat) (v : Value) (M : List (Nat × Obj)) (w : World) => (i ≤ k) ∧ (xs.length = i) ∧ (ls.length = k) ∧ (∀ j, j < i → cn (xs.getD j 0) = gD row l0 j) ∧ (∀ j, j < i → cn (ls.getD j 0) = gL s row l0 j) ∧ (∀ j, i ≤ j → fed = true → ls.getD j 0 = l0.getD j 0) ∧ (Bl w0 35 1 v i (fl xs) M) ∧ (HS w0 w (MapL 62 g b k s fed ls ++ M))) (fun (i : Nat) (xs : List Nat) (ls : List Nat) (v : Value) (M : List (Nat × Obj)) (w : World) => k - i) (0) ([]) (ls) (.slice none 0 0) ([]) (w0) (is := [0, 1, 6, 7]) rfl rfl ?_ ?_
  · exact ⟨Nat.zero_le _, rfl, hlen, fun j hj => absurd hj (Nat.not_lt_zero j), fun j hj => absurd hj (Nat.not_lt_zero j), fun j _ hf => by rw [hl0, hf]; rfl, Bl.nil, by simpa using hs⟩
  · clear hs hlen
    intro i xs ls v M w hI
    show W _ _ _ _ [(0, .pointer (some ⟨b, 0, none⟩)), (1, .slice a k c), (6, v), (7, .int .i64 i)] w
    obtain ⟨hi, hxl, hll, hD, hL, hR, hbl, hs⟩ := hI
    replace hs : HS w0 w ((g, Row 35 (fl ls)) :: (b, Row 62 [.slice (some ⟨g, 0, none⟩) k k, .float .f64 s, .bool fed]) :: M) := hs
    obtain ⟨A, B, hAB, _⟩ := hbl.slice
    by_cases hlt : i < k
    · refine W_seq ?_
      refine W_seq ?_
      refine W_region ?_
      refine L_move rfl rfl ?_
      refine L_move rfl rfl ?_
      refine L_len rfl Try.underlying39 rfl ?_
      first | refine L_lss rfl rfl rfl (dtrue (by omega)) ?_ | refine L_lss rfl rfl rfl (dfalse (by omega)) ?_ | refine L_lss rfl rfl rfl rfl ?_
      refine RL_then ?_
      refine W_if_true rfl ?_
      have hrow0' := fun {w : World} {l : List Nat} {v : Value} (hs : HS w0 w ((g, Row 35 (fl l)) :: (b, Row 62 [.slice (some ⟨g, 0, none⟩) k k, .float .f64 s, v]) :: M)) => hrow0 hs hbl.own
      refine W_skip' ?_
      refine Nx_then ?_
      refine W_seq ?_
      refine W_block ?_
      refine W_seq ?_
      refine W_seq ?_
      refine W_region ?_
      refine L_move rfl rfl ?_
      refine L_nilCheck rfl rfl ?_
      refine L_fieldAddr rfl (off := 2) Try.underlying62 rfl rfl Try.ti4 rfl ?_
      refine L_load rfl Try.one4 rfl (by first | exact hs.cellA (i := 1) rfl rfl | exact (hrow0' hs).get (fl_get (by omega)) | exact hs.cellA (i := 0) rfl (fl_get (by omega))) ?_
      refine L_not rfl rfl ?_
      refine RL_then ?_
      refine W_cut2 (fun (ls : List Nat) (w : World) => [(0, .pointer (some ⟨b, 0, none⟩)), (1, .slice a k c), (6, v), (7, .int .i64 i)]) (fun (ls : List Nat) (w : World) => w) (fun (ls : List Nat) (w : World) => (ls.length = k) ∧ (∀ j, j < i → cn (ls.getD j 0) = gL s row l0 j) ∧ (∀ j, i ≤ j → fed = true → ls.getD j 0 = l0.getD j 0) ∧ (ls.getD i 0 = l0.getD i 0) ∧ (HS w0 w ((g, Row 35 (fl ls)) :: (b, Row 62 [.slice (some ⟨g, 0, none⟩) k k, .float .f64 s, .bool fed]) :: M))) ?_ ?_
      · by_cases hfed : fed = true
        · refine W_set 27 (v' := .bool false) rfl (by rw [hfed]; rfl) ?_
          refine W_if_false rfl ?_
          refine W_skip' ?_
          refine Nx_cutP (ls, w) (is := [0, 1, 6, 7]) (I' := (fun (ls : List Nat) (w : World) => (ls.length = k) ∧ (∀ j, j < i → cn (ls.getD j 0) = gL s row l0 j) ∧ (∀ j, i ≤ j → fed = true → ls.getD j 0 = l0.getD j 0) ∧ (ls.getD i 0 = l0.getD i 0) ∧ (HS w0 w ((g, Row 35 (fl ls)) :: (b, Row 62 [.slice (some ⟨g, 0, none⟩) k k, .float .f64 s, .bool fed]) :: M))) (ls) (w)) rfl rfl rfl ?_
          exact ⟨hll, hL, hR, hR i (Nat.le_refl _) hfed, hs⟩
        · have hfed' : fed = false := by simpa using hfed
          refine W_set 27 (v' := .bool true) rfl (by rw [hfed']; rfl) ?_
          refine W_if_true rfl ?_
          refine W_pht [0, 1, 2, 4, 5, 6, 7] [3, 8, 9] [10] (fun _ _ _ => False) Try.mixed (by kernel_rfl) (fun _ _ _ _ _ h => h) hs ?_
          refine PL_val rfl (fun w => R_move rfl) ?_
          refine PL_val rfl (fun w => R_nilCheck rfl) ?_
          refine PL_val rfl (fun w => R_fieldAddr (off := 0) Try.underlying62 rfl rfl Try.ti39 rfl) ?_
          refine PL_val rfl (fun w => R_move rfl) ?_
          refine PL_val rfl (fun w => R_move rfl) ?_
          refine PL_val rfl (fun w => R_move rfl) ?_
          refine PL_val rfl (fun w => R_idx1 Try.underlying39 Try.ti35 rfl rfl (by with_reducible first | exact natc_k _ | exact natc_a1 _ | exact natc_0 | exact natc_1 | exact natc_2 | exact natc_s1 _ (by omega) | exact natc_a2 _ | exact natc_add _ _ | exact natc_mul _ _ | exact natc (by omega)) (by omega) (by first | rfl | exact hao)) ?_
          refine PL_end ?_
          refine HL_val rfl (fun w hs => R_load Try.one39 rfl (by first | exact hs.cellA (i := 1) rfl rfl | exact (hrow0' hs).get (fl_get (by omega)) | exact hs.cellA (i := 0) rfl (fl_get (by omega)))) ?_
          refine HL_val rfl (fun w hs => R_load Try.one35 rfl (by first | exact hs.cellA (i := 1) rfl rfl | exact (hrow0' hs).get (fl_get (by omega)) | exact hs.cellA (i := 0) rfl (fl_get (by omega)))) ?_
          refine HL_val rfl (fun w hs => R_idx1 Try.underlying39 Try.ti35 rfl rfl (by with_reducible first | exact natc_k _ | exact natc_a1 _ | exact natc_0 | exact natc_1 | exact natc_2 | exact natc_s1 _ (by omega) | exact natc_a2 _ | exact natc_add _ _ | exact natc_mul _ _ | exact natc (by omega)) (by omega) (by first | rfl | exact hao)) ?_
          refine HL_tail ?_
          intro w hs
          refine L_store hs (i := 0) rfl Try.ti35 rfl rfl (by first | rfl | exact add_lit0 _ _) (by simp; omega) rfl ?_
          intro w hs
          try dsimp only [List.set_cons_succ, List.set_cons_zero, List.cons_append, List.nil_append] at hs
          refine RL_nil' ?_
          rw [fl_set] at hs
          have hl0' : l0 = row := by rw [hl0, hfed']; rfl
          refine Nx_cutP (ls.set i (row.getD i 0), w) (is := [0, 1, 6, 7]) (I' := (fun (ls : List Nat) (w : World) => (ls.length = k) ∧ (∀ j, j < i → cn (ls.getD j 0) = gL s row l0 j) ∧ (∀ j, i ≤ j → fed = true → ls.getD j 0 = l0.getD j 0) ∧ (ls.getD i 0 = l0.getD i 0) ∧ (HS w0 w ((g, Row 35 (fl ls)) :: (b, Row 62 [.slice (some ⟨g, 0, none⟩) k k, .float .f64 s, .bool fed]) :: M))) (ls.set i (row.getD i 0)) (w)) rfl rfl rfl ?_
          exact ⟨by simp [hll], fun j hj => by rw [getD_set_other (by omega)]; exact hL j hj, fun _ _ hf => absurd hf hfed, by rw [getD_set_same (by omega), hl0'], hs⟩
      · clear hs hll hL hR
        intro ls w hI
        show W _ _ _ _ [(0, .pointer (some ⟨b, 0, none⟩)), (1, .slice a k c), (6, v), (7, .int .i64 i)] w
        obtain ⟨hll, hL, hR, hEq, hs⟩ := hI
        refine W_seq ?_
        refine W_pht [0, 1, 2, 4, 5, 6, 8] [3, 7, 9, 10, 11, 12] [] (fun _ _ _ => False) Try.mixed (by kernel_rfl) (fun _ _ _ _ _ h => h) hs ?_
        refine PL_val rfl (fun w => R_move rfl) ?_
        refine PL_val rfl (fun w => R_move rfl) ?_
        refine PL_val rfl (fun w => R_idx1 Try.underlying39 Try.ti35 rfl rfl (by with_reducible first | exact natc_k _ | exact natc_a1 _ | exact natc_0 | exact natc_1 | exact natc_2 | exact natc_s1 _ (by omega) | exact natc_a2 _ | exact natc_add _ _ | exact natc_mul _ _ | exact natc (by omega)) (by omega) (by first | rfl | exact hao)) ?_
        refine PL_val rfl (fun w => R_move rfl) ?_
        refine PL_val rfl (fun w => R_nilCheck rfl) ?_
        refine PL_val rfl (fun w => R_fieldAddr (off := 0) Try.underlying62 rfl rfl Try.ti39 rfl) ?_
        refine PL_val rfl (fun w => R_move rfl) ?_
        refine PL_end ?_
        refine HL_val rfl (fun w hs => R_load Try.one35 rfl (by first | exact hs.cellA (i := 1) rfl rfl | exact (hrow0' hs).get (fl_get (by omega)) | exact hs.cellA (i := 0) rfl (fl_get (by omega)))) ?_
        refine HL_val rfl (fun w hs => R_load Try.one39 rfl (by first | exact hs.cellA (i := 1) rfl rfl | exact (hrow0' hs).get (fl_get (by omega)) | exact hs.cellA (i := 0) rfl (fl_get (by omega)))) ?_
        refine HL_val rfl (fun w hs => R_idx1 Try.underlying39 Try.ti35 rfl rfl (by with_reducible first | exact natc_k _ | exact natc_a1 _ | exact natc_0 | exact natc_1 | exact natc_2 | exact natc_s1 _ (by omega) | exact natc_a2 _ | exact natc_add _ _ | exact natc_mul _ _ | exact natc (by omega)) (by omega) (by first | rfl | exact hao)) ?_
        refine HL_val rfl (fun w hs => R_load Try.one35 rfl (by first | exact hs.cellA (i := 1) rfl rfl | exact (hrow0' hs).get (fl_get (by omega)) | exact hs.cellA (i := 0) rfl (fl_get (by omega)))) ?_
        refine HL_farith rfl (op := .sub) rfl rfl rfl ?_
        intro r49 hr49
        refine HL_val rfl (fun w hs => R_assign rfl) ?_
        refine HL_tail ?_
        intro w hs
        refine RL_then ?_
        refine W_seq ?_
        refine W_pht [0, 1, 2, 4, 5, 6, 7, 9, 12, 13, 14, 16] [3, 8, 10, 11, 15, 17, 18, 19] [20] (fun _ _ _ => False) Try.mixed (by kernel_rfl) (fun _ _ _ _ _ h => h) hs ?_
        refine PL_val rfl (fun w => R_move rfl) ?_
        refine PL_val rfl (fun w => R_nilCheck rfl) ?_
        refine PL_val rfl (fun w => R_fieldAddr (off := 0) Try.underlying62 rfl rfl Try.ti39 rfl) ?_
        refine PL_val rfl (fun w => R_move rfl) ?_
        refine PL_val rfl (fun w => R_move rfl) ?_
        refine PL_val rfl (fun w => R_nilCheck rfl) ?_
        refine PL_val rfl (fun w => R_fieldAddr (off := 0) Try.underlying62 rfl rfl Try.ti39 rfl) ?_
        refine PL_val rfl (fun w => R_move rfl) ?_
        refine PL_val rfl (fun w => R_move rfl) ?_
        refine PL_val rfl (fun w => R_nilCheck rfl) ?_
        refine PL_val rfl (fun w => R_fieldAddr (off := 1) Try.underlying62 rfl rfl Try.ti35 rfl) ?_
        refine PL_val rfl (fun w => R_move rfl) ?_
        refine PL_end ?_
        refine HL_val rfl (fun w hs => R_load Try.one39 rfl (by first | exact hs.cellA (i := 1) rfl rfl | exact (hrow0' hs).get (fl_get (by omega)) | exact hs.cellA (i := 0) rfl (fl_get (by omega)))) ?_
        refine HL_val rfl (fun w hs => R_load Try.one39 rfl (by first | exact hs.cellA (i := 1) rfl rfl | exact (hrow0' hs).get (fl_get (by omega)) | exact hs.cellA (i := 0) rfl (fl_get (by omega)))) ?_
        refine HL_val rfl (fun w hs => R_idx1 Try.underlying39 Try.ti35 rfl rfl (by with_reducible first | exact natc_k _ | exact natc_a1 _ | exact natc_0 | exact natc_1 | exact natc_2 | exact natc_s1 _ (by omega) | exact natc_a2 _ | exact natc_add _ _ | exact natc_mul _ _ | exact natc (by omega)) (by omega) (by first | rfl | exact hao)) ?_
        refine HL_val rfl (fun w hs => R_load Try.one35 rfl (by first | exact hs.cellA (i := 1) rfl rfl | exact (hrow0' hs).get (fl_get (by omega)) | exact hs.cellA (i := 0) rfl (fl_get (by omega)))) ?_
        refine HL_val rfl (fun w hs => R_load Try.one35 rfl (by first | exact hs.cellA (i := 1) rfl rfl | exact (hrow0' hs).get (fl_get (by omega)) | exact hs.cellA (i := 0) rfl (fl_get (by omega)))) ?_
        refine HL_farith rfl (op := .mul) rfl rfl rfl ?_
        intro r67 hr67
        refine HL_farith rfl (op := .add) rfl rfl rfl ?_
        intro r68 hr68
        refine HL_val rfl (fun w hs => R_idx1 Try.underlying39 Try.ti35 rfl rfl (by with_reducible first | exact natc_k _ | exact natc_a1 _ | exact natc_0 | exact natc_1 | exact natc_2 | exact natc_s1 _ (by omega) | exact natc_a2 _ | exact natc_add _ _ | exact natc_mul _ _ | exact natc (by omega)) (by omega) (by first | rfl | exact hao)) ?_
        refine HL_tail ?_
        intro w hs
        refine L_store hs (i := 0) rfl Try.ti35 rfl rfl (by first | rfl | exact add_lit0 _ _) (by simp; omega) rfl ?_
        intro w hs
        try dsimp only [List.set_cons_succ, List.set_cons_zero, List.cons_append, List.nil_append] at hs
        refine RL_then ?_
        refine W_region ?_
        rw [hEq] at hr49 hr68
        have e54 : cn r49 = gD row l0 i := Fs.cn hr49
        have e72 : cn r68 = gL s row l0 i := by
          rw [Fs.cn hr68]
          refine fop_congr rfl ?_
          rw [Fs.cn hr67, cn_fop]
          exact fop_congr rfl (by rw [e54]; exact (cn_fop ..).symm)
        rw [fl_set] at hs
        refine L_move rfl rfl ?_
        refine L_move rfl rfl ?_
        refine L_buildSlice rfl hs Try.underlying39 Try.ti35 rfl (by decide) rfl (by simp [Value.cells]) ?_
        intro b72 w hb72 hnb72 hs
        try simp only [List.flatMap_cons, List.flatMap_nil, cells_int, cells_float, cells_complex, cells_bool, cells_string, cells_pointer, cells_slice, cells_map, cells_agg, List.append_nil, List.set_cons_succ, List.set_cons_zero, List.cons_append, List.nil_append] at hs
        refine L_appendT rfl Try.underlying39 Try.ti35 rfl (L := [(g, Row 35 (fl (ls.set i r68))), (b, Row 62 [.slice (some ⟨g, 0, none⟩) k k, .float .f64 s, .bool fed])]) hs (by assumption) hbl rfl rfl rfl (by simp [Value.oneCell'] ) (by omega) (by omega) ?_
        intro v73 w M73 hs hbl
        refine L_assign rfl rfl ?_
        refine RL_nil' ?_
        refine Nx_block ?_
        refine Nx_then ?_
        refine W_region ?_
        refine L_move rfl rfl ?_
        first | refine L_add rfl rfl rfl (wrp_i64 (by omega)) ?_ | refine L_add rfl rfl rfl rfl ?_
        refine L_assign rfl rfl ?_
        refine RL_nil' ?_
        refine Nx_loopP (i + 1, xs ++ [r49], ls.set i r68, v73, M73, w) (is := [0, 1, 6, 7]) (I' := (fun (i : Nat) (xs : List Nat) (ls : List Nat) (v : Value) (M : List (Nat × Obj)) (w : World) => (i ≤ k) ∧ (xs.length = i) ∧ (ls.length = k) ∧ (∀ j, j < i → cn (xs.getD j 0) = gD row l0 j) ∧ (∀ j, j < i → cn (ls.getD j 0) = gL s row l0 j) ∧ (∀ j, i ≤ j → fed = true → ls.getD j 0 = l0.getD j 0) ∧ (Bl w0 35 1 v i (fl xs) M) ∧ (HS w0 w (MapL 62 g b k s fed ls ++ M))) (i + 1) (xs ++ [r49]) (ls.set i r68) (v73) (M73) (w)) rfl rfl rfl ?_ ?_
        · refine ⟨by omega, by simp [hxl], by simp [hll], fun j hj => ?_, fun j hj => ?_, fun j hj hf => ?_, by rw [← fl_snoc]; exact hbl, hs⟩
          · rcases Nat.lt_or_ge j i with h5 | h5
            · rw [getD_app_left (by omega)]; exact hD j h5
            · obtain rfl : j = i := by omega
              rw [← hxl, getD_app_here, hxl]; exact e54
          · rcases Nat.lt_or_ge j i with h5 | h5
            · rw [getD_set_other (by omega)]; exact hL j h5
            · obtain rfl : j = i := by omega
              rw [getD_set_same (by omega)]; exact e72
          · rw [getD_set_other (by omega)]; exact hR j (by omega) hf
        · omega
    · skip
      refine W_seq ?_
      refine W_seq ?_
      refine W_region ?_
      refine L_move rfl rfl ?_
      refine L_move rfl rfl ?_
      refine L_len rfl Try.underlying39 rfl ?_
      first | refine L_lss rfl rfl rfl (dtrue (by omega)) ?_ | refine L_lss rfl rfl rfl (dfalse (by omega)) ?_ | refine L_lss rfl rfl rfl rfl ?_
      refine RL_then ?_
      refine W_if_false rfl ?_
      refine W_exit' ?_
      refine Ex_then_exit ?_
      refine Ex_loop_exit ?_
      refine Ex_block_hit ?_
      refine Nx_then ?_
      refine W_seq ?_
      refine W_region ?_
      refine L_move rfl rfl ?_
      refine L_nilCheck rfl rfl ?_
      refine L_fieldAddr rfl (off := 2) Try.underlying62 rfl rfl Try.ti4 rfl ?_
      refine L_store hs (i := 1) rfl Try.ti4 rfl rfl (by first | rfl | exact add_lit0 _ _) (by first | omega | (simp; done) | (simp; omega)) rfl ?_
      intro w hs
      try dsimp only [List.set_cons_succ, List.set_cons_zero, List.cons_append, List.nil_append] at hs
      refine RL_then ?_
      refine W_seq ?_
      refine W_region ?_
      refine L_move rfl rfl ?_
      refine L_assign rfl rfl ?_
      refine L_assign rfl rfl ?_
      refine RL_then ?_
      refine W_ret' ?_
      refine Ex_done2 rfl rfl rfl ?_
      obtain rfl : i = k := by omega
      exact ⟨_, rfl, v, M, xs, ls, rfl, hs, hbl, hxl, hll, hD, hL⟩
end Go.Proofs.Ytfehgelggjpaaaa
