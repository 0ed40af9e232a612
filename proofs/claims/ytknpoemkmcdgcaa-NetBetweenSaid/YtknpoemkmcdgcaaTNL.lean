/-
  A part of the proof: what functions that the statement reaches do, or a plain law on what they do. Each theorem holds under its own premises alone.
-/
import Derived.Test.YtknpoemkmcdgcaaTNK
namespace Go.Proofs.Ytknpoemkmcdgcaa
open Go Go.Lk
/-! ### 'slices.DeleteFunc' of tracks that are not firm -/
def firm (ts : List Tk) : List Tk := ts.filter fun t => decide (t.kind = 1)
theorem tcs_app (ts us : List Tk) : tcs (ts ++ us) = tcs ts ++ tcs us := List.flatMap_append ..
theorem tcs_one' (t : Tk) : tcs [t] = t.cells := by simp [tcs]
theorem firm_all {ts : List Tk} (h : ∀ i, i < ts.length → (ts.getD i tk0).kind = 1) : firm ts = ts := by
  unfold firm
  rw [List.filter_eq_self]
  intro t ht
  obtain ⟨i, hi, rfl⟩ := List.getElem_of_mem ht
  have := h i hi
  rw [List.getD_eq_getElem?_getD, List.getElem?_eq_getElem hi] at this
  exact decide_eq_true this
theorem firm_len (ts : List Tk) : (firm ts).length ≤ ts.length := List.length_filter_le ..
theorem drop_tk {ts : List Tk} {j : Nat} (h : j < ts.length) : ts.drop j = ts.getD j tk0 :: ts.drop (j + 1) := by
  rw [List.drop_eq_getElem_cons h, List.getD_eq_getElem?_getD, List.getElem?_eq_getElem h]; rfl
theorem take_tk {ts : List Tk} {j : Nat} (h : j < ts.length) : ts.take (j + 1) = ts.take j ++ [ts.getD j tk0] := take_snoc (by rw [List.getD_eq_getElem?_getD, List.getElem?_eq_getElem h]; rfl)
theorem firm_snoc_t {ts : List Tk} {t : Tk} (h : t.kind = 1) : firm (ts ++ [t]) = firm ts ++ [t] := by
  unfold firm; rw [List.filter_append]; simp [h]
theorem firm_snoc_f {ts : List Tk} {t : Tk} (h : t.kind ≠ 1) : firm (ts ++ [t]) = firm ts := by
  unfold firm; rw [List.filter_append]; simp [h]
set_option maxHeartbeats 1000000 in
theorem delete_ok (g n c : Nat) (ts : List Tk) (sp : List Value) (A : Bks) (w0 w : World) (hs : HS w0 w ((g, Row 48 (tcs ts ++ sp)) :: A)) (hn : ts.length = n) (hn2 : n ≤ 1000000) (hc : n ≤ c) :
    Ret Try.prog 39 [.slice (some ⟨g, 0, none⟩) n c, .func (.func 41) #[] #[]] w fun v w' => ∃ sp', v = .slice (some ⟨g, 0, none⟩) (firm ts).length c ∧ HS w0 w' ((g, Row 48 (tcs (firm ts) ++ sp')) :: A) ∧ (tcs (firm ts) ++ sp').length = (tcs ts ++ sp).length := by
  have hx : SlC w (some ⟨g, 0, none⟩) (tcs ts) := SlC.of_row (hs.get (i := 0) rfl)
  refine calls_of_W Try.func39 rfl rfl rfl ?_
  refine W_seq ?_
  refine W_region ?_
  refine L_assign rfl rfl ?_
  refine RL_then ?_
  refine W_seq ?_
  refine W_region ?_
  refine L_move rfl rfl ?_
  refine L_move rfl rfl ?_
  refine L_call rfl Try.fun60 rfl (tindex_ok (some ⟨g, 0, none⟩) n c ts w hx hn hn2) ?_
  rintro _ w1 ⟨j, rfl, hs', hF⟩
  replace hs := hs.nil hs'
  clear hs'
  obtain ⟨i0, hi0, rfl, hp0, hq0⟩ | ⟨rfl, hno⟩ := hF
  · have hf0 : ∀ q, q < i0 → (ts.getD q tk0).kind = 1 := fun q hq => Classical.not_not.1 (hq0 q hq)
    have hft : firm (ts.take i0) = ts.take i0 := firm_all fun q hq => by
      rw [List.length_take] at hq
      rw [List.getD_eq_getElem?_getD, List.getElem?_take_of_lt (by omega), ← List.getD_eq_getElem?_getD]
      exact hf0 q (by omega)
    have hft1 : firm (ts.take (i0 + 1)) = ts.take i0 := by rw [take_tk (by omega), firm_snoc_f hp0, hft]
    refine L_assign rfl rfl ?_
    refine RL_then ?_
    refine W_seq ?_
    refine W_seq ?_
    refine W_region ?_
    refine L_move rfl rfl ?_
    first | refine L_eql rfl rfl rfl (dtrue (by omega)) ?_ | refine L_eql rfl rfl rfl (dfalse (by omega)) ?_ | refine L_eql rfl rfl rfl rfl ?_
    refine RL_then ?_
    refine W_if_false rfl ?_
    refine W_skip' ?_
    refine Nx_then ?_
    refine W_seq ?_
    refine W_seq ?_
    refine W_region ?_
    refine L_move rfl rfl ?_
    first | refine L_add rfl rfl rfl (wrp_i64 (by omega)) ?_ | refine L_add rfl rfl rfl rfl ?_
    refine L_assign rfl rfl ?_
    refine RL_then ?_
    refine W_block ?_
    refine W_loop4 (fun (i : Nat) (j : Nat) (mid : List Value) (w : World) => [(0, .slice (some ⟨g, 0, none⟩) n c), (1, .func (.func 41) #[] #[]), (5, .int .i64 i), (6, .int .i64 j)]) (fun (i : Nat) (j : Nat) (mid : List Value) (w : World) => w) (fun (i : Nat) (j : Nat) (mid : List Value) (w : World) => (j ≤ n) ∧ (i < j) ∧ ((firm (ts.take j)).length = i) ∧ (mid.length = (j - i) * 15) ∧ (HS w0 w ((g, Row 48 (tcs (firm (ts.take j)) ++ (mid ++ (tcs (ts.drop j) ++ sp)))) :: A))) (fun (i : Nat) (j : Nat) (mid : List Value) (w : World) => n - j) (i0) (i0 + 1) ((ts.getD i0 tk0).cells) (_) (is := [0, 1, 5, 6]) rfl rfl ?_ ?_
    · refine ⟨hi0, Nat.lt_succ_self _, by rw [hft1, List.length_take]; omega, by rw [Nat.add_sub_cancel_left]; rfl, ?_⟩
      rw [hft1]
      have e : tcs ts = tcs (ts.take i0) ++ ((ts.getD i0 tk0).cells ++ tcs (ts.drop (i0 + 1))) := by
        rw [← tcs_one' (ts.getD i0 tk0), ← tcs_app, ← tcs_app]
        congr 1
        rw [List.singleton_append, ← drop_tk (by omega), List.take_append_drop]
      rw [e] at hs
      simp only [List.append_assoc] at hs ⊢
      exact hs
    · clear hs
      intro i j mid w hI
      show W _ _ _ _ [(0, .slice (some ⟨g, 0, none⟩) n c), (1, .func (.func 41) #[] #[]), (5, .int .i64 i), (6, .int .i64 j)] w
      obtain ⟨hj, hij, hil, hml, hs⟩ := hI
      by_cases hlj : j < n
      · obtain ⟨t, hth⟩ : ∃ t, t = ts.getD j tk0 := ⟨_, rfl⟩
        have hdr := drop_tk (ts := ts) (j := j) (by omega)
        have htk := take_tk (ts := ts) (j := j) (by omega)
        rw [← hth] at hdr htk
        have hd2 : tcs (ts.drop j) = t.cells ++ tcs (ts.drop (j + 1)) := by rw [hdr, ← List.singleton_append, tcs_app, tcs_one']
        obtain ⟨Pr, hPr⟩ : ∃ Pr, Pr = tcs (firm (ts.take j)) := ⟨_, rfl⟩
        have hPl : Pr.length = i * 15 := by rw [hPr, tcs_len, hil]
        obtain ⟨Y, hY⟩ : ∃ Y, Y = tcs (ts.drop (j + 1)) ++ sp := ⟨_, rfl⟩
        rw [hd2, ← hPr, List.append_assoc t.cells, ← hY] at hs
        have hpart : ((Pr ++ (mid ++ (t.cells ++ Y))).drop (j * 15)).take 15 = t.cells := by
          rw [← List.append_assoc, List.drop_left' (by rw [List.length_append, hPl, hml]; omega)]
          exact List.take_left' rfl
        obtain ⟨m0, m1, hm0, hmid⟩ : ∃ m0 m1, List.length m0 = 15 ∧ mid = m0 ++ m1 := ⟨mid.take 15, mid.drop 15, by rw [List.length_take]; omega, (List.take_append_drop ..).symm⟩
        refine W_seq ?_
        refine W_seq ?_
        refine W_region ?_
        refine L_move rfl rfl ?_
        refine L_move rfl rfl ?_
        refine L_len rfl Try.underlying38 rfl ?_
        first | refine L_lss rfl rfl rfl (dtrue (by omega)) ?_ | refine L_lss rfl rfl rfl (dfalse (by omega)) ?_ | refine L_lss rfl rfl rfl rfl ?_
        refine RL_then ?_
        refine W_if_true rfl ?_
        refine W_skip' ?_
        refine Nx_then ?_
        refine W_seq ?_
        refine W_block ?_
        refine W_seq ?_
        refine W_region ?_
        refine L_move rfl rfl ?_
        refine L_move rfl rfl ?_
        refine L_idxN rfl Try.underlying38 Try.ti48 rfl rfl (by with_reducible first | exact natc_k _ | exact natc_a1 _ | exact natc_0 | exact natc_1 | exact natc_2 | exact natc_s1 _ (by omega) | exact natc_a2 _ | exact natc_add _ _ | exact natc_mul _ _ | exact natc (by omega)) (by omega) rfl ?_
        refine L_loadA rfl Try.agg48 Try.ti48 rfl (by first | exact cellsAt_part (n := 15) (hs.get (i := 0) rfl) hpart | exact cellsAt_whole (cs := t.cells) (hs.get (i := 0) rfl)) ?_
        refine L_alloc rfl hs Try.ti48 ?_; intro b7 w hb7 _ hs; replace hs := HS.push hs
        refine L_storeA hs (i := 0) rfl Try.ti48 rfl rfl (by first | rfl | exact add_lit0 _ _ | exact Addr.add_lit .. | (rw [add_add]; exact add_lit0 _ _)) (by simp [Tk.cells]) (by exact Tk.one _) ?_
        intro w hs
        try dsimp only [List.set_cons_succ, List.set_cons_zero, List.cons_append, List.nil_append] at hs
        refine RL_then ?_
        refine W_seq ?_
        refine W_region ?_
        refine L_move rfl rfl ?_
        refine L_loadA rfl Try.agg48 Try.ti48 rfl (by first | exact cellsAt_part (n := 15) (hs.get (i := 0) rfl) hpart | exact cellsAt_whole (cs := t.cells) (hs.get (i := 0) rfl)) ?_
        replace hs : HS w0 w ((b7, Row 48 t.cells) :: (g, Row 48 (Pr ++ (mid ++ (t.cells ++ Y)))) :: A) := hs
        refine L_callV rfl Try.fun41 rfl rfl (notfirm_ok t w) ?_
        rintro _ w' ⟨rfl, hs'⟩
        replace hs := hs.nil hs'
        clear hs'
        by_cases hf : t.kind = 1
        · rw [decide_eq_true hf]
          refine L_not rfl rfl ?_
          refine RL_then ?_
          refine W_if_true rfl ?_
          refine W_seq ?_
          refine W_region ?_
          refine L_move rfl rfl ?_
          refine L_move rfl rfl ?_
          refine L_loadA rfl Try.agg48 Try.ti48 rfl (by exact cellsAt_whole (cs := t.cells) (hs.get (i := 0) rfl)) ?_
          refine L_idxN rfl Try.underlying38 Try.ti48 rfl rfl (by with_reducible first | exact natc_k _ | exact natc_a1 _ | exact natc_0 | exact natc_1 | exact natc_2 | exact natc_s1 _ (by omega) | exact natc_a2 _ | exact natc_add _ _ | exact natc_mul _ _ | exact natc (by omega)) (by omega) rfl ?_
          refine L_storeA hs (i := 1) rfl Try.ti48 rfl rfl (by first | rfl | exact add_lit0 _ _ | exact Addr.add_lit .. | (rw [add_add]; exact add_lit0 _ _)) (by simp [hmid, hPl, Tk.cells]; omega) (by exact Tk.one _) ?_
          intro w hs
          try dsimp only [List.set_cons_succ, List.set_cons_zero, List.cons_append, List.nil_append] at hs
          refine RL_then ?_
          refine W_region ?_
          refine L_move rfl rfl ?_
          first | refine L_add rfl rfl rfl (wrp_i64 (by omega)) ?_ | refine L_add rfl rfl rfl rfl ?_
          refine L_assign rfl rfl ?_
          refine RL_nil' ?_
          refine Nx_block ?_
          refine Nx_then ?_
          refine W_region ?_
          refine L_move rfl rfl ?_
          first | refine L_add rfl rfl rfl (wrp_i64 (by omega)) ?_ | refine L_add rfl rfl rfl rfl ?_
          refine L_assign rfl rfl ?_
          refine RL_nil' ?_
          refine Nx_loopP (i + 1, j + 1, m1 ++ t.cells, _) (is := [0, 1, 5, 6]) (I' := (fun (i : Nat) (j : Nat) (mid : List Value) (w : World) => (j ≤ n) ∧ (i < j) ∧ ((firm (ts.take j)).length = i) ∧ (mid.length = (j - i) * 15) ∧ (HS w0 w ((g, Row 48 (tcs (firm (ts.take j)) ++ (mid ++ (tcs (ts.drop j) ++ sp)))) :: A))) (i + 1) (j + 1) (m1 ++ t.cells) (_)) rfl rfl rfl ?_ ?_
          · refine ⟨by omega, by omega, by rw [htk, firm_snoc_t hf, List.length_append, hil]; rfl, ?_, ?_⟩
            · have : mid.length = 15 + m1.length := by rw [hmid, List.length_append, hm0]
              rw [List.length_append, show t.cells.length = 15 from rfl, show j + 1 - (i + 1) = j - i by omega]; omega
            · rw [htk, firm_snoc_t hf, tcs_app, tcs_one', ← hPr, ← hY]
              replace hs := HS.pop hs hb7
              have e1 : (Pr ++ (mid ++ (t.cells ++ Y))).take (i * 15) = Pr := List.take_left' hPl
              have e2 : (Pr ++ (mid ++ (t.cells ++ Y))).drop (i * 15 + t.cells.length) = m1 ++ (t.cells ++ Y) := by
                rw [hmid, List.append_assoc m0, ← List.append_assoc Pr]
                exact List.drop_left' (by rw [List.length_append, hPl, hm0]; rfl)
              rw [e1, e2] at hs
              simp only [List.append_assoc] at hs ⊢
              exact hs
          · show n - (j + 1) < n - j; omega
        · rw [decide_eq_false hf]
          refine L_not rfl rfl ?_
          refine RL_then ?_
          refine W_if_false rfl ?_
          refine W_skip' ?_
          refine Nx_block ?_
          refine Nx_then ?_
          refine W_region ?_
          refine L_move rfl rfl ?_
          first | refine L_add rfl rfl rfl (wrp_i64 (by omega)) ?_ | refine L_add rfl rfl rfl rfl ?_
          refine L_assign rfl rfl ?_
          refine RL_nil' ?_
          refine Nx_loopP (i, j + 1, mid ++ t.cells, _) (is := [0, 1, 5, 6]) (I' := (fun (i : Nat) (j : Nat) (mid : List Value) (w : World) => (j ≤ n) ∧ (i < j) ∧ ((firm (ts.take j)).length = i) ∧ (mid.length = (j - i) * 15) ∧ (HS w0 w ((g, Row 48 (tcs (firm (ts.take j)) ++ (mid ++ (tcs (ts.drop j) ++ sp)))) :: A))) (i) (j + 1) (mid ++ t.cells) (_)) rfl rfl rfl ?_ ?_
          · refine ⟨by omega, by omega, by rw [htk, firm_snoc_f hf, hil], ?_, ?_⟩
            · rw [List.length_append, hml, show t.cells.length = 15 from rfl]; omega
            · rw [htk, firm_snoc_f hf, ← hPr, ← hY]
              replace hs := HS.pop hs hb7
              simp only [List.append_assoc] at hs ⊢
              exact hs
          · show n - (j + 1) < n - j; omega
      · obtain rfl : j = n := by omega
        rw [List.take_of_length_le (Nat.le_of_eq hn), List.drop_of_length_le (Nat.le_of_eq hn)] at hs
        rw [List.take_of_length_le (Nat.le_of_eq hn)] at hil
        refine W_seq ?_
        refine W_seq ?_
        refine W_region ?_
        refine L_move rfl rfl ?_
        refine L_move rfl rfl ?_
        refine L_len rfl Try.underlying38 rfl ?_
        first | refine L_lss rfl rfl rfl (dtrue (by omega)) ?_ | refine L_lss rfl rfl rfl (dfalse (by omega)) ?_ | refine L_lss rfl rfl rfl rfl ?_
        refine RL_then ?_
        refine W_if_false rfl ?_
        refine W_exit' ?_
        refine Ex_then_exit ?_
        refine Ex_loop_exit ?_
        refine Ex_block_hit ?_
        refine Nx_then ?_
        refine W_seq ?_
        refine W_region ?_
        refine L_move rfl rfl ?_
        refine L_move rfl rfl ?_
        refine RL_val rfl (R_slice100 Try.underlying38 Try.ti48 rfl rfl (by with_reducible first | exact natc_k _ | exact natc_a1 _ | exact natc_0 | exact natc_1 | exact natc_2 | exact natc_s1 _ (by omega) | exact natc_a2 _ | exact natc_add _ _ | exact natc_mul _ _ | exact natc (by omega)) (by omega)) ?_
        have hsl : slA (some (Addr.mk g 0 none)) i c 15 = some ⟨g, i * 15, none⟩ := by
          unfold slA
          rw [if_neg (by omega)]
          show some ((Addr.mk g 0 none).add (i * 15)) = _
          rw [add_lit0]
        refine RL_set 38 (v' := .slice (some ⟨g, i * 15, none⟩) (j - i) (c - i)) rfl (by rw [hsl]) ?_
        have hPl : (tcs (firm ts)).length = i * 15 := by rw [tcs_len, hil]
        refine L_clearN hs (i := 0) rfl Try.underlying38 Try.ti48 rfl (by simp [hPl]; omega) (by omega) rfl (zeroCells_one (fun v hv => Tk.one tk0 v hv) _) ?_
        intro w zs hzl hs
        replace hs : HS w0 w ((g, Row 48 (tcs (firm ts) ++ (zs ++ sp))) :: A) := by
          have e1 : (tcs (firm ts) ++ (mid ++ (tcs [] ++ sp))).take (i * 15) = tcs (firm ts) := List.take_left' hPl
          have e2 : (tcs (firm ts) ++ (mid ++ (tcs [] ++ sp))).drop (i * 15 + (j - i) * 15) = sp := by
            rw [← List.append_assoc]
            exact List.drop_left' (by rw [List.length_append, hPl, hml])
          rw [e1, e2, List.set_cons_zero, List.append_assoc] at hs
          exact hs
        refine RL_then ?_
        refine W_seq ?_
        refine W_region ?_
        refine L_move rfl rfl ?_
        refine L_move rfl rfl ?_
        refine RL_val rfl (R_slice010 Try.underlying38 Try.ti48 rfl rfl (by with_reducible first | exact natc_k _ | exact natc_a1 _ | exact natc_0 | exact natc_1 | exact natc_2 | exact natc_s1 _ (by omega) | exact natc_a2 _ | exact natc_add _ _ | exact natc_mul _ _ | exact natc (by omega)) (by omega)) ?_
        refine L_assign rfl rfl ?_
        refine RL_then ?_
        refine W_ret' ?_
        refine Ex_done1 rfl rfl ?_
        refine ⟨_, rfl, zs ++ sp, by rw [hil], hs, ?_⟩
        rw [List.length_append, List.length_append, List.length_append, hPl, hzl, tcs_len, hn]; omega
  · have hall : firm ts = ts := firm_all fun q hq => Classical.not_not.1 (hno q (by omega))
    refine L_assign rfl rfl ?_
    refine RL_then ?_
    refine W_seq ?_
    refine W_seq ?_
    refine W_region ?_
    refine L_move rfl rfl ?_
    first | refine L_eql rfl rfl rfl (dtrue (by omega)) ?_ | refine L_eql rfl rfl rfl (dfalse (by omega)) ?_ | refine L_eql rfl rfl rfl rfl ?_
    refine RL_then ?_
    refine W_if_true rfl ?_
    refine W_seq ?_
    refine W_region ?_
    refine L_move rfl rfl ?_
    refine L_assign rfl rfl ?_
    refine RL_then ?_
    refine W_ret' ?_
    refine Ex_then_ret ?_
    refine Ex_done1 rfl rfl ?_
    exact ⟨_, rfl, sp, by rw [hall, hn], by rw [hall]; exact hs, by rw [hall]⟩
end Go.Proofs.Ytknpoemkmcdgcaa
