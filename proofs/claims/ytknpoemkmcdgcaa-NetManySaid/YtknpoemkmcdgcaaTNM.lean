/-
 A part of the proof: laws for walks, and plain laws, over any program of the model. Each theorem holds under its own premises alone.
-/
import Derived.Test.YtknpoemkmcdgcaaTNK
import Derived.Test.YtknpoemkmcdgcaaKitY
namespace Go.Proofs.Ytknpoemkmcdgcaa
open Go Go.Lk
/-! ### 'slices.DeleteFunc' of tracks that are not firm -/
def firm (ts : List Tk) : List Tk := ts.filter fun t => decide (t.kind = 1)
theorem tcs_app (ts us : List Tk) : tcs (ts ++ us) = tcs ts ++ tcs us := List.flatMap_append ..
theorem tcs_one' (t : Tk) : tcs [t] = t.cells := by simp [tcs]
theorem firm_all {ts : List Tk} (h : ∀ i, i < ts.length → (ts.getD i tk0).kind = 1) : firm ts = ts := by
 unfold firm
 rw [List.filter_eq_self]
 intro t ht
 obtain ⟨i, hi, rfl⟩ := List.getElem_of_mem ht
 have := h i hi
 rw [List.getD_eq_getElem?_getD, List.getElem?_eq_getElem hi] at this
 exact decide_eq_true this
theorem firm_len (ts : List Tk) : (firm ts).length ≤ ts.length := List.length_filter_le ..
theorem drop_tk {ts : List Tk} {j : Nat} (h : j < ts.length) : ts.drop j = ts.getD j tk0 :: ts.drop (j + 1) := by
 rw [List.drop_eq_getElem_cons h, List.getD_eq_getElem?_getD, List.getElem?_eq_getElem h]; rfl
theorem take_tk {ts : List Tk} {j : Nat} (h : j < ts.length) : ts.take (j + 1) = ts.take j ++ [ts.getD j tk0] := take_snoc (by rw [List.getD_eq_getElem?_getD, List.getElem?_eq_getElem h]; rfl)
theorem firm_snoc_t {ts : List Tk} {t : Tk} (h : t.kind = 1) : firm (ts ++ [t]) = firm ts ++ [t] := by
 unfold firm; rw [List.filter_append]; simp [h]
theorem firm_snoc_f {ts : List Tk} {t : Tk} (h : t.kind ≠ 1) : firm (ts ++ [t]) = firm ts := by
 unfold firm; rw [List.filter_append]; simp [h]
set_option maxHeartbeats 1000000 in
theorem delete_ok (g n c : Nat) (ts : List Tk) (sp : List Value) (A : Bks) (w0 w : World) (hs : HS w0 w ((g, Row 48 (tcs ts ++ sp)) :: A)) (hn : ts.length = n) (hn2 : n ≤ 1000000) (hc : n ≤ c) :
  Ret Try.prog 39 [.slice (some ⟨g, 0, none⟩) n c, .func (.func 41) #[] #[]] w fun v w' => ∃ sp', v = .slice (some ⟨g, 0, none⟩) (firm ts).length c ∧ HS w0 w' ((g, Row 48 (tcs (firm ts) ++ sp')) :: A) ∧ (tcs (firm ts) ++ sp').length = (tcs ts ++ sp).length := by
 have hx : SlC w (some ⟨g, 0, none⟩) (tcs ts) := SlC.of_row (hs.get (i := 0) rfl)
 refine calls_of_W Try.func39 rfl rfl rfl (W_seq (W_region (L_assign rfl rfl (RL_then (W_seq (W_region (L_move rfl rfl (L_move rfl rfl (L_call rfl Try.fun60 rfl (tindex_ok (some ⟨g, 0, none⟩) n c ts w hx hn hn2) ?_)))))))))
 rintro _ w1 ⟨j, rfl, hs', hF⟩
 replace hs := hs.nil hs'
 clear hs'
 obtain ⟨i0, hi0, rfl, hp0, hq0⟩ | ⟨rfl, hno⟩ := hF
 ·
  have hf0 : ∀ q, q < i0 → (ts.getD q tk0).kind = 1 := fun q hq => Classical.not_not.1 (hq0 q hq)
  have hft : firm (ts.take i0) = ts.take i0 := firm_all fun q hq => by
   rw [List.length_take] at hq
   rw [List.getD_eq_getElem?_getD, List.getElem?_take_of_lt (by omega), ← List.getD_eq_getElem?_getD]
   exact hf0 q (by omega)
  have hft1 : firm (ts.take (i0 + 1)) = ts.take i0 := by rw [take_tk (by omega), firm_snoc_f hp0, hft]
  refine L_assign rfl rfl (RL_then (W_seq (W_seq (W_region (L_move rfl rfl (L_eql rfl rfl rfl (dfalse (by omega)) ?_))))))
  refine RL_then (W_if_false rfl (W_skip' (Nx_then (W_seq (W_seq (W_region (L_move rfl rfl (L_add rfl rfl rfl (wrp_i64 (by omega)) ?_))))))))
  refine L_assign rfl rfl (RL_then (W_block ?_))
  refine W_loop4 (fun (i : Nat) (j : Nat) (mid : List Value) (w : World) => [(0, .slice (some ⟨g, 0, none⟩) n c), (1, .func (.func 41) #[] #[]), (5, .int .i64 i), (6, .int .i64 j)]) (fun (i : Nat) (j : Nat) (mid : List Value) (w : World) => w) (fun (i : Nat) (j : Nat) (mid : List Value) (w : World) => (j ≤ n) ∧ (i < j) ∧ ((firm (ts.take j)).length = i) ∧ (mid.length = (j - i) * 15) ∧ (HS w0 w ((g, Row 48 (tcs (firm (ts.take j)) ++ (mid ++ (tcs (ts.drop j) ++ sp)))) :: A))) (fun (i : Nat) (j : Nat) (mid : List Value) (w : World) => n - j) (i0) (i0 + 1) ((ts.getD i0 tk0).cells) (_) (is := [0, 1, 5, 6]) rfl rfl ?_ ?_
  ·
   refine ⟨hi0, Nat.lt_succ_self _, by rw [hft1, List.length_take]; omega, by rw [Nat.add_sub_cancel_left]; rfl, ?_⟩
   rw [hft1]
   have e : tcs ts = tcs (ts.take i0) ++ ((ts.getD i0 tk0).cells ++ tcs (ts.drop (i0 + 1))) := by
    rw [← tcs_one' (ts.getD i0 tk0), ← tcs_app, ← tcs_app]
    congr 1
    rw [List.singleton_append, ← drop_tk (by omega), List.take_append_drop]
   rw [e] at hs
   simp only [List.append_assoc] at hs ⊢
   exact hs
  ·
   clear hs
   intro i j mid w hI
   show W _ _ _ _ [(0, .slice (some ⟨g, 0, none⟩) n c), (1, .func (.func 41) #[] #[]), (5, .int .i64 i), (6, .int .i64 j)] w
   obtain ⟨hj, hij, hil, hml, hs⟩ := hI
   by_cases hlj : j < n
   ·
    obtain ⟨t, hth⟩ : ∃ t, t = ts.getD j tk0 := ⟨_, rfl⟩
    have hdr := drop_tk (ts := ts) (j := j) (by omega)
    have htk := take_tk (ts := ts) (j := j) (by omega)
    rw [← hth] at hdr htk
    have hd2 : tcs (ts.drop j) = t.cells ++ tcs (ts.drop (j + 1)) := by rw [hdr, ← List.singleton_append, tcs_app, tcs_one']
    obtain ⟨Pr, hPr⟩ : ∃ Pr, Pr = tcs (firm (ts.take j)) := ⟨_, rfl⟩
    have hPl : Pr.length = i * 15 := by rw [hPr, tcs_len, hil]
    obtain ⟨Y, hY⟩ : ∃ Y, Y = tcs (ts.drop (j + 1)) ++ sp := ⟨_, rfl⟩
    rw [hd2, ← hPr, List.append_assoc t.cells, ← hY] at hs
    have hpart : ((Pr ++ (mid ++ (t.cells ++ Y))).drop (j * 15)).take 15 = t.cells := by
     rw [← List.append_assoc, List.drop_left' (by rw [List.length_append, hPl, hml]; omega)]
     exact List.take_left' rfl
    obtain ⟨m0, m1, hm0, hmid⟩ : ∃ m0 m1, List.length m0 = 15 ∧ mid = m0 ++ m1 := ⟨mid.take 15, mid.drop 15, by rw [List.length_take]; omega, (List.take_append_drop ..).symm⟩
    refine W_seq (W_seq (W_region (L_move rfl rfl (L_move rfl rfl (L_len rfl Try.underlying38 rfl (L_lss rfl rfl rfl (dtrue (by omega)) ?_))))))
    refine RL_then (W_if_true rfl (W_skip' (Nx_then (W_seq (W_block (W_seq (W_region (L_move rfl rfl (L_move rfl rfl (L_idxN rfl Try.underlying38 Try.ti48 rfl rfl (natc_k _) (by omega) rfl ?_))))))))))
    refine L_loadA rfl Try.agg48 Try.ti48 rfl (by exact cellsAt_part (n := 15) (hs.get (i := 0) rfl) hpart) ?_
    refine L_alloc rfl hs Try.ti48 ?_; intro b7 w hb7 _ hs; replace hs := HS.push hs
    refine L_storeA hs (i := 0) rfl Try.ti48 rfl rfl (by rfl) (by simp [Tk.cells]) (by exact Tk.one _) ?_
    intro w hs
    dsimp only [List.set_cons_succ, List.set_cons_zero, List.cons_append, List.nil_append] at hs
    refine RL_then (W_seq (W_region (L_move rfl rfl (L_loadA rfl Try.agg48 Try.ti48 rfl (by exact cellsAt_whole (cs := t.cells) (hs.get (i := 0) rfl)) ?_))))
    replace hs : HS w0 w ((b7, Row 48 t.cells) :: (g, Row 48 (Pr ++ (mid ++ (t.cells ++ Y)))) :: A) := hs
    refine L_callV rfl Try.fun41 rfl rfl (notfirm_ok t w) ?_
    rintro _ w' ⟨rfl, hs'⟩
    replace hs := hs.nil hs'
    clear hs'
    by_cases hf : t.kind = 1
    ·
     rw [decide_eq_true hf]
     refine L_not rfl rfl (RL_then (W_if_true rfl (W_seq (W_region (L_move rfl rfl (L_move rfl rfl (L_loadA rfl Try.agg48 Try.ti48 rfl (by exact cellsAt_whole (cs := t.cells) (hs.get (i := 0) rfl)) ?_)))))))
     refine L_idxN rfl Try.underlying38 Try.ti48 rfl rfl (natc_k _) (by omega) rfl ?_
     refine L_storeA hs (i := 1) rfl Try.ti48 rfl rfl (by exact add_lit0 _ _) (by simp [hmid, hPl, Tk.cells]; omega) (by exact Tk.one _) ?_
     intro w hs
     dsimp only [List.set_cons_succ, List.set_cons_zero, List.cons_append, List.nil_append] at hs
     refine RL_then (W_region (L_move rfl rfl (L_add rfl rfl rfl (wrp_i64 (by omega)) ?_)))
     refine L_assign rfl rfl (RL_nil' (Nx_block (Nx_then (W_region (L_move rfl rfl (L_add rfl rfl rfl (wrp_i64 (by omega)) ?_))))))
     refine L_assign rfl rfl (RL_nil' ?_)
     refine Nx_loopP (i + 1, j + 1, m1 ++ t.cells, _) (is := [0, 1, 5, 6]) (I' := (fun (i : Nat) (j : Nat) (mid : List Value) (w : World) => (j ≤ n) ∧ (i < j) ∧ ((firm (ts.take j)).length = i) ∧ (mid.length = (j - i) * 15) ∧ (HS w0 w ((g, Row 48 (tcs (firm (ts.take j)) ++ (mid ++ (tcs (ts.drop j) ++ sp)))) :: A))) (i + 1) (j + 1) (m1 ++ t.cells) (_)) rfl rfl rfl ?_ ?_
     ·
      refine ⟨by omega, by omega, by rw [htk, firm_snoc_t hf, List.length_append, hil]; rfl, ?_, ?_⟩
      ·
       have : mid.length = 15 + m1.length := by rw [hmid, List.length_append, hm0]
       rw [List.length_append, show t.cells.length = 15 from rfl, show j + 1 - (i + 1) = j - i by omega]; omega
      ·
       rw [htk, firm_snoc_t hf, tcs_app, tcs_one', ← hPr, ← hY]
       replace hs := HS.pop hs hb7
       have e1 : (Pr ++ (mid ++ (t.cells ++ Y))).take (i * 15) = Pr := List.take_left' hPl
       have e2 : (Pr ++ (mid ++ (t.cells ++ Y))).drop (i * 15 + t.cells.length) = m1 ++ (t.cells ++ Y) := by
        rw [hmid, List.append_assoc m0, ← List.append_assoc Pr]
        exact List.drop_left' (by rw [List.length_append, hPl, hm0]; rfl)
       rw [e1, e2] at hs
       simp only [List.append_assoc] at hs ⊢
       exact hs
     ·
      show n - (j + 1) < n - j; omega
    ·
     rw [decide_eq_false hf]
     refine L_not rfl rfl (RL_then (W_if_false rfl (W_skip' (Nx_block (Nx_then (W_region (L_move rfl rfl (L_add rfl rfl rfl (wrp_i64 (by omega)) ?_))))))))
     refine L_assign rfl rfl (RL_nil' ?_)
     refine Nx_loopP (i, j + 1, mid ++ t.cells, _) (is := [0, 1, 5, 6]) (I' := (fun (i : Nat) (j : Nat) (mid : List Value) (w : World) => (j ≤ n) ∧ (i < j) ∧ ((firm (ts.take j)).length = i) ∧ (mid.length = (j - i) * 15) ∧ (HS w0 w ((g, Row 48 (tcs (firm (ts.take j)) ++ (mid ++ (tcs (ts.drop j) ++ sp)))) :: A))) (i) (j + 1) (mid ++ t.cells) (_)) rfl rfl rfl ?_ ?_
     ·
      refine ⟨by omega, by omega, by rw [htk, firm_snoc_f hf, hil], ?_, ?_⟩
      ·
       rw [List.length_append, hml, show t.cells.length = 15 from rfl]; omega
      ·
       rw [htk, firm_snoc_f hf, ← hPr, ← hY]
       replace hs := HS.pop hs hb7
       simp only [List.append_assoc] at hs ⊢
       exact hs
     ·
      show n - (j + 1) < n - j; omega
   ·
    obtain rfl : j = n := by omega
    rw [List.take_of_length_le (Nat.le_of_eq hn), List.drop_of_length_le (Nat.le_of_eq hn)] at hs
    rw [List.take_of_length_le (Nat.le_of_eq hn)] at hil
    refine W_seq (W_seq (W_region (L_move rfl rfl (L_move rfl rfl (L_len rfl Try.underlying38 rfl (L_lss rfl rfl rfl (dfalse (by omega)) ?_))))))
    refine RL_then (W_if_false rfl (W_exit' (Ex_then_exit (Ex_loop_exit (Ex_block_hit (Nx_then (W_seq (W_region (L_move rfl rfl (L_move rfl rfl (RL_val rfl (R_slice100 Try.underlying38 Try.ti48 rfl rfl (natc_k _) (by omega)) ?_)))))))))))
    have hsl : slA (some (Addr.mk g 0 none)) i c 15 = some ⟨g, i * 15, none⟩ := by
     unfold slA
     rw [if_neg (by omega)]
     show some ((Addr.mk g 0 none).add (i * 15)) = _
     rw [add_lit0]
    refine RL_set 38 (v' := .slice (some ⟨g, i * 15, none⟩) (j - i) (c - i)) rfl (by rw [hsl]) ?_
    have hPl : (tcs (firm ts)).length = i * 15 := by rw [tcs_len, hil]
    refine L_clearN hs (i := 0) rfl Try.underlying38 Try.ti48 rfl (by simp [hPl]; omega) (by omega) rfl (zeroCells_one (fun v hv => Tk.one tk0 v hv) _) ?_
    intro w zs hzl hs
    replace hs : HS w0 w ((g, Row 48 (tcs (firm ts) ++ (zs ++ sp))) :: A) := by
     have e1 : (tcs (firm ts) ++ (mid ++ (tcs [] ++ sp))).take (i * 15) = tcs (firm ts) := List.take_left' hPl
     have e2 : (tcs (firm ts) ++ (mid ++ (tcs [] ++ sp))).drop (i * 15 + (j - i) * 15) = sp := by
      rw [← List.append_assoc]
      exact List.drop_left' (by rw [List.length_append, hPl, hml])
     rw [e1, e2, List.set_cons_zero, List.append_assoc] at hs
     exact hs
    refine RL_then (W_seq (W_region (L_move rfl rfl (L_move rfl rfl (RL_val rfl (R_slice010 Try.underlying38 Try.ti48 rfl rfl (natc_k _) (by omega)) ?_)))))
    refine L_assign rfl rfl (RL_then (W_ret' (Ex_done1 rfl rfl ?_)))
    refine ⟨_, rfl, zs ++ sp, by rw [hil], hs, ?_⟩
    rw [List.length_append, List.length_append, List.length_append, hPl, hzl, tcs_len, hn]; omega
 ·
  have hall : firm ts = ts := firm_all fun q hq => Classical.not_not.1 (hno q (by omega))
  refine L_assign rfl rfl (RL_then (W_seq (W_seq (W_region (L_move rfl rfl (L_eql rfl rfl rfl (dtrue (by omega)) ?_))))))
  refine RL_then (W_if_true rfl (W_seq (W_region (L_move rfl rfl (L_assign rfl rfl (RL_then (W_ret' (Ex_then_ret (Ex_done1 rfl rfl ?_)))))))))
  exact ⟨_, rfl, sp, by rw [hall, hn], by rw [hall]; exact hs, by rw [hall]⟩
end Go.Proofs.Ytknpoemkmcdgcaa

namespace Go.Proofs.Ytknpoemkmcdgcaa
open Go Go.Lk
/-! ### A net that is made, in general: New, Add, Tell -/
def newE (far : Nat) : Int := if finB far then (if (FloatKind.f64.format.order far 4156822456062967808 == some .lt || FloatKind.f64.format.order far 5057542381537067008 == some .gt) then 2 else 0) else 6
theorem FarOk.of {far : Nat} (hlt : far < 18446744073709551616) (h : newE far = 0) : FarOk far := by
 unfold newE at h
 split at h
 ·
  next hf =>
  split at h
  ·
   exact absurd h (by decide)
  ·
   next h2 =>
   rw [Bool.or_eq_true, not_or] at h2
   exact ⟨hlt, hf, by simpa using h2.1, by simpa using h2.2⟩
 ·
  exact absurd h (by decide)
theorem finite1 (far : Nat) (w0 w : World) (b : Nat) (hs : HS w0 w [(b, Row 22 (fl [far]))]) (hlt : far < 18446744073709551616) :
  Ret Try.prog 30 [.slice (some ⟨b, 0, none⟩) 1 1] w fun v w' => v = .bool (finB far) ∧ HS w0 w' [(b, Row 22 (fl [far]))] := by
 have hx : SlC w (some ⟨b, 0, none⟩) (fl [far]) := SlC.of_row (sp := []) (hs.get (i := 0) rfl)
 refine Calls.mono (finite_ok (some ⟨b, 0, none⟩) 1 1 [far] w hx rfl (by decide) (fun i hi => by match i, hi with | 0, _ => exact hlt)) fun e w' => ?_
 rintro ⟨v, rfl, rfl, hs'⟩
 exact ⟨_, rfl, by simp, hs.nil hs'⟩
theorem newG (far : Nat) (w0 : World) (hlt : far < 18446744073709551616) :
  Ret Try.prog 12 [.float .f64 far] w0 fun v w' => (newE far = 0 ∧ ∃ B, v = .tuple #[.pointer (some ⟨B, 0, none⟩), .int .i64 0] ∧ HS w0 w' [(B, Row 76 [.float .f64 far, .slice none 0 0])] ∧ w0.heap.size ≤ B) ∨ (newE far ≠ 0 ∧ v = .tuple #[.pointer none, .int .i64 (newE far)] ∧ HS w0 w' []) := by
 by_cases h0 : newE far = 0
 ·
  have hf := FarOk.of hlt h0
  refine Calls.mono (new_ok far w0 hlt hf.fin hf.low hf.high) fun e w' => ?_
  rintro ⟨v, rfl, B, rfl, hs, hB⟩
  exact ⟨_, rfl, .inl ⟨h0, B, rfl, hs, hB⟩⟩
 ·
  refine Ret.start fun w hs => ?_
  refine calls_of_W Try.func12 rfl rfl rfl (W_seq (W_region (L_assign rfl rfl (L_assign rfl rfl (RL_then (W_seq (W_block (W_seq (W_region (L_move rfl rfl (L_buildSlice1 rfl hs Try.underlying106 Try.ti22 rfl (by decide) rfl rfl ?_)))))))))))
  intro b6 w hb6 hnb6 hs
  simp only [List.map_cons, List.map_nil] at hs
  dsimp only [List.set_cons_succ, List.set_cons_zero, List.cons_append, List.nil_append] at hs
  refine L_call rfl Try.fun30 rfl (finite1 far w0 w b6 hs hlt) ?_
  rintro _ w ⟨rfl, hs'⟩
  replace hs := hs'.forget (Own.cons hb6 Own.nil)
  clear hs'
  cases hf : finB far
  ·
   refine L_not rfl rfl (L_assign rfl rfl (RL_then (W_if_true rfl (W_seq (W_region (L_assign rfl rfl (L_assign rfl rfl (RL_then (W_ret' (Ex_block_ret (Ex_then_ret (Ex_done2 rfl rfl rfl ?_))))))))))))
   have e : newE far = 6 := by unfold newE; rw [hf, if_neg (by decide)]
   exact ⟨_, rfl, .inr ⟨h0, by rw [e], hs⟩⟩
  ·
   have hr : (FloatKind.f64.format.order far 4156822456062967808 == some .lt || FloatKind.f64.format.order far 5057542381537067008 == some .gt) = true := by
    unfold newE at h0
    rw [hf, if_pos rfl] at h0
    cases h : (FloatKind.f64.format.order far 4156822456062967808 == some .lt || FloatKind.f64.format.order far 5057542381537067008 == some .gt) with
    | true => rfl
    | false => rw [h] at h0; exact absurd rfl h0
   have e : newE far = 2 := by unfold newE; rw [hf, if_pos rfl, hr, if_pos rfl]
   cases h1 : FloatKind.f64.format.order far 4156822456062967808 == some .lt
   ·
    have h2 : (FloatKind.f64.format.order far 5057542381537067008 == some .gt) = true := by rw [h1, Bool.false_or] at hr; exact hr
    refine L_not rfl rfl (L_assign rfl rfl (RL_then (W_if_false rfl (W_seq (W_region (L_move rfl rfl ?_))))))
    refine L_fcmp rfl rfl rfl (fun _ => by rw [binOp_float_cmp_lss, h1]; rfl) ?_
    refine L_move rfl rfl (RL_want rfl rfl (L_move rfl rfl (RL_want rfl rfl ?_)))
    refine L_fcmp rfl rfl rfl (fun _ => by rw [binOp_float_cmp_gtr, h2]; rfl) ?_
    refine L_pick_f rfl rfl rfl (L_assign rfl rfl (RL_then (W_if_true rfl (W_seq (W_region (L_assign rfl rfl (L_assign rfl rfl (RL_then (W_ret' (Ex_block_ret (Ex_then_ret (Ex_done2 rfl rfl rfl ?_))))))))))))
    exact ⟨_, rfl, .inr ⟨h0, by rw [e], hs⟩⟩
   ·
    skip
    refine L_not rfl rfl (L_assign rfl rfl (RL_then (W_if_false rfl (W_seq (W_region (L_move rfl rfl ?_))))))
    refine L_fcmp rfl rfl rfl (fun _ => by rw [binOp_float_cmp_lss, h1]; rfl) ?_
    refine L_move rfl rfl (RL_skip rfl rfl rfl rfl (RL_skip rfl rfl rfl rfl (L_pick_t rfl rfl rfl (L_assign rfl rfl (RL_then (W_if_true rfl (W_seq (W_region (L_assign rfl rfl (L_assign rfl rfl (RL_then (W_ret' ?_))))))))))))
    refine Ex_block_ret (Ex_then_ret (Ex_done2 rfl rfl rfl ?_))
    exact ⟨_, rfl, .inr ⟨h0, by rw [e], hs⟩⟩
structure RM where
 rd : Rd
 M : Bks
def rm0 : RM := ⟨rd0, []⟩
def RM.v (m : RM) : Value := .slice m.rd.a m.rd.ts.length m.rd.c
def rmb (ms : List RM) : Bks := ms.flatMap RM.M
def rds (ms : List RM) : List Rd := ms.map RM.rd
theorem rds_len (ms : List RM) : (rds ms).length = ms.length := List.length_map ..
abbrev nbs (B far : Nat) (v : Value) (M : Bks) (ms : List RM) : Bks := (B, Row 76 [.float .f64 far, v]) :: (M ++ rmb ms)
structure RM.ok (w0 : World) (m : RM) : Prop where
 bl : Bl w0 48 15 m.v m.rd.ts.length (tcs m.rd.ts) m.M
 len : m.rd.ts.length ≤ 256
 turn : m.rd.t < 18446744073709551616
structure NetOk (w0 : World) (B : Nat) (v : Value) (M : Bks) (ms : List RM) : Prop where
 own : w0.heap.size ≤ B
 bl : Bl w0 84 4 v ms.length (rcs (rds ms)) M
 each : ∀ m ∈ ms, m.ok w0
 len : ms.length ≤ 16
theorem rmb_own {w0 : World} {ms : List RM} (h : ∀ m ∈ ms, m.ok w0) : Own w0 (rmb ms) := fun p hp => by
 obtain ⟨m, hm, hp⟩ := List.mem_flatMap.1 hp
 exact (h m hm).bl.own p hp
theorem NetOk.owns {w0 : World} {B far : Nat} {v : Value} {M : Bks} {ms : List RM} (h : NetOk w0 B v M ms) : Own w0 (nbs B far v M ms) := Own.cons h.own (h.bl.own.app (rmb_own h.each))
theorem rds_get {ms : List RM} {i : Nat} (h : i < ms.length) : (rds ms).getD i rd0 = (ms.getD i rm0).rd := by
 unfold rds
 rw [List.getD_eq_getElem?_getD, List.getElem?_map, List.getElem?_eq_getElem h, List.getD_eq_getElem?_getD, List.getElem?_eq_getElem h]; rfl
/-- the net is there to be read -/
theorem NetOk.at {w0 w : World} {B far : Nat} {v : Value} {M L : Bks} {ms : List RM} (h : NetOk w0 B v M ms) (hs : HS w0 w L) (hL : ∀ p ∈ nbs B far v M ms, p ∈ L) : NetAt w B far (rds ms) := by
 have hB : (B, Row 76 [.float .f64 far, v]) ∈ L := hL _ (List.mem_cons_self ..)
 obtain ⟨a, c, hv, _⟩ := h.bl.slice
 refine ⟨Lk.cell_of_row (hs.has _ hB) rfl, ⟨a, c, ?_, ?_⟩, fun i hi => ?_⟩
 ·
  rw [rds_len, ← hv]; exact Lk.cell_of_row (hs.has _ hB) rfl
 ·
  have hb := h.bl
  rw [hv] at hb
  exact Bl.slcM hb hs (fun p hp => hL _ (List.mem_cons_of_mem _ (List.mem_append_left _ hp)))
 ·
  rw [rds_len] at hi
  rw [rds_get hi]
  have hm : ms.getD i rm0 ∈ ms := getD_mem hi
  exact Bl.slcM (h.each _ hm).bl hs (fun p hp => hL _ (List.mem_cons_of_mem _ (List.mem_append_right _ (List.mem_flatMap.2 ⟨_, hm, hp⟩))))
theorem fusedG (w0 w : World) (B far : Nat) (v : Value) (M R : Bks) (ms : List RM) (hs : HS w0 w (nbs B far v M ms ++ R)) (hN : NetOk w0 B v M ms) (hf : FarOk far) :
  Ret Try.prog 22 [.pointer (some ⟨B, 0, none⟩)] w fun v9 w' => ∃ S fs Mo, FusTo far (rds ms) ms.length S ∧ fs.map Th.s = S.map prt ∧ Bl w0 64 5 v9 fs.length (fcs fs) Mo ∧ (∀ t ∈ fs, Bl w0 3 1 t.v t.seen.length (il t.seen) t.M) ∧ HS w0 w' ((nbs B far v M ms ++ R) ++ (Mo ++ fms fs)) ∧ fs.length ≤ 4096 ∧ ∀ t ∈ fs, t.seen.length ≤ 4097 := by
 refine Calls.mono (fused_ok B far (rds ms) w (hN.at hs (fun p hp => List.mem_append_left _ hp)) hf (by rw [rds_len]; exact hN.len) (fun i hi => ?_) (fun i hi => ?_)) fun e w' => ?_
 ·
  rw [rds_len] at hi
  rw [rds_get hi]; exact (hN.each _ (getD_mem hi)).len
 ·
  rw [rds_len] at hi
  rw [rds_get hi]; exact (hN.each _ (getD_mem hi)).turn
 ·
  rintro ⟨v9, rfl, S, fs, Mo, hF, hm, hb, hfb, hs', h1, h2⟩
  rw [rds_len] at hF
  refine ⟨_, rfl, S, fs, Mo, hF, hm, hb.mono hs.size, fun t ht => (hfb t ht).mono hs.size, hs.call hs' (hb.own.app fun p hp => ?_), h1, h2⟩
  obtain ⟨t, ht, hp⟩ := List.mem_flatMap.1 hp
  exact (hfb t ht).own p hp
def addE (k x y t : Nat) : Int := if 16 ≤ k then 4 else if [x, y, t].all finB then 0 else 6
theorem rcs_app (rs us : List Rd) : rcs (rs ++ us) = rcs rs ++ rcs us := List.flatMap_append ..
theorem addG (w0 w : World) (B far : Nat) (v : Value) (M R : Bks) (ms : List RM) (x y t : Nat) (hs : HS w0 w (nbs B far v M ms ++ R)) (hN : NetOk w0 B v M ms)
  (hx : x < 18446744073709551616) (hy : y < 18446744073709551616) (ht : t < 18446744073709551616) :
  Ret Try.prog 20 [.pointer (some ⟨B, 0, none⟩), .agg #[.float .f64 x, .float .f64 y, .float .f64 t]] w fun r w' =>
   (addE ms.length x y t = 0 ∧ ∃ v' M', r = .tuple #[.int .i64 ms.length, .int .i64 0] ∧ HS w0 w' (nbs B far v' M' (ms ++ [⟨⟨x, y, t, none, 0, []⟩, []⟩]) ++ R) ∧ NetOk w0 B v' M' (ms ++ [⟨⟨x, y, t, none, 0, []⟩, []⟩])) ∨
   (addE ms.length x y t ≠ 0 ∧ r = .tuple #[.int .i64 0, .int .i64 (addE ms.length x y t)] ∧ HS w0 w' (nbs B far v M ms ++ R)) := by
 by_cases h0 : addE ms.length x y t = 0
 ·
  have hk : ms.length < 16 := by
   unfold addE at h0
   split at h0
   ·
    exact absurd h0 (by decide)
   ·
    omega
  have hf : [x, y, t].all finB = true := by
   unfold addE at h0
   rw [if_neg (by omega)] at h0
   split at h0
   ·
    assumption
   ·
    exact absurd h0 (by decide)
  refine Calls.mono (add_ok w0 w B far ms.length v (rcs (rds ms)) M (rmb ms ++ R) x y t (HS.re hs (fun c => by simp only [List.map_append, List.map_cons, List.map_nil, List.sum_append, List.sum_cons, List.sum_nil]; omega)) hN.bl hk hx hy ht hf) fun e w' => ?_
  rintro ⟨r, rfl, v', M', rfl, hs', hb'⟩
  refine ⟨_, rfl, .inl ⟨h0, v', M', rfl, ?_, ?_⟩⟩
  ·
   rw [nbs, show rmb (ms ++ [⟨⟨x, y, t, none, 0, []⟩, []⟩]) = rmb ms by simp [rmb]]
   exact HS.re hs' (fun c => by simp only [List.map_append, List.map_cons, List.map_nil, List.sum_append, List.sum_cons, List.sum_nil]; omega)
  ·
   refine ⟨hN.own, ?_, fun m hm => (List.mem_append.1 hm).elim (hN.each m) fun h => ?_, by rw [List.length_append, List.length_singleton]; omega⟩
   ·
    rw [List.length_append, show rcs (rds (ms ++ [⟨⟨x, y, t, none, 0, []⟩, []⟩])) = rcs (rds ms) ++ [.float .f64 x, .float .f64 y, .float .f64 t, .slice none 0 0] by simp [rds, rcs, Rd.cells]]
    exact hb'
   ·
    rw [List.mem_singleton.1 h]
    exact ⟨.nil, Nat.zero_le _, ht⟩
 ·
  have hb := hN.bl
  obtain ⟨ao, c, rfl, hkc⟩ := hb.slice
  have hlen := hN.len
  refine calls_of_W Try.func20 rfl rfl rfl (W_seq (W_region (L_box rfl hs rfl ?_)))
  intro b3 w hb3 hnb3 hs
  dsimp only [List.set_cons_succ, List.set_cons_zero, List.cons_append, List.nil_append] at hs
  refine L_assign rfl rfl (L_assign rfl rfl (RL_then (W_seq (W_block (W_seq (W_region ?_))))))
  replace hs : HS w0 w ((b3, Row 37 [.float .f64 x, .float .f64 y, .float .f64 t]) :: (nbs B far (.slice ao ms.length c) M ms ++ R)) := HS.push (L := nbs B far (.slice ao ms.length c) M ms ++ R) hs
  by_cases hk : 16 ≤ ms.length
  ·
   have e : addE ms.length x y t = 4 := by unfold addE; rw [if_pos hk]
   refine L_move rfl rfl (L_ptrNil rfl Try.underlying26 rfl rfl (L_assign rfl rfl (RL_then (W_if_false rfl (W_seq (W_region (L_move rfl rfl (L_nilCheck rfl rfl (L_fieldAddr rfl (off := 1) Try.underlying76 rfl rfl Try.ti74 rfl (L_load rfl Try.one74 rfl (by exact hs.cell (i := 1) rfl rfl) ?_))))))))))
   refine L_len rfl Try.underlying74 rfl (L_geq rfl rfl rfl (dtrue (by omega)) ?_)
   refine L_assign rfl rfl (RL_then (W_if_true rfl (W_seq (W_region (L_assign rfl rfl (L_assign rfl rfl (RL_then (W_ret' (Ex_block_ret (Ex_then_ret (Ex_done2 rfl rfl rfl ?_)))))))))))
   refine ⟨_, rfl, .inr ⟨h0, by rw [e], HS.pop hs hb3⟩⟩
  ·
   have hf : [x, y, t].all finB = false := by
    unfold addE at h0
    rw [if_neg hk] at h0
    cases h : [x, y, t].all finB with
    | false => rfl
    | true => rw [h] at h0; exact absurd rfl h0
   have e : addE ms.length x y t = 6 := by unfold addE; rw [if_neg hk, hf, if_neg (by decide)]
   refine L_move rfl rfl (L_ptrNil rfl Try.underlying26 rfl rfl (L_assign rfl rfl (RL_then (W_if_false rfl (W_seq (W_region (L_move rfl rfl (L_nilCheck rfl rfl (L_fieldAddr rfl (off := 1) Try.underlying76 rfl rfl Try.ti74 rfl (L_load rfl Try.one74 rfl (by exact hs.cell (i := 1) rfl rfl) ?_))))))))))
   refine L_len rfl Try.underlying74 rfl (L_geq rfl rfl rfl (dfalse (by omega)) ?_)
   refine L_assign rfl rfl (RL_then (W_if_false rfl (W_seq (W_region (L_fieldAddr rfl (off := 0) Try.underlying37 rfl rfl Try.ti35 rfl (L_fieldAddr rfl (off := 0) Try.underlying35 rfl rfl Try.ti22 rfl (L_load rfl Try.one22 rfl (by exact hs.cell (i := 0) rfl rfl) ?_)))))))
   refine L_fieldAddr rfl (off := 0) Try.underlying37 rfl rfl Try.ti35 rfl (L_fieldAddr rfl (off := 1) Try.underlying35 rfl rfl Try.ti22 rfl (L_load rfl Try.one22 rfl (by exact hs.cell (i := 0) rfl rfl) ?_))
   refine L_fieldAddr rfl (off := 2) Try.underlying37 rfl rfl Try.ti22 rfl (L_load rfl Try.one22 rfl (by exact hs.cell (i := 0) rfl rfl) ?_)
   refine L_buildSlice1 rfl hs Try.underlying106 Try.ti22 rfl (by decide) rfl rfl ?_
   intro b25 w hb25 hnb25 hs
   simp only [List.map_cons, List.map_nil] at hs
   dsimp only [List.set_cons_succ, List.set_cons_zero, List.cons_append, List.nil_append] at hs
   replace hs : HS w0 w (((b3, Row 37 [.float .f64 x, .float .f64 y, .float .f64 t]) :: (nbs B far (.slice ao ms.length c) M ms ++ R)) ++ [(b25, Row 22 (fl [x, y, t]))]) := hs
   have hx' : SlC w (some ⟨b25, 0, none⟩) (fl [x, y, t]) := SlC.of_row (sp := []) (hs.has (b25, Row 22 (fl [x, y, t])) (List.mem_append_right _ (List.mem_cons_self ..)))
   replace hs := hs.dropR (Own.cons hb25 Own.nil)
   refine L_call rfl Try.fun30 rfl (finite_ok (some ⟨b25, 0, none⟩) 3 3 [x, y, t] w hx' rfl (by decide) (fun i hi => by match i, hi with | 0, _ => exact hx | 1, _ => exact hy | 2, _ => exact ht)) ?_
   rw [hf]
   rintro _ w1 ⟨rfl, hs'⟩
   replace hs := hs.nil hs'
   clear hx' hs'
   refine L_not rfl rfl (L_assign rfl rfl (RL_then (W_if_true rfl (W_seq (W_region (L_assign rfl rfl (L_assign rfl rfl (RL_then (W_ret' (Ex_block_ret (Ex_then_ret (Ex_done2 rfl rfl rfl ?_))))))))))))
   refine ⟨_, rfl, .inr ⟨h0, by rw [e], HS.pop hs hb3⟩⟩
/-! ### Tell -/
def finT (t : Tk) : Bool := [t.xx, t.xv, t.yx, t.yv].all finB
structure TkLt (t : Tk) : Prop where
 xx : t.xx < 18446744073709551616
 xv : t.xv < 18446744073709551616
 yx : t.yx < 18446744073709551616
 yv : t.yv < 18446744073709551616
def tellE (k : Nat) (q : Int) (ts : List Tk) : Int := if q < 0 ∨ (k : Int) ≤ q then 280 else if 256 < ts.length then 3 else if ts.all finT then 0 else 6
theorem delG (n : Nat) (v : Value) (ts : List Tk) (A M : Bks) (w0 w : World) (hs : HS w0 w (A ++ M)) (hb : Bl w0 48 15 v n (tcs ts) M) (hn : ts.length = n) (hn2 : n ≤ 1000000) :
  Ret Try.prog 39 [v, .func (.func 41) #[] #[]] w fun v' w' => ∃ M', HS w0 w' (A ++ M') ∧ Bl w0 48 15 v' (firm ts).length (tcs (firm ts)) M' := by
 rcases Nat.eq_zero_or_pos n with h0 | h0
 ·
  have hts : ts = [] := List.eq_nil_of_length_eq_zero (by omega)
  obtain ⟨a, c, rfl, hc⟩ := hb.slice
  have hsx := hb.slc hs
  refine Calls.mono (delete_firm a n c ts w hsx hn hn2 (fun i hi => by omega)) fun e w' => ?_
  rintro ⟨r, rfl, rfl, hs'⟩
  refine ⟨_, rfl, M, hs.nil hs', ?_⟩
  subst hts
  show Bl w0 48 15 (.slice a n c) 0 (tcs []) M
  rw [h0] at hb ⊢; exact hb
 ·
  obtain ⟨g, c, sp, rfl, rfl, hg, hl, hc⟩ := hb.own_row h0
  refine Calls.mono (delete_ok g n c ts sp A w0 w hs.rot hn hn2 hc) fun e w' => ?_
  rintro ⟨r, rfl, sp', rfl, hs', hl'⟩
  have hfl := firm_len ts
  exact ⟨_, rfl, _, HS.rot (A := [_]) hs', .row hg (tcs_len _) (hl'.trans hl) (by omega)⟩
theorem rmb_split {ms : List RM} {q : Nat} (h : q < ms.length) : rmb ms = rmb (ms.take q) ++ ((ms.getD q rm0).M ++ rmb (ms.drop (q + 1))) := by
 have e := congrArg rmb (split_at (d := rm0) h)
 exact e.trans (List.flatMap_append ..)
theorem rmb_set {ms : List RM} {q : Nat} (h : q < ms.length) (m : RM) : rmb (ms.set q m) = rmb (ms.take q) ++ (m.M ++ rmb (ms.drop (q + 1))) := by
 rw [List.set_eq_take_append_cons_drop, if_pos h]
 exact List.flatMap_append ..
theorem rcs_set {rs : List Rd} {q : Nat} (h : q < rs.length) (a : Option Addr) (c : Nat) (ts : List Tk) : (rcs rs).set (q * 4 + 3) (.slice a ts.length c) = rcs (rs.set q ⟨(rs.getD q rd0).x, (rs.getD q rd0).y, (rs.getD q rd0).t, a, c, ts⟩) := by
 have e : rcs rs = rcs (rs.take q) ++ ((rs.getD q rd0).cells ++ rcs (rs.drop (q + 1))) := (congrArg rcs (split_at (d := rd0) h)).trans (List.flatMap_append ..)
 have e2 : rs.set q ⟨(rs.getD q rd0).x, (rs.getD q rd0).y, (rs.getD q rd0).t, a, c, ts⟩ = rs.take q ++ ⟨(rs.getD q rd0).x, (rs.getD q rd0).y, (rs.getD q rd0).t, a, c, ts⟩ :: rs.drop (q + 1) := by rw [List.set_eq_take_append_cons_drop, if_pos h]
 rw [e, e2]
 have hl : (rcs (rs.take q)).length = q * 4 := by rw [rcs_len, List.length_take]; congr 1; omega
 rw [List.set_append_right _ _ (by omega), hl, Nat.add_sub_cancel_left]
 rw [rcs_app]; rfl
set_option maxHeartbeats 1000000 in
theorem tellW (w0 w : World) (B far k cc : Nat) (ao : Option Addr) (q : Int) (Y : Bks) (a : Option Addr) (n c : Nat) (ts : List Tk) (hs : HS w0 w ((B, Row 76 [.float .f64 far, .slice ao k cc]) :: Y)) (hk16 : k ≤ 16)
  (ho : Own w0 ((B, Row 76 [.float .f64 far, .slice ao k cc]) :: Y)) (hA : ∀ w' L', HS w0 w' L' → Own w0 L' → (∀ p ∈ (B, Row 76 [.float .f64 far, .slice ao k cc]) :: Y, p ∈ L') → SlC w' a (tcs ts)) (hn : ts.length = n) (hn2 : n ≤ 1000000000) (hlt : ∀ i, i < n → TkLt (ts.getD i tk0))
  (hY : ∀ q' : Nat, q = (q' : Int) → q' < k → ∃ g zs Z, ao = some ⟨g, 0, none⟩ ∧ Y = (g, Row 84 zs) :: Z ∧ q' * 4 + 3 < zs.length) :
  Ret Try.prog 21 [.pointer (some ⟨B, 0, none⟩), .int .i64 q, .slice a n c] w fun r w' => r = .int .i64 (tellE k q ts) ∧
   ((tellE k q ts ≠ 0 ∧ HS w0 w' ((B, Row 76 [.float .f64 far, .slice ao k cc]) :: Y)) ∨
    (tellE k q ts = 0 ∧ ∃ (q' g : Nat) (zs : List Value) (Z : Bks) (v2 : Value) (M2 : Bks), q = (q' : Int) ∧ q' < k ∧ ao = some ⟨g, 0, none⟩ ∧ Y = (g, Row 84 zs) :: Z ∧ HS w0 w' (((B, Row 76 [.float .f64 far, .slice ao k cc]) :: (g, Row 84 (zs.set (q' * 4 + 3) v2)) :: Z) ++ M2) ∧ Bl w0 48 15 v2 (firm ts).length (tcs (firm ts)) M2)) := by
 refine calls_of_W Try.func21 rfl rfl rfl (W_seq (W_region (L_assign rfl rfl (RL_then (W_seq (W_block (W_seq (W_region (L_move rfl rfl (L_ptrNil rfl Try.underlying26 rfl rfl (L_assign rfl rfl (RL_then ?_))))))))))))
 refine W_if_false rfl ?_
 by_cases hq : q < 0 ∨ (k : Int) ≤ q
 ·
  have e : tellE k q ts = 280 := by unfold tellE; rw [if_pos hq]
  by_cases hq0 : q < 0
  ·
   refine W_seq (W_region (L_move rfl rfl (L_lss rfl rfl rfl (dtrue (by omega)) ?_)))
   refine L_move rfl rfl (RL_skip rfl rfl rfl rfl (RL_skip rfl rfl rfl rfl (RL_skip rfl rfl rfl rfl (RL_skip rfl rfl rfl rfl (RL_skip rfl rfl rfl rfl (RL_skip rfl rfl rfl rfl (RL_skip rfl rfl rfl rfl (L_pick_t rfl rfl rfl (L_assign rfl rfl (RL_then (W_if_true rfl (W_seq ?_))))))))))))
   refine W_region (L_assign rfl rfl (RL_then (W_ret' (Ex_block_ret (Ex_then_ret (Ex_done1 rfl rfl ?_))))))
   exact ⟨_, rfl, by rw [e], .inl ⟨by rw [e]; decide, hs⟩⟩
  ·
   refine W_seq (W_region (L_move rfl rfl (L_lss rfl rfl rfl (dfalse (by omega)) ?_)))
   refine L_move rfl rfl (RL_want rfl rfl (L_move rfl rfl (RL_want rfl rfl (L_move rfl rfl (RL_want rfl rfl (L_nilCheck rfl rfl (RL_want rfl rfl (L_fieldAddr rfl (off := 1) Try.underlying76 rfl rfl Try.ti74 rfl (RL_want rfl rfl (L_load rfl Try.one74 rfl (by exact hs.cell (i := 0) rfl rfl) ?_))))))))))
   refine RL_want rfl rfl (L_len rfl Try.underlying74 rfl (RL_want rfl rfl (L_geq rfl rfl rfl (dtrue (by omega)) ?_)))
   refine L_pick_f rfl rfl rfl (L_assign rfl rfl (RL_then (W_if_true rfl (W_seq (W_region (L_assign rfl rfl (RL_then (W_ret' (Ex_block_ret (Ex_then_ret (Ex_done1 rfl rfl ?_)))))))))))
   exact ⟨_, rfl, by rw [e], .inl ⟨by rw [e]; decide, hs⟩⟩
 ·
  rw [not_or] at hq
  obtain ⟨q, rfl⟩ : ∃ q' : Nat, q = (q' : Int) := ⟨q.toNat, by omega⟩
  have hqk : q < k := by omega
  obtain ⟨g, zs, Z, rfl, rfl, hzl⟩ := hY q rfl hqk
  refine W_seq (W_region (L_move rfl rfl (L_lss rfl rfl rfl (dfalse (by omega)) ?_)))
  refine L_move rfl rfl (RL_want rfl rfl (L_move rfl rfl (RL_want rfl rfl (L_move rfl rfl (RL_want rfl rfl (L_nilCheck rfl rfl (RL_want rfl rfl (L_fieldAddr rfl (off := 1) Try.underlying76 rfl rfl Try.ti74 rfl (RL_want rfl rfl (L_load rfl Try.one74 rfl (by exact hs.cell (i := 0) rfl rfl) ?_))))))))))
  refine RL_want rfl rfl (L_len rfl Try.underlying74 rfl (RL_want rfl rfl (L_geq rfl rfl rfl (dfalse (by omega)) ?_)))
  refine L_pick_f rfl rfl rfl (L_assign rfl rfl (RL_then (W_if_false rfl ?_)))
  by_cases hn3 : 256 < n
  ·
   have e : tellE k q ts = 3 := by unfold tellE; rw [if_neg (by omega), if_pos (by omega)]
   refine W_seq (W_region (L_move rfl rfl (L_len rfl Try.underlying38 rfl (L_gtr rfl rfl rfl (dtrue (by omega)) ?_))))
   refine L_assign rfl rfl (RL_then (W_if_true rfl (W_seq (W_region (L_assign rfl rfl (RL_then (W_ret' (Ex_block_ret (Ex_then_ret (Ex_done1 rfl rfl ?_))))))))))
   exact ⟨_, rfl, by rw [e], .inl ⟨by rw [e]; decide, hs⟩⟩
  ·
   refine W_seq (W_region (L_move rfl rfl (L_len rfl Try.underlying38 rfl (L_gtr rfl rfl rfl (dfalse (by omega)) ?_))))
   refine L_assign rfl rfl (RL_then (W_if_false rfl (W_skip' (Nx_block (Nx_then (W_seq (W_seq (W_region (L_move rfl rfl (L_len rfl Try.underlying38 rfl (L_move rfl rfl (RL_then ?_))))))))))))
   refine W_block ?_
   obtain ⟨L, hL⟩ : ∃ L, L = (B, Row 76 [.float .f64 far, .slice (some ⟨g, 0, none⟩) k cc]) :: (g, Row 84 zs) :: Z := ⟨_, rfl⟩
   rw [← hL] at hs hA ho
   refine W_loop2 (fun (i : Nat) (w : World) => [(0, .pointer (some ⟨B, 0, none⟩)), (1, .int .i64 q), (2, .slice a n c), (28, .slice a n c), (29, .int .i64 n), (30, .int .i64 i)]) (fun (i : Nat) (w : World) => w) (fun (i : Nat) (w : World) => (i ≤ n) ∧ (∀ j, j < i → finT (ts.getD j tk0) = true) ∧ (HS w0 w L)) (fun (i : Nat) (w : World) => n - i) (0) (w) (is := [0, 1, 2, 28, 29, 30]) rfl rfl ?_ ?_
   ·
    exact ⟨Nat.zero_le _, fun j hj => absurd hj (Nat.not_lt_zero _), hs⟩
   ·
    clear hs
    intro i w hI
    show W _ _ _ _ [(0, .pointer (some ⟨B, 0, none⟩)), (1, .int .i64 q), (2, .slice a n c), (28, .slice a n c), (29, .int .i64 n), (30, .int .i64 i)] w
    obtain ⟨hi, hfi, hs⟩ := hI
    by_cases hil : i < n
    ·
     have hA1 := hA w _ hs ho (fun _ h => h)
     obtain ⟨t, hth⟩ : ∃ t, t = ts.getD i tk0 := ⟨_, rfl⟩
     have htl := hlt i hil
     rw [← hth] at htl
     refine W_seq (W_region (L_lss rfl rfl rfl (dtrue (by omega)) ?_))
     refine RL_then (W_seq (W_if_true rfl (W_skip' (Nx_then (W_seq (W_block (W_seq (W_region ?_))))))))
     refine L_idxN rfl Try.underlying38 Try.ti48 rfl rfl (natc_k _) (by omega) (hA1.ao (by rw [tcs_len]; omega)) ?_
     refine L_loadA rfl Try.agg48 Try.ti48 rfl (by exact hth ▸ tk_at hA1 (by omega)) ?_
     refine L_alloc rfl hs Try.ti48 ?_; intro b8 w hb8 _ hs; replace hs := HS.push hs
     refine L_storeA hs (i := 0) rfl Try.ti48 rfl rfl (by rfl) (by simp [Tk.cells]) (by exact Tk.one _) ?_
     intro w hs
     dsimp only [List.set_cons_succ, List.set_cons_zero, List.cons_append, List.nil_append] at hs
     refine RL_then (W_seq (W_region ?_))
     replace hs : HS w0 w ((b8, Row 48 t.cells) :: L) := hs
     refine L_fieldAddr rfl (off := 2) Try.underlying48 rfl rfl Try.ti45 rfl (L_fieldAddr rfl (off := 0) Try.underlying45 rfl rfl Try.ti22 rfl (L_load rfl Try.one22 rfl (by exact hs.cell (i := 0) rfl rfl) ?_))
     refine L_fieldAddr rfl (off := 2) Try.underlying48 rfl rfl Try.ti45 rfl (L_fieldAddr rfl (off := 1) Try.underlying45 rfl rfl Try.ti22 rfl (L_load rfl Try.one22 rfl (by exact hs.cell (i := 0) rfl rfl) ?_))
     refine L_fieldAddr rfl (off := 7) Try.underlying48 rfl rfl Try.ti45 rfl (L_fieldAddr rfl (off := 0) Try.underlying45 rfl rfl Try.ti22 rfl (L_load rfl Try.one22 rfl (by exact hs.cell (i := 0) rfl rfl) ?_))
     refine L_fieldAddr rfl (off := 7) Try.underlying48 rfl rfl Try.ti45 rfl (L_fieldAddr rfl (off := 1) Try.underlying45 rfl rfl Try.ti22 rfl (L_load rfl Try.one22 rfl (by exact hs.cell (i := 0) rfl rfl) ?_))
     refine L_buildSlice1 rfl hs Try.underlying106 Try.ti22 rfl (by decide) rfl rfl ?_
     intro b46 w hb46 hnb46 hs
     simp only [List.map_cons, List.map_nil] at hs
     dsimp only [List.set_cons_succ, List.set_cons_zero, List.cons_append, List.nil_append] at hs
     replace hs : HS w0 w (((b8, Row 48 t.cells) :: L) ++ [(b46, Row 22 (fl [t.xx, t.xv, t.yx, t.yv]))]) := hs
     have hx : SlC w (some ⟨b46, 0, none⟩) (fl [t.xx, t.xv, t.yx, t.yv]) := SlC.of_row (sp := []) (hs.has (b46, Row 22 (fl [t.xx, t.xv, t.yx, t.yv])) (List.mem_append_right _ (List.mem_cons_self ..)))
     replace hs := hs.dropR (Own.cons hb46 Own.nil)
     replace hs := HS.pop hs hb8
     refine L_call rfl Try.fun30 rfl (finite_ok (some ⟨b46, 0, none⟩) 4 4 [t.xx, t.xv, t.yx, t.yv] w hx rfl (by decide) (fun z hz => by match z, hz with | 0, _ => exact htl.xx | 1, _ => exact htl.xv | 2, _ => exact htl.yx | 3, _ => exact htl.yv)) ?_
     rintro _ w1 ⟨rfl, hs'⟩
     replace hs := hs.nil hs'
     clear hs' hx
     by_cases hft : finT t = true
     ·
      rw [show [t.xx, t.xv, t.yx, t.yv].all finB = true from hft]
      refine L_not rfl rfl (RL_then (W_if_false rfl (W_skip' (Nx_block (Nx_then (W_region (L_add rfl rfl rfl (wrp_i64 (by omega)) ?_)))))))
      refine L_move rfl rfl (RL_nil' ?_)
      refine Nx_loopP (i + 1, _) (is := [0, 1, 2, 28, 29, 30]) (I' := (fun (i : Nat) (w : World) => (i ≤ n) ∧ (∀ j, j < i → finT (ts.getD j tk0) = true) ∧ (HS w0 w L)) (i + 1) (_)) rfl rfl rfl ?_ ?_
      ·
       refine ⟨by omega, fun j hj => ?_, hs⟩
       by_cases hji : j = i
       ·
        rw [hji, ← hth]; exact hft
       ·
        exact hfi j (by omega)
      ·
       omega
     ·
      rw [show [t.xx, t.xv, t.yx, t.yv].all finB = false by cases h : finT t with | true => exact absurd h hft | false => exact h]
      have e : tellE k q ts = 6 := by
       unfold tellE
       rw [if_neg (by omega), if_neg (by omega), if_neg]
       intro h
       exact hft (List.all_eq_true.1 h t (by rw [hth]; exact getD_mem (by omega)))
      refine L_not rfl rfl (RL_then (W_if_true rfl (W_seq (W_region (L_assign rfl rfl (RL_then (W_ret' (Ex_block_ret (Ex_then_ret (Ex_loop_ret (Ex_block_ret (Ex_then_ret ?_))))))))))))
      refine Ex_done1 rfl rfl ?_
      exact ⟨_, rfl, by rw [e], .inl ⟨by rw [e]; decide, hL ▸ hs⟩⟩
    ·
     obtain rfl : i = n := by omega
     have e : tellE k q ts = 0 := by
      unfold tellE
      rw [if_neg (by omega), if_neg (by omega), if_pos]
      rw [List.all_eq_true]
      intro t ht
      obtain ⟨j, hj, rfl⟩ := List.getElem_of_mem ht
      have := hfi j (by omega)
      rwa [List.getD_eq_getElem?_getD, List.getElem?_eq_getElem hj] at this
     refine W_seq (W_region (L_lss rfl rfl rfl (dfalse (by omega)) ?_))
     refine RL_then (W_seq (W_if_false rfl (W_exit' (Ex_then_exit (Ex_loop_exit (Ex_block_hit (Nx_then (W_seq (W_sg Try.mixed ?_)))))))))
     replace hs := hs.drewN 1
     refine SG_stage [0, 1, 2, 4, 5] [] [] (fun _ _ _ => False) (g' := 6) (by kernel_rfl) (by kernel_rfl) (fun _ _ _ _ _ h => h) hs ?_
     refine PL_val rfl (fun w => R_move rfl) ?_
     refine PL_val rfl (fun w => R_nilCheck rfl) ?_
     refine PL_val rfl (fun w => R_fieldAddr (off := 1) Try.underlying76 rfl rfl Try.ti74 rfl) ?_
     refine PL_val rfl (fun w => R_move rfl) ?_
     refine PL_val rfl (fun w => R_move rfl) ?_
     refine PL_end (HL_tail ?_)
     intro w hs
     refine RL_sg ?_
     refine SG_join (g' := 3) (l' := #[true, true, true, true, true, true, true, true, false, false, false]) (fun S => ∀ (v3 : Value) (M3 : Bks) (w : World), (Bl w0 48 15 v3 (firm ts).length (tcs (firm ts)) M3) ∧ (HS w0 w (L ++ M3)) → S [(53, .slice (some ⟨g, 0, none⟩) k cc), (54, .int .i64 q), (57, v3)] w) ?_ ?_
     ·
      intro fin
      refine SG_pick2 (i := 3) (l1 := #[true, true, true, true, true, true, false, false, false, false, false]) (j := 6) (l2 := #[true, true, true, false, true, true, true, false, false, false, false]) (by kernel_rfl) (by kernel_rfl) (by kernel_rfl) (by kernel_rfl) ?_ ?_
      ·
       refine L_load rfl Try.one74 rfl (by exact hs.cell (i := 0) (by rw [hL]; rfl) rfl) ?_
       refine RL_sg (SG_pick1 (i := 6) (l1 := #[true, true, true, true, true, true, true, false, false, false, false]) (by kernel_rfl) (by kernel_rfl) (by kernel_rfl) ?_)
       refine L_call rfl Try.fun40 rfl (clone_ok a i c ts w (hA _ _ hs ho (fun _ h => h)) hn (by omega)) ?_; rintro v2 w2 ⟨M2, hs', hb2⟩; replace hs' := hs.call hs' hb2.own; replace hb2 := hb2.mono hs.size; clear hs; have hs := hs'; clear hs'
       refine RL_sg (SG_pick1 (i := 7) (l1 := #[true, true, true, true, true, true, true, true, false, false, false]) (by kernel_rfl) (by kernel_rfl) (by kernel_rfl) ?_)
       refine L_call rfl Try.fun39 rfl (delG i v2 ts _ _ _ _ hs hb2 hn (by omega)) ?_; rintro v3 w3 ⟨M3, hs', hb3⟩; clear hs; have hs := hs'; clear hs'
       refine RL_sg ?_
       refine SG_env (fin _ M3 _ ⟨hb3, hs⟩) (looks_cons rfl (looks_cons rfl (looks_cons rfl looks_nil)))
      ·
       refine L_call rfl Try.fun40 rfl (clone_ok a i c ts w (hA _ _ hs ho (fun _ h => h)) hn (by omega)) ?_; rintro v2 w2 ⟨M2, hs', hb2⟩; replace hs' := hs.call hs' hb2.own; replace hb2 := hb2.mono hs.size; clear hs; have hs := hs'; clear hs'
       refine RL_sg ?_
       refine SG_pick2 (i := 3) (l1 := #[true, true, true, true, true, true, true, false, false, false, false]) (j := 7) (l2 := #[true, true, true, false, true, true, true, true, false, false, false]) (by kernel_rfl) (by kernel_rfl) (by kernel_rfl) (by kernel_rfl) ?_ ?_
       ·
        refine L_load rfl Try.one74 rfl (by exact hs.cell (i := 0) (by rw [hL]; rfl) rfl) ?_
        refine RL_sg (SG_pick1 (i := 7) (l1 := #[true, true, true, true, true, true, true, true, false, false, false]) (by kernel_rfl) (by kernel_rfl) (by kernel_rfl) ?_)
        refine L_call rfl Try.fun39 rfl (delG i v2 ts _ _ _ _ hs hb2 hn (by omega)) ?_; rintro v3 w3 ⟨M3, hs', hb3⟩; clear hs; have hs := hs'; clear hs'
        refine RL_sg ?_
        refine SG_env (fin _ M3 _ ⟨hb3, hs⟩) (looks_cons rfl (looks_cons rfl (looks_cons rfl looks_nil)))
       ·
        refine L_call rfl Try.fun39 rfl (delG i v2 ts _ _ _ _ hs hb2 hn (by omega)) ?_; rintro v3 w3 ⟨M3, hs', hb3⟩; clear hs; have hs := hs'; clear hs'
        refine RL_sg (SG_pick1 (i := 3) (l1 := #[true, true, true, true, true, true, true, true, false, false, false]) (by kernel_rfl) (by kernel_rfl) (by kernel_rfl) ?_)
        refine L_load rfl Try.one74 rfl (by exact hs.cell (i := 0) (by rw [hL]; rfl) rfl) ?_
        refine RL_sg ?_
        refine SG_env (fin _ M3 _ ⟨hb3, hs⟩) (looks_cons rfl (looks_cons rfl (looks_cons rfl looks_nil)))
     ·
      clear hs
      intro v3 M3 w hI
      show SG _ _ _ _ _ _ [(53, .slice (some ⟨g, 0, none⟩) k cc), (54, .int .i64 q), (57, v3)] w
      obtain ⟨hb3, hs⟩ := hI
      obtain ⟨a3, c3, rfl, hc3⟩ := hb3.slice
      rw [hL] at hs
      refine SG_pick1 (i := 8) (l1 := #[true, true, true, true, true, true, true, true, true, false, false]) (by kernel_rfl) (by kernel_rfl) (by kernel_rfl) ?_
      refine L_idxN rfl Try.underlying74 Try.ti84 rfl rfl (natc_k _) (by omega) rfl ?_
      refine RL_sg (SG_pick1 (i := 9) (l1 := #[true, true, true, true, true, true, true, true, true, true, false]) (by kernel_rfl) (by kernel_rfl) (by kernel_rfl) ?_)
      refine L_fieldAddr rfl (off := 3) Try.underlying84 rfl rfl Try.ti38 rfl (RL_sg (SG_pick1 (i := 10) (l1 := #[true, true, true, true, true, true, true, true, true, true, true]) (by kernel_rfl) (by kernel_rfl) (by kernel_rfl) ?_))
      refine L_store hs (i := 1) rfl Try.ti38 rfl rfl (by rw [add_add]; exact add_lit0 _ _) (by omega) rfl ?_
      intro w hs
      dsimp only [List.set_cons_succ, List.set_cons_zero, List.cons_append, List.nil_append] at hs
      refine RL_sg (SG_end (by kernel_rfl) ?_)
      refine Nx_then (W_seq (W_region (L_assign rfl rfl (RL_then (W_ret' (Ex_done1 rfl rfl ?_))))))
      exact ⟨_, rfl, by rw [e], .inr ⟨e, q, g, zs, Z, _, M3, rfl, hqk, rfl, rfl, hs, hb3⟩⟩
theorem tellG (w0 w : World) (B far : Nat) (v : Value) (M R : Bks) (ms : List RM) (q : Int) (a : Option Addr) (n c : Nat) (ts : List Tk) (hs : HS w0 w (nbs B far v M ms ++ R)) (hN : NetOk w0 B v M ms)
  (hoR : Own w0 R) (hA : ∀ w' L', HS w0 w' L' → Own w0 L' → (∀ p ∈ nbs B far v M ms ++ R, p ∈ L') → SlC w' a (tcs ts)) (hn : ts.length = n) (hn2 : n ≤ 1000000000) (hlt : ∀ i, i < n → TkLt (ts.getD i tk0)) :
  Ret Try.prog 21 [.pointer (some ⟨B, 0, none⟩), .int .i64 q, .slice a n c] w fun r w' => r = .int .i64 (tellE ms.length q ts) ∧
   ((tellE ms.length q ts ≠ 0 ∧ HS w0 w' (nbs B far v M ms ++ R)) ∨
    (tellE ms.length q ts = 0 ∧ ∃ (q' : Nat) (a3 : Option Addr) (c3 : Nat) (M' : Bks) (ms' : List RM), q = (q' : Int) ∧ q' < ms.length ∧ HS w0 w' (nbs B far v M' ms' ++ R) ∧ NetOk w0 B v M' ms' ∧
     rds ms' = (rds ms).set q' ⟨((rds ms).getD q' rd0).x, ((rds ms).getD q' rd0).y, ((rds ms).getD q' rd0).t, a3, c3, firm ts⟩)) := by
 obtain ⟨ao, cc, rfl, hkc⟩ := hN.bl.slice
 have hY : ∀ q' : Nat, q = (q' : Int) → q' < ms.length → ∃ g zs Z, ao = some ⟨g, 0, none⟩ ∧ (M ++ rmb ms) ++ R = (g, Row 84 zs) :: Z ∧ q' * 4 + 3 < zs.length := fun q' _ hq' => by
  obtain ⟨g, cap, sp, hv, rfl, hg, hl, hc⟩ := hN.bl.own_row (by omega)
  injection hv with h1 _ _
  exact ⟨g, _, rmb ms ++ R, h1, rfl, by rw [hl]; omega⟩
 refine Calls.mono (tellW w0 w B far ms.length cc ao q ((M ++ rmb ms) ++ R) a n c ts hs hN.len (hN.owns.app hoR) hA hn hn2 hlt hY) fun e w' => ?_
 rintro ⟨r, rfl, rfl, h | ⟨h0, q', g, zs, Z, v2, M2, rfl, hq', rfl, hYe, hs', hb2⟩⟩
 ·
  exact ⟨_, rfl, rfl, .inl h⟩
 ·
  obtain ⟨g', cap, sp, hv, hM, hg, hl, hc⟩ := hN.bl.own_row (by omega)
  subst hM
  injection hYe with h1 h2
  rw [Prod.mk.injEq] at h1
  obtain ⟨rfl, h1⟩ := h1
  have hz : zs = rcs (rds ms) ++ sp := by
   injection h1 with h1
   exact (congrArg Array.toList h1).symm
  obtain ⟨a3, c3, rfl, hc3⟩ := hb2.slice
  have hql : q' < (rds ms).length := by rw [rds_len]; exact hq'
  obtain ⟨m, hme⟩ : ∃ m, m = RM.mk ⟨((rds ms).getD q' rd0).x, ((rds ms).getD q' rd0).y, ((rds ms).getD q' rd0).t, a3, c3, firm ts⟩ M2 := ⟨_, rfl⟩
  have hmok : m.ok w0 := by
   rw [hme]
   refine ⟨hb2, ?_, ?_⟩
   ·
    have : ts.length ≤ 256 := by
     unfold tellE at h0
     split at h0
     ·
      exact absurd h0 (by decide)
     ·
      split at h0
      ·
       exact absurd h0 (by decide)
      ·
       omega
    have := firm_len ts
    show (firm ts).length ≤ 256
    omega
   ·
    show ((rds ms).getD q' rd0).t < _
    rw [rds_get hq']
    exact (hN.each _ (getD_mem hq')).turn
  have hrd : rds (ms.set q' m) = (rds ms).set q' m.rd := by unfold rds; rw [List.map_set]
  have hzs : zs.set (q' * 4 + 3) (.slice a3 (firm ts).length c3) = rcs (rds (ms.set q' m)) ++ sp := by
   rw [hz, List.set_append_left _ _ (by rw [rcs_len]; omega), rcs_set hql, hrd, hme]
  refine ⟨_, rfl, rfl, .inr ⟨h0, q', a3, c3, [(g', Row 84 (rcs (rds (ms.set q' m)) ++ sp))], ms.set q' m, rfl, hq', ?_, ?_, by rw [hrd, hme]⟩⟩
  ·
   rw [hzs] at hs'
   have hsp := rmb_split hq'
   have e2 := rmb_set hq' m
   have hM2 : m.M = M2 := by rw [hme]
   rw [nbs, e2, hM2]
   replace hs' : HS w0 w' (((B, Row 76 [.float .f64 far, .slice (some ⟨g', 0, none⟩) ms.length cc]) :: (g', Row 84 (rcs (rds (ms.set q' m)) ++ sp)) :: ((rmb (ms.take q') ++ ((ms.getD q' rm0).M ++ rmb (ms.drop (q' + 1)))) ++ R)) ++ M2) := by
    rw [← hsp, show rmb ms ++ R = Z from h2]; exact hs'
   exact HS.dropR (M := (ms.getD q' rm0).M) (HS.re hs' (fun c => by simp only [List.map_append, List.map_cons, List.map_nil, List.sum_append, List.sum_cons, List.sum_nil]; omega)) (hN.each _ (getD_mem hq')).bl.own
  ·
   refine ⟨hN.own, ?_, fun u hu => ?_, by rw [List.length_set]; exact hN.len⟩
   ·
    rw [List.length_set]
    injection hv with hv1 _ hv3
    rw [hv3]
    refine .row hg (by rw [rcs_len, rds_len, List.length_set]) ?_ hc
    rw [← hl, List.length_append, List.length_append, rcs_len, rcs_len, rds_len, rds_len, List.length_set]
   ·
    rcases List.mem_or_eq_of_mem_set hu with h1 | h1
    ·
     exact hN.each u h1
    ·
     rw [h1]; exact hmok
end Go.Proofs.Ytknpoemkmcdgcaa

namespace Go.Proofs.Ytknpoemkmcdgcaa
open Go Go.Lk
/-! ### Both -/
def bN (p q : Nat) : Bool := FloatKind.f64.format.order (fop .add p q) 0 == some .gt
def bX (a p b q : Nat) : Nat := if bN p q then fop .add a (fop .mul (fop .sub b a) (fop .quo p (fop .add p q))) else a
def bP (p q : Nat) : Nat := if bN p q then fop .quo (fop .mul 4611686018427387904 (fop .mul p q)) (fop .add p q) else p
theorem both_ok (a p b q : Nat) (w0 : World) : Ret Try.prog 37 [.float .f64 a, .float .f64 p, .float .f64 b, .float .f64 q] w0 fun v w' => ∃ x y, v = .tuple #[.float .f64 x, .float .f64 y] ∧ HS w0 w' [] ∧ cn x = cn (bX a p b q) ∧ cn y = cn (bP p q) := by
 refine Ret.start fun w hs => ?_
 refine calls_of_W Try.func37 rfl rfl rfl (W_seq (W_region (L_assign rfl rfl (L_assign rfl rfl (RL_then (W_seq (W_region (L_move rfl rfl (L_move rfl rfl (L_farith rfl (op := .add) rfl rfl rfl ?_))))))))))
 intro r13 k13 hr13
 replace hs := hs.drewN k13
 refine L_assign rfl rfl (RL_then (W_seq (W_seq (W_region (L_move rfl rfl ?_)))))
 have en : cn r13 = cn (fop .add p q) := (Fs.cn hr13).trans (cn_fop ..).symm
 cases hn : FloatKind.f64.format.order r13 0 == some .gt
 ·
  have h0 : bN p q = false := by unfold bN; rw [← order_congr en rfl]; exact hn
  refine L_fcmp rfl rfl rfl (fun _ => by rw [binOp_float_cmp_gtr, hn]; rfl) ?_
  refine L_not rfl rfl (RL_then (W_if_true rfl (W_seq (W_region (L_move rfl rfl (L_move rfl rfl (L_assign rfl rfl (L_assign rfl rfl (RL_then (W_ret' (Ex_then_ret (Ex_done2 rfl rfl rfl ?_))))))))))))
  refine ⟨_, rfl, _, _, rfl, hs, ?_, ?_⟩
  ·
   unfold bX; rw [h0, if_neg (by decide)]
  ·
   unfold bP; rw [h0, if_neg (by decide)]
 ·
  have h0 : bN p q = true := by unfold bN; rw [← order_congr en rfl]; exact hn
  refine L_fcmp rfl rfl rfl (fun _ => by rw [binOp_float_cmp_gtr, hn]; rfl) ?_
  refine L_not rfl rfl (RL_then (W_if_false rfl (W_skip' (Nx_then (W_seq (W_region (L_move rfl rfl (L_move rfl rfl (L_move rfl rfl (L_farith rfl (op := .sub) rfl rfl rfl ?_))))))))))
  intro r22 k22 hr22
  replace hs := hs.drewN k22
  refine L_move rfl rfl (L_move rfl rfl (L_farith rfl (op := .quo) rfl rfl rfl ?_))
  intro r25 k25 hr25
  replace hs := hs.drewN k25
  refine L_farith rfl (op := .mul) rfl rfl rfl ?_
  intro r26 k26 hr26
  replace hs := hs.drewN k26
  refine L_farith rfl (op := .add) rfl rfl rfl ?_
  intro r27 k27 hr27
  replace hs := hs.drewN k27
  refine L_move rfl rfl (L_move rfl rfl (L_farith rfl (op := .mul) rfl rfl rfl ?_))
  intro r30 k30 hr30
  replace hs := hs.drewN k30
  refine L_farith rfl (op := .mul) rfl rfl rfl ?_
  intro r31 k31 hr31
  replace hs := hs.drewN k31
  refine L_move rfl rfl (L_farith rfl (op := .quo) rfl rfl rfl ?_)
  intro r33 k33 hr33
  replace hs := hs.drewN k33
  refine L_assign rfl rfl (L_assign rfl rfl (RL_then (W_ret' (Ex_done2 rfl rfl rfl ?_))))
  refine ⟨_, rfl, _, _, rfl, hs, ?_, ?_⟩
  ·
   unfold bX
   rw [h0, if_pos rfl, cn_fop]
   exact (Fs.cn hr27).trans (fop_congr rfl ((Fs.cn hr26).trans ((fop_congr ((Fs.cn hr22).trans (cn_fop ..).symm) ((Fs.cn hr25).trans ((fop_congr rfl en).trans (cn_fop ..).symm))).trans (cn_fop ..).symm)))
  ·
   unfold bP
   rw [h0, if_pos rfl, cn_fop]
   exact (Fs.cn hr33).trans (fop_congr ((Fs.cn hr31).trans ((fop_congr rfl ((Fs.cn hr30).trans (cn_fop ..).symm)).trans (cn_fop ..).symm)) en)
structure Sta where
 x : Nat
 v : Nat
 xx : Nat
 xv : Nat
 vv : Nat
def Sta.cells (s : Sta) : List Value := [.float .f64 s.x, .float .f64 s.v, .float .f64 s.xx, .float .f64 s.xv, .float .f64 s.vv]
theorem Both_ok (a b : Sta) (w0 : World) : Ret Try.prog 18 [.agg a.cells.toArray, .agg b.cells.toArray] w0 fun v w' => ∃ x y p q, v = .agg #[.float .f64 x, .float .f64 y, .float .f64 p, .float .f64 0, .float .f64 q] ∧ HS w0 w' [] ∧ cn x = cn (bX a.x a.xx b.x b.xx) ∧ cn p = cn (bP a.xx b.xx) ∧ cn y = cn (bX a.v a.vv b.v b.vv) ∧ cn q = cn (bP a.vv b.vv) := by
 refine Ret.start fun w hs => ?_
 refine calls_of_W Try.func18 rfl rfl rfl (W_seq (W_region (L_box rfl hs rfl ?_)))
 intro b2 w hb2 hnb2 hs
 dsimp only [List.set_cons_succ, List.set_cons_zero, List.cons_append, List.nil_append] at hs
 refine L_box rfl hs rfl ?_
 intro b3 w hb3 hnb3 hs
 dsimp only [List.set_cons_succ, List.set_cons_zero, List.cons_append, List.nil_append] at hs
 refine L_alloc rfl hs Try.ti45 ?_
 intro b4 w hb4 hnb4 hs
 dsimp only [List.set_cons_succ, List.set_cons_zero, List.cons_append, List.nil_append] at hs
 refine RL_then (W_seq (W_region (L_alloc rfl hs Try.ti45 ?_)))
 intro b5 w hb5 hnb5 hs
 dsimp only [List.set_cons_succ, List.set_cons_zero, List.cons_append, List.nil_append] at hs
 refine RL_then (W_seq (W_region (L_fieldAddr rfl (off := 0) Try.underlying45 rfl rfl Try.ti22 rfl ?_)))
 replace hs : HS w0 w [(b2, Row 45 a.cells), (b3, Row 45 b.cells), (b4, Row 45 [.float .f64 0, .float .f64 0, .float .f64 0, .float .f64 0, .float .f64 0]), (b5, Row 45 [.float .f64 0, .float .f64 0, .float .f64 0, .float .f64 0, .float .f64 0])] := hs
 refine L_load rfl Try.one22 rfl (by exact hs.cell (i := 0) rfl rfl) ?_
 refine L_fieldAddr rfl (off := 2) Try.underlying45 rfl rfl Try.ti22 rfl (L_load rfl Try.one22 rfl (by exact hs.cell (i := 0) rfl rfl) ?_)
 refine L_fieldAddr rfl (off := 0) Try.underlying45 rfl rfl Try.ti22 rfl (L_load rfl Try.one22 rfl (by exact hs.cell (i := 1) rfl rfl) ?_)
 refine L_fieldAddr rfl (off := 2) Try.underlying45 rfl rfl Try.ti22 rfl (L_load rfl Try.one22 rfl (by exact hs.cell (i := 1) rfl rfl) ?_)
 refine L_call rfl Try.fun37 rfl (both_ok _ _ _ _ w) ?_
 rintro _ w1 ⟨x, p, rfl, hs', hx, hp⟩
 replace hs := hs.nil hs'
 clear hs'
 refine L_move rfl rfl (L_extract rfl rfl rfl (L_extract rfl rfl rfl (L_fieldAddr rfl (off := 0) Try.underlying45 rfl rfl Try.ti22 rfl (L_store hs (i := 3) rfl Try.ti22 rfl rfl (by rfl) (by simp) rfl ?_))))
 intro w hs
 dsimp only [List.set_cons_succ, List.set_cons_zero, List.cons_append, List.nil_append] at hs
 refine L_fieldAddr rfl (off := 2) Try.underlying45 rfl rfl Try.ti22 rfl (L_store hs (i := 3) rfl Try.ti22 rfl rfl (by rfl) (by simp) rfl ?_)
 intro w hs
 dsimp only [List.set_cons_succ, List.set_cons_zero, List.cons_append, List.nil_append] at hs
 refine RL_then (W_seq (W_region (L_fieldAddr rfl (off := 1) Try.underlying45 rfl rfl Try.ti22 rfl (L_load rfl Try.one22 rfl (by exact hs.cell (i := 0) rfl rfl) ?_))))
 refine L_fieldAddr rfl (off := 4) Try.underlying45 rfl rfl Try.ti22 rfl (L_load rfl Try.one22 rfl (by exact hs.cell (i := 0) rfl rfl) ?_)
 refine L_fieldAddr rfl (off := 1) Try.underlying45 rfl rfl Try.ti22 rfl (L_load rfl Try.one22 rfl (by exact hs.cell (i := 1) rfl rfl) ?_)
 refine L_fieldAddr rfl (off := 4) Try.underlying45 rfl rfl Try.ti22 rfl (L_load rfl Try.one22 rfl (by exact hs.cell (i := 1) rfl rfl) ?_)
 refine L_call rfl Try.fun37 rfl (both_ok _ _ _ _ _) ?_
 rintro _ w1 ⟨y, q, rfl, hs', hy, hq⟩
 replace hs := hs.nil hs'
 clear hs'
 refine L_move rfl rfl (L_extract rfl rfl rfl (L_extract rfl rfl rfl (L_fieldAddr rfl (off := 1) Try.underlying45 rfl rfl Try.ti22 rfl (L_store hs (i := 3) rfl Try.ti22 rfl rfl (by rfl) (by simp) rfl ?_))))
 intro w hs
 dsimp only [List.set_cons_succ, List.set_cons_zero, List.cons_append, List.nil_append] at hs
 refine L_fieldAddr rfl (off := 4) Try.underlying45 rfl rfl Try.ti22 rfl (L_store hs (i := 3) rfl Try.ti22 rfl rfl (by rfl) (by simp) rfl ?_)
 intro w hs
 dsimp only [List.set_cons_succ, List.set_cons_zero, List.cons_append, List.nil_append] at hs
 refine RL_then (W_seq (W_region ?_))
 replace hs : HS w0 w [(b2, Row 45 a.cells), (b3, Row 45 b.cells), (b4, Row 45 [.float .f64 0, .float .f64 0, .float .f64 0, .float .f64 0, .float .f64 0]), (b5, Row 45 [.float .f64 x, .float .f64 y, .float .f64 p, .float .f64 0, .float .f64 q])] := hs
 refine L_loadA rfl Try.agg45 Try.ti45 rfl (by exact cellsAt_whole (cs := [.float .f64 x, .float .f64 y, .float .f64 p, .float .f64 0, .float .f64 q]) (hs.get (i := 3) rfl)) ?_
 refine L_storeA hs (i := 2) rfl Try.ti45 rfl rfl (by rfl) (by simp) (by simp [Value.oneCell']) ?_
 intro w hs
 dsimp only [List.set_cons_succ, List.set_cons_zero, List.cons_append, List.nil_append] at hs
 refine RL_then (W_ret' (Ex_doneC rfl rfl Try.agg45 Try.ti45 (by exact cellsAt_whole (cs := [.float .f64 x, .float .f64 y, .float .f64 p, .float .f64 0, .float .f64 q]) (hs.get (i := 2) rfl)) ?_))
 exact ⟨_, rfl, x, y, p, q, rfl, hs.forget (Own.cons hb2 (Own.cons hb3 (Own.cons hb4 (Own.cons hb5 Own.nil)))), hx, hp, hy, hq⟩
theorem track_ok (x y : Nat) (w0 : World) : Ret Try.prog 16 [.float .f64 x, .float .f64 y] w0 fun v w' => v = .agg (trk x y).cells.toArray ∧ HS w0 w' [] := by
 refine Ret.start fun w hs => ?_
 refine calls_of_W Try.func16 rfl rfl rfl (W_seq (W_region (L_alloc rfl hs Try.ti48 ?_)))
 intro b4 w hb4 hnb4 hs
 dsimp only [List.set_cons_succ, List.set_cons_zero, List.cons_append, List.nil_append] at hs
 refine RL_then (W_seq (W_region (L_move rfl rfl (L_build rfl rfl (Pl.built Try.pl45 rfl) (L_move rfl rfl (L_build rfl rfl (Pl.built Try.pl45 rfl) (L_build rfl rfl (Pl.builtN Try.pl48 rfl) ?_)))))))
 skip
 refine L_storeA (vs := (trk x y).cells) hs (i := 0) rfl Try.ti48 rfl rfl rfl (by simp [Tk.cells]) (Tk.one _) ?_
 intro w hs
 replace hs : HS w0 w [(b4, Row 48 (trk x y).cells)] := hs
 refine RL_then (W_ret' (Ex_doneC rfl rfl Try.agg48 Try.ti48 (by exact cellsAt_whole (cs := (trk x y).cells) (hs.get (i := 0) rfl)) ?_))
 exact ⟨_, rfl, rfl, hs.forget (Own.cons hb4 Own.nil)⟩
/-! ### The chapter's own wakes -/
def w0S : ST := ⟨4632233691727265792, 0, 0, 0, [0]⟩
def w1S : ST := ⟨4632515166703976448, 0, 0, 0, [1]⟩
theorem wk_own0 {a : Option Addr} {c : Nat} {r2 : Rd} : ownS [⟨0, 0, 0, a, c, [trk 4632233691727265792 0]⟩, r2] 0 = [w0S] := by
 show [newS ⟨0, 0, 0, a, c, _⟩ 0 (trk 4632233691727265792 0)] = _
 unfold newS
 show [ST.mk (mvX 0 0 4632233691727265792 0) (mvY 0 0 4632233691727265792 0) (mvX 0 0 0 0) (mvY 0 0 0 0) [((0 : Nat) : Int)]] = _
 rw [show mvX 0 0 4632233691727265792 0 = 4632233691727265792 by decide +kernel, show mvY 0 0 4632233691727265792 0 = 0 by decide +kernel, show mvX 0 0 0 0 = 0 by decide +kernel, show mvY 0 0 0 0 = 0 by decide +kernel]
 rfl
theorem wk_own1 {a : Option Addr} {c : Nat} {r1 : Rd} : ownS [r1, ⟨4636737291354636288, 0, 0, a, c, [trk 13855324253605330944 0]⟩] 1 = [w1S] := by
 show [newS ⟨4636737291354636288, 0, 0, a, c, _⟩ 1 (trk 13855324253605330944 0)] = _
 unfold newS
 show [ST.mk (mvX 4636737291354636288 0 13855324253605330944 0) (mvY 0 0 13855324253605330944 0) (mvX 0 0 0 0) (mvY 0 0 0 0) [((1 : Nat) : Int)]] = _
 rw [show mvX 4636737291354636288 0 13855324253605330944 0 = 4632515166703976448 by decide +kernel, show mvY 0 0 13855324253605330944 0 = 0 by decide +kernel, show mvX 0 0 0 0 = 0 by decide +kernel, show mvY 0 0 0 0 = 0 by decide +kernel]
 rfl
theorem wk_things {a1 a2 : Option Addr} {c1 c2 : Nat} {rs : List Rd} {S : List ST} (hrs : rs = [⟨0, 0, 0, a1, c1, [trk 4632233691727265792 0]⟩, ⟨4636737291354636288, 0, 0, a2, c2, [trk 13855324253605330944 0]⟩]) (h : FusTo 4621819117588971520 rs 2 S) :
  S.map prt = [⟨4632374429215621120, 0, 0, 0, [0, 1]⟩] := by
 subst hrs
 cases h with
 | step h hi hm =>
  cases h with
  | step h0 hi0 hm0 =>
   cases h0
   have r0 : rowsS 4621819117588971520 [⟨0, 0, 0, a1, c1, [trk 4632233691727265792 0]⟩, ⟨4636737291354636288, 0, 0, a2, c2, [trk 13855324253605330944 0]⟩] 0 [] = [[]] := by
    unfold rowsS; rw [wk_own0]; rfl
   rw [r0] at hm0
   obtain rfl := most_empty hm0
   rw [wk_own0] at hm ⊢
   have s1 : (([w0S].zip [-1]).foldl (stp 0) [] : List ST) = [w0S] := rfl
   rw [s1] at hm ⊢
   have r1 : rowsS 4621819117588971520 [⟨0, 0, 0, a1, c1, [trk 4632233691727265792 0]⟩, ⟨4636737291354636288, 0, 0, a2, c2, [trk 13855324253605330944 0]⟩] 1 [w0S] = [[41943]] := by
    unfold rowsS; rw [wk_own1]
    show [[costF 4621819117588971520 4632515166703976448 0 4632233691727265792 0 1]] = _
    rw [show costF 4621819117588971520 4632515166703976448 0 4632233691727265792 0 1 = 41943 by decide +kernel]
   rw [r1] at hm
   obtain rfl := most_one hm
   rw [wk_own1]
   show [prt (mrgS 1 w0S w1S)] = _
   show [ST.mk (fop .quo (fop .add 4632233691727265792 4632515166703976448) (FloatKind.f64.nearest 2)) (fop .quo (fop .add 0 0) (FloatKind.f64.nearest 2)) (fop .quo (fop .add 0 0) (FloatKind.f64.nearest 2)) (fop .quo (fop .add 0 0) (FloatKind.f64.nearest 2)) [0, 1]] = _
   rw [show fop .quo (fop .add 4632233691727265792 4632515166703976448) (FloatKind.f64.nearest 2) = 4632374429215621120 by decide +kernel, show fop .quo (fop .add 0 0) (FloatKind.f64.nearest 2) = 0 by decide +kernel]
theorem wakes_ok (w0 : World) : Ret Try.prog 11 [] w0 fun v w' => v = .bool true ∧ HS w0 w' [] := by
 refine Ret.start fun w hs => ?_
 refine calls_of_W Try.func11 rfl rfl rfl (W_seq (W_region (L_assign rfl rfl (RL_then (W_seq (W_region (L_call rfl Try.fun12 rfl (newG 4621819117588971520 w (by decide)) ?_)))))))
 rintro _ w1 (⟨_, B, rfl, hs', hB⟩ | ⟨h, _⟩)
 case inr => exact absurd (by decide +kernel) h
 have hBw := hB
 replace hB := Nat.le_trans hs.size hB
 replace hs : HS w0 w1 (nbs B 4621819117588971520 (.slice none 0 0) [] [] ++ []) := hs.call hs' (Own.cons hBw Own.nil)
 clear hs' hBw
 have hN : NetOk w0 B (.slice none 0 0) [] [] := ⟨hB, .nil, fun _ h => absurd h List.not_mem_nil, by decide⟩
 refine L_move rfl rfl (L_extract rfl rfl rfl (L_extract rfl rfl rfl (L_assign rfl rfl (L_assign rfl rfl (RL_then (W_seq (W_seq (W_region (L_move rfl rfl (L_neq rfl rfl rfl (dfalse (by omega)) ?_))))))))))
 refine L_move rfl rfl (RL_want rfl rfl (L_move rfl rfl (RL_want rfl rfl (L_ptrNil rfl Try.underlying26 rfl rfl (L_pick_f rfl rfl rfl (RL_then (W_if_false rfl (W_skip' (Nx_then (W_seq (W_region (L_move rfl rfl ?_))))))))))))
 refine L_build rfl rfl (Pl.built Try.pl37 rfl) (L_call rfl Try.fun20 rfl (addG w0 w1 B 4621819117588971520 (.slice none 0 0) [] [] [] 0 0 0 hs hN (by decide) (by decide) (by decide)) ?_)
 rintro _ w2 (⟨_, v1, M1, rfl, hs2, hN1⟩ | ⟨h, _⟩)
 case inr => exact absurd (by decide +kernel) h
 clear hs hN; have hs := hs2; clear hs2
 obtain ⟨ms1, hms1⟩ : ∃ ms1, ms1 = [] ++ [RM.mk ⟨0, 0, 0, none, 0, []⟩ []] := ⟨_, rfl⟩
 rw [← hms1] at hs hN1
 have hml1 : ms1.length = 1 := by rw [hms1]; rfl
 refine L_move rfl rfl (L_extract rfl rfl rfl (L_extract rfl rfl rfl (L_assign rfl rfl (L_assign rfl rfl (RL_then (W_seq (W_region (L_move rfl rfl (L_build rfl rfl (Pl.built Try.pl35 rfl) (L_build rfl rfl (Pl.builtN Try.pl37 rfl) (L_call rfl Try.fun20 rfl (addG w0 w2 B 4621819117588971520 v1 M1 [] ms1 4636737291354636288 0 0 hs hN1 (by decide) (by decide) (by decide)) ?_)))))))))))
 rintro _ w3 (⟨_, v2, M2, rfl, hs2, hN2⟩ | ⟨h, _⟩)
 case inr => rw [hml1] at h; exact absurd (by decide +kernel) h
 clear hs hN1; have hs := hs2; clear hs2
 rw [hml1]
 obtain ⟨ms, hms⟩ : ∃ ms, ms = ms1 ++ [RM.mk ⟨4636737291354636288, 0, 0, none, 0, []⟩ []] := ⟨_, rfl⟩
 rw [← hms] at hs hN2
 have hml : ms.length = 2 := by rw [hms, List.length_append, hml1]; rfl
 have hmr : rds ms = [⟨0, 0, 0, none, 0, []⟩, ⟨4636737291354636288, 0, 0, none, 0, []⟩] := by rw [hms, hms1]; rfl
 refine L_move rfl rfl (L_extract rfl rfl rfl (L_extract rfl rfl rfl (L_assign rfl rfl (L_assign rfl rfl (RL_then (W_seq (W_region (L_move rfl rfl (L_call rfl Try.fun16 rfl (track_ok 4632233691727265792 0 w3) ?_)))))))))
 rintro _ w4 ⟨rfl, hs'⟩
 replace hs := hs.nil hs'
 clear hs'
 refine L_buildSlice rfl hs Try.underlying38 Try.ti48 rfl (by decide) rfl (by simp [Value.cells]; rfl) ?_
 intro b36 w hb36 hnb36 hs
 simp only [List.flatMap_cons, List.flatMap_nil, cells_int, cells_float, cells_complex, cells_bool, cells_string, cells_pointer, cells_slice, cells_map, cells_agg, List.append_nil, List.set_cons_succ, List.set_cons_zero, List.cons_append, List.nil_append] at hs
 replace hs : HS w0 w (nbs B 4621819117588971520 v2 M2 ms ++ [(b36, Row 48 (tcs [trk 4632233691727265792 0]))]) := hs
 have hlt0 : ∀ x, x < 18446744073709551616 → ∀ i, i < 1 → TkLt ([trk x 0].getD i tk0) := fun x hx i hi => by
  match i, hi with
  | 0, _ => exact ⟨hx, (show (0 : Nat) < 18446744073709551616 by decide), (show (0 : Nat) < 18446744073709551616 by decide), (show (0 : Nat) < 18446744073709551616 by decide)⟩
 refine L_call rfl Try.fun21 rfl (tellG w0 w B 4621819117588971520 v2 M2 _ ms 0 (some ⟨b36, 0, none⟩) 1 1 [trk 4632233691727265792 0] hs hN2 (Own.cons hb36 Own.nil) (fun w' L' hs' _ hp => SlC.of_row (sp := []) (by rw [List.append_nil]; exact hs'.has _ (hp _ (List.mem_append_right _ (List.mem_singleton.2 rfl))))) rfl (by decide) (hlt0 _ (by decide))) ?_
 rintro _ w5 ⟨rfl, ⟨h, _⟩ | ⟨_, q1, a3, c3, M3, ms3, hq1, _, hs2, hN3, hr3⟩⟩
 case inl => rw [hml] at h; exact absurd (by decide +kernel) h
 obtain rfl : q1 = 0 := by omega
 rw [hmr] at hr3
 replace hs := hs2.dropR (Own.cons hb36 Own.nil)
 clear hs2 hN2
 have hml3 : ms3.length = 2 := by have := congrArg List.length hr3; rwa [rds_len] at this
 rw [hml, show tellE 2 0 [trk 4632233691727265792 0] = 0 by decide +kernel]
 refine L_assign rfl rfl (RL_then (W_seq (W_region (L_move rfl rfl (L_call rfl Try.fun16 rfl (track_ok 13855324253605330944 0 w5) ?_)))))
 rintro _ w6 ⟨rfl, hs'⟩
 replace hs := hs.nil hs'
 clear hs'
 refine L_buildSlice rfl hs Try.underlying38 Try.ti48 rfl (by decide) rfl (by simp [Value.cells]; rfl) ?_
 intro b40 w hb40 hnb40 hs
 simp only [List.flatMap_cons, List.flatMap_nil, cells_int, cells_float, cells_complex, cells_bool, cells_string, cells_pointer, cells_slice, cells_map, cells_agg, List.append_nil, List.set_cons_succ, List.set_cons_zero, List.cons_append, List.nil_append] at hs
 replace hs : HS w0 w (nbs B 4621819117588971520 v2 M3 ms3 ++ [(b40, Row 48 (tcs [trk 13855324253605330944 0]))]) := by
  have : HS w0 w ((nbs B 4621819117588971520 v2 M3 ms3) ++ [(b40, Row 48 (trk 13855324253605330944 0).cells)]) := hs
  exact this
 refine L_call rfl Try.fun21 rfl (tellG w0 w B 4621819117588971520 v2 M3 _ ms3 1 (some ⟨b40, 0, none⟩) 1 1 [trk 13855324253605330944 0] hs hN3 (Own.cons hb40 Own.nil) (fun w' L' hs' _ hp => SlC.of_row (sp := []) (by rw [List.append_nil]; exact hs'.has _ (hp _ (List.mem_append_right _ (List.mem_singleton.2 rfl))))) rfl (by decide) (hlt0 _ (by decide))) ?_
 rintro _ w7 ⟨rfl, ⟨h, _⟩ | ⟨_, q1, a4, c4, M4, ms4, hq1, _, hs2, hN4, hr4⟩⟩
 case inl => rw [hml3] at h; exact absurd (by decide +kernel) h
 obtain rfl : q1 = 1 := by omega
 rw [hr3] at hr4
 replace hs := hs2.dropR (Own.cons hb40 Own.nil)
 clear hs2 hN3
 have hml4 : ms4.length = 2 := by have := congrArg List.length hr4; rwa [rds_len] at this
 rw [hml3, show tellE 2 1 [trk 13855324253605330944 0] = 0 by decide +kernel]
 have hr5 : rds ms4 = [⟨0, 0, 0, a3, c3, [trk 4632233691727265792 0]⟩, ⟨4636737291354636288, 0, 0, a4, c4, [trk 13855324253605330944 0]⟩] := hr4
 refine L_assign rfl rfl (RL_then (W_seq (W_region (L_move rfl rfl ?_))))
 refine L_call rfl Try.fun22 rfl (fusedG w0 w7 B 4621819117588971520 v2 M4 [] ms4 (HS.re hs (fun c => by simp only [List.map_append, List.map_cons, List.map_nil, List.sum_append, List.sum_cons, List.sum_nil]; omega)) hN4 (FarOk.of (by decide) (by decide +kernel))) ?_
 rintro v9 w8 ⟨S, fs, Mo, hF, hfm, hbo, hfb, hs2, hfl, _⟩
 rw [hr5, hml4] at hF
 rw [wk_things rfl hF] at hfm
 clear hs; have hs := hs2; clear hs2
 obtain ⟨f, rfl⟩ : ∃ f, fs = [f] := by
  have h1 : fs.length = 1 := by have := congrArg List.length hfm; rwa [List.length_map] at this
  match fs, h1 with
  | [f], _ => exact ⟨f, rfl⟩
 have hfs : f.s = ⟨4632374429215621120, 0, 0, 0, [0, 1]⟩ := List.cons.inj hfm |>.1
 have hax : f.ax = 4632374429215621120 := cn_same ((congrArg ST.ax hfs).trans (by decide +kernel)) (by decide +kernel)
 have hay : f.ay = 0 := cn_same ((congrArg ST.ay hfs).trans (by decide +kernel)) (by decide +kernel)
 have hse : f.seen = [0, 1] := congrArg ST.seen hfs
 have hfb1 := hfb f (List.mem_singleton.2 rfl)
 rw [hse] at hfb1
 obtain ⟨gs, cs, ss, hfv, hfM, hgs, hsl, hcs⟩ := hfb1.own_row (by decide)
 replace hbo : Bl w0 64 5 v9 1 (fcs [f]) Mo := hbo
 obtain ⟨go, co, so, rfl, rfl, hgo, hol, hco⟩ := hbo.own_row (by decide)
 have hce : fcs [f] = [.float .f64 4632374429215621120, .float .f64 0, .float .f64 f.vx, .float .f64 f.vy, .slice (some ⟨gs, 0, none⟩) 2 cs] := by
  show f.cells ++ [] = _
  rw [List.append_nil]
  unfold Th.cells
  rw [hax, hay, hfv]; rfl
 rw [hce, show fms [f] = f.M ++ [] from rfl, hfM] at hs
 replace hs : HS w0 w8 ((nbs B 4621819117588971520 v2 M4 ms4 ++ []) ++ ([(go, Row 64 ([.float .f64 4632374429215621120, .float .f64 0, .float .f64 f.vx, .float .f64 f.vy, .slice (some ⟨gs, 0, none⟩) 2 cs] ++ so))] ++ [(gs, Row 3 ([.int .i64 0, .int .i64 1] ++ ss))])) := hs
 replace hs : HS w0 w8 ((go, Row 64 ([.float .f64 4632374429215621120, .float .f64 0, .float .f64 f.vx, .float .f64 f.vy, .slice (some ⟨gs, 0, none⟩) 2 cs] ++ so)) :: (gs, Row 3 ([.int .i64 0, .int .i64 1] ++ ss)) :: (nbs B 4621819117588971520 v2 M4 ms4)) := HS.re hs (fun c => by simp only [List.map_append, List.map_cons, List.map_nil, List.sum_append, List.sum_cons, List.sum_nil]; omega)
 refine L_assign rfl rfl (RL_then (W_seq (W_region (L_build rfl rfl (Pl.built Try.pl45 rfl) (L_build rfl rfl (Pl.built Try.pl45 rfl) (L_call rfl Try.fun18 rfl (Both_ok ⟨0, 0, 4607182418800017408, 0, 0⟩ ⟨4616189618054758400, 0, 4613937818241073152, 0, 0⟩ w8) ?_))))))
 rintro _ w9 ⟨x, y, p, q, rfl, hs', hx, hp, hy, hq⟩
 replace hs := hs.nil hs'
 clear hs'
 obtain rfl : x = 4607182418800017408 := cn_same (hx.trans (by decide +kernel)) (by decide +kernel)
 obtain rfl : p = 4609434218613702656 := cn_same (hp.trans (by decide +kernel)) (by decide +kernel)
 refine L_alloc rfl hs Try.ti45 ?_; intro b10 w hb10 _ hs; replace hs := HS.push hs
 refine L_storeA hs (i := 0) rfl Try.ti45 rfl rfl (by rfl) (by simp) (by simp [Value.oneCell']) ?_
 intro w hs
 dsimp only [List.set_cons_succ, List.set_cons_zero, List.cons_append, List.nil_append] at hs
 refine RL_then (W_seq (W_seq (W_region ?_)))
 replace hs : HS w0 w ((b10, Row 45 [.float .f64 4607182418800017408, .float .f64 y, .float .f64 4609434218613702656, .float .f64 0, .float .f64 q]) :: (go, Row 64 ([.float .f64 4632374429215621120, .float .f64 0, .float .f64 f.vx, .float .f64 f.vy, .slice (some ⟨gs, 0, none⟩) 2 cs] ++ so)) :: (gs, Row 3 ([.int .i64 0, .int .i64 1] ++ ss)) :: (nbs B 4621819117588971520 v2 M4 ms4)) := hs
 have o1 : (FloatKind.f64.format.order 4632374429215621120 4632374429215621120 == some .eq) = true := by decide +kernel
 have o2 : (FloatKind.f64.format.order 0 0 == some .eq) = true := by decide +kernel
 have o3 : (FloatKind.f64.format.order 4607182418800017408 4607182418800017408 == some .eq) = true := by decide +kernel
 have o4 : (FloatKind.f64.format.order 4609434218613702656 4609434218613702656 == some .eq) = true := by decide +kernel
 refine L_move rfl rfl (L_neq rfl rfl rfl (dfalse (by omega)) ?_)
 refine L_move rfl rfl (RL_want rfl rfl (L_move rfl rfl (RL_want rfl rfl (L_neq rfl rfl rfl (dfalse (by omega)) ?_))))
 refine L_pick_f rfl rfl rfl (L_move rfl rfl (RL_want rfl rfl (L_move rfl rfl (RL_want rfl rfl (L_neq rfl rfl rfl (dfalse (by omega)) ?_)))))
 refine L_pick_f rfl rfl rfl (L_move rfl rfl (RL_want rfl rfl (L_move rfl rfl (RL_want rfl rfl (L_neq rfl rfl rfl (dfalse (by omega)) ?_)))))
 refine L_pick_f rfl rfl rfl (L_move rfl rfl (RL_want rfl rfl (L_move rfl rfl (RL_want rfl rfl (L_neq rfl rfl rfl rfl (L_pick_f rfl rfl rfl (L_move rfl rfl (RL_want rfl rfl (L_move rfl rfl (RL_want rfl rfl (L_neq rfl rfl rfl (dfalse (by omega)) ?_)))))))))))
 refine L_pick_f rfl rfl rfl (L_move rfl rfl (RL_want rfl rfl (L_move rfl rfl (RL_want rfl rfl (L_len rfl Try.underlying55 rfl (RL_want rfl rfl (L_neq rfl rfl rfl (dfalse (by omega)) ?_)))))))
 refine L_pick_f rfl rfl rfl (L_move rfl rfl (RL_want rfl rfl (L_move rfl rfl (RL_want rfl rfl (L_idxN rfl Try.underlying55 Try.ti64 rfl rfl natc_0 (by omega) rfl ?_)))))
 refine RL_want rfl rfl (L_fieldAddr rfl (off := 4) Try.underlying64 rfl rfl Try.ti60 rfl (RL_want rfl rfl (L_load rfl Try.one60 rfl (by exact hs.cell (i := 1) rfl rfl) ?_)))
 refine RL_want rfl rfl (L_len rfl Try.underlying60 rfl (RL_want rfl rfl (L_neq rfl rfl rfl (dfalse (by omega)) ?_)))
 refine L_pick_f rfl rfl rfl (RL_then (W_if_false rfl (W_skip' (Nx_then (W_seq (W_region (L_move rfl rfl (L_idxN rfl Try.underlying55 Try.ti64 rfl rfl natc_0 (by omega) rfl ?_))))))))
 refine L_fieldAddr rfl (off := 0) Try.underlying64 rfl rfl Try.ti35 rfl (L_fieldAddr rfl (off := 0) Try.underlying35 rfl rfl Try.ti22 rfl (L_load rfl Try.one22 rfl (by exact hs.cell (i := 1) rfl rfl) ?_))
 refine L_fcmp rfl rfl rfl (fun _ => by rw [binOp_float_cmp_eql, o1]; rfl) ?_
 refine L_move rfl rfl (RL_want rfl rfl (L_move rfl rfl (RL_want rfl rfl (L_idxN rfl Try.underlying55 Try.ti64 rfl rfl natc_0 (by omega) rfl ?_))))
 refine RL_want rfl rfl (L_fieldAddr rfl (off := 0) Try.underlying64 rfl rfl Try.ti35 rfl (RL_want rfl rfl (L_fieldAddr rfl (off := 1) Try.underlying35 rfl rfl Try.ti22 rfl (RL_want rfl rfl (L_load rfl Try.one22 rfl (by exact hs.cell (i := 1) rfl rfl) ?_)))))
 refine RL_want rfl rfl ?_
 refine L_fcmp rfl rfl rfl (fun _ => by rw [binOp_float_cmp_eql, o2]; rfl) ?_
 refine L_pick_t rfl rfl rfl (L_move rfl rfl (RL_want rfl rfl (L_move rfl rfl (RL_want rfl rfl (L_idxN rfl Try.underlying55 Try.ti64 rfl rfl natc_0 (by omega) rfl ?_)))))
 refine RL_want rfl rfl (L_fieldAddr rfl (off := 4) Try.underlying64 rfl rfl Try.ti60 rfl (RL_want rfl rfl (L_load rfl Try.one60 rfl (by exact hs.cell (i := 1) rfl rfl) ?_)))
 refine RL_want rfl rfl (L_idx1 rfl Try.underlying60 Try.ti3 rfl rfl natc_0 (by omega) rfl ?_)
 refine RL_want rfl rfl (L_load rfl Try.one3 rfl (by exact hs.cell (i := 2) rfl rfl) ?_)
 refine RL_want rfl rfl (L_eql rfl rfl rfl (dtrue (by omega)) ?_)
 refine L_pick_t rfl rfl rfl (L_move rfl rfl (RL_want rfl rfl (L_move rfl rfl (RL_want rfl rfl (L_idxN rfl Try.underlying55 Try.ti64 rfl rfl natc_0 (by omega) rfl ?_)))))
 refine RL_want rfl rfl (L_fieldAddr rfl (off := 4) Try.underlying64 rfl rfl Try.ti60 rfl (RL_want rfl rfl (L_load rfl Try.one60 rfl (by exact hs.cell (i := 1) rfl rfl) ?_)))
 refine RL_want rfl rfl (L_idx1 rfl Try.underlying60 Try.ti3 rfl rfl natc_1 (by omega) rfl ?_)
 refine RL_want rfl rfl (L_load rfl Try.one3 rfl (by exact hs.cell (i := 2) rfl rfl) ?_)
 refine RL_want rfl rfl (L_eql rfl rfl rfl (dtrue (by omega)) ?_)
 refine L_pick_t rfl rfl rfl (L_move rfl rfl (RL_want rfl rfl (L_fieldAddr rfl (off := 0) Try.underlying45 rfl rfl Try.ti22 rfl (RL_want rfl rfl (L_load rfl Try.one22 rfl (by exact hs.cell (i := 0) rfl rfl) ?_)))))
 refine RL_want rfl rfl ?_
 refine L_fcmp rfl rfl rfl (fun _ => by rw [binOp_float_cmp_eql, o3]; rfl) ?_
 refine L_pick_t rfl rfl rfl (L_move rfl rfl (RL_want rfl rfl (L_fieldAddr rfl (off := 2) Try.underlying45 rfl rfl Try.ti22 rfl (RL_want rfl rfl (L_load rfl Try.one22 rfl (by exact hs.cell (i := 0) rfl rfl) ?_)))))
 refine RL_want rfl rfl ?_
 refine L_fcmp rfl rfl rfl (fun _ => by rw [binOp_float_cmp_eql, o4]; rfl) ?_
 refine L_pick_t rfl rfl rfl (L_move rfl rfl (RL_want rfl rfl (L_move rfl rfl ?_)))
 obtain ⟨R, hR⟩ : ∃ R, R = [(b10, Row 45 [.float .f64 4607182418800017408, .float .f64 y, .float .f64 4609434218613702656, .float .f64 0, .float .f64 q]), (go, Row 64 ([.float .f64 4632374429215621120, .float .f64 0, .float .f64 f.vx, .float .f64 f.vy, .slice (some ⟨gs, 0, none⟩) 2 cs] ++ so)), (gs, Row 3 ([.int .i64 0, .int .i64 1] ++ ss))] := ⟨_, rfl⟩
 have hoR : Own w0 R := by rw [hR]; exact Own.cons hb10 (Own.cons hgo (Own.cons hgs Own.nil))
 replace hs : HS w0 w (nbs B 4621819117588971520 v2 M4 ms4 ++ R) := by rw [hR]; exact HS.re hs (fun c => by simp only [List.map_append, List.map_cons, List.map_nil, List.sum_append, List.sum_cons, List.sum_nil]; omega)
 refine RL_want rfl rfl (L_call rfl Try.fun21 rfl (tellG w0 w B 4621819117588971520 v2 M4 R ms4 2 none 0 0 [] hs hN4 hoR (fun w' _ _ _ _ => slc_nil w') rfl (by decide) (fun i hi => absurd hi (Nat.not_lt_zero _))) ?_)
 rintro _ wE ⟨rfl, ⟨_, hs2⟩ | ⟨h, _⟩⟩
 case inr => rw [hml4] at h; exact absurd h (by decide +kernel)
 rw [hml4, show tellE 2 2 [] = 280 by decide +kernel]
 refine RL_want rfl rfl (L_eql rfl rfl rfl (dtrue (by omega)) ?_)
 refine L_pick_t rfl rfl rfl (L_assign rfl rfl (RL_then (W_ret' (Ex_done1 rfl rfl ?_))))
 exact ⟨_, rfl, rfl, hs2.forget (hN4.owns.app hoR)⟩
end Go.Proofs.Ytknpoemkmcdgcaa

namespace Go.Proofs.Ytknpoemkmcdgcaa
open Go Go.Lk
/-! ### NetNil, NetBoth -/
theorem sameF_ok (x y : Nat) (h : cn x = cn y) (w0 : World) : Ret Try.prog 36 [.float .f64 x, .float .f64 y] w0 fun v w' => v = .bool true ∧ w' = w0 := by
 have hn : isnan x = isnan y := by rw [← isnan_cn x, h, isnan_cn]
 refine calls_of_W Try.func36 rfl rfl rfl ?_
 cases hx : isnan x
 ·
  have h1 : (FloatKind.f64.format.order x x != some .eq) = false := by rw [order_self hx]; rfl
  have h2 : (FloatKind.f64.format.order y y != some .eq) = false := by rw [order_self (hn ▸ hx)]; rfl
  have e : x = y := by rw [cn_num hx, cn_num (hn ▸ hx)] at h; exact h
  subst e
  refine W_seq (W_region (L_assign rfl rfl (RL_then (W_seq (W_seq (W_region (L_move rfl rfl (L_move rfl rfl ?_))))))))
  refine L_fcmp rfl rfl rfl (fun _ => by rw [binOp_float_cmp_neq, h1]; rfl) ?_
  refine L_move rfl rfl (RL_want rfl rfl (L_move rfl rfl (RL_want rfl rfl (L_move rfl rfl (RL_want rfl rfl ?_)))))
  refine L_fcmp rfl rfl rfl (fun _ => by rw [binOp_float_cmp_neq, h2]; rfl) ?_
  refine L_pick_f rfl rfl rfl (RL_then (W_if_false rfl (W_skip' (Nx_then (W_seq (W_region (L_move rfl rfl (RL_val rfl (R_f64bits Try.ext27 rfl) (L_move rfl rfl (RL_val rfl (R_f64bits Try.ext27 rfl) (L_eql rfl rfl rfl (dtrue (by omega)) ?_)))))))))))
  refine L_assign rfl rfl (RL_then (W_ret' (Ex_done1 rfl rfl ?_)))
  exact ⟨_, rfl, by simp, rfl⟩
 ·
  have h1 : (FloatKind.f64.format.order x x != some .eq) = true := by rw [order_nanL hx]; rfl
  have h2 : (FloatKind.f64.format.order y y != some .eq) = true := by rw [order_nanL (hn ▸ hx)]; rfl
  refine W_seq (W_region (L_assign rfl rfl (RL_then (W_seq (W_seq (W_region (L_move rfl rfl (L_move rfl rfl ?_))))))))
  refine L_fcmp rfl rfl rfl (fun _ => by rw [binOp_float_cmp_neq, h1]; rfl) ?_
  refine L_move rfl rfl (RL_skip rfl rfl rfl rfl (RL_skip rfl rfl rfl rfl (RL_skip rfl rfl rfl rfl (L_pick_t rfl rfl rfl (RL_then (W_if_true rfl (W_seq (W_region (L_move rfl rfl (L_move rfl rfl ?_))))))))))
  refine L_fcmp rfl rfl rfl (fun _ => by rw [binOp_float_cmp_neq, h1]; rfl) ?_
  refine L_move rfl rfl (RL_want rfl rfl (L_move rfl rfl (RL_want rfl rfl (L_move rfl rfl (RL_want rfl rfl ?_)))))
  refine L_fcmp rfl rfl rfl (fun _ => by rw [binOp_float_cmp_neq, h2]; rfl) ?_
  refine L_pick_t rfl rfl rfl (L_assign rfl rfl (RL_then (W_ret' (Ex_then_ret (Ex_done1 rfl rfl ?_)))))
  exact ⟨_, rfl, rfl, rfl⟩
end Go.Proofs.Ytknpoemkmcdgcaa

namespace Go.Proofs.Ytknpoemkmcdgcaa
open Go Go.Lk
section
variable {H : Type} {enc : TypeId × Value → H} {w : World} {base : Nat} {spare : Nat → Bool} {held : Bool} {fuel : Nat} {cs : List Value} {x : DataW H × List MemPlace}
end
theorem Try.ownB : ownKnob Try.prog.godebug = none := by kernel_rfl
theorem Try.laidB : laidOutB Try.prog = true := by kernel_rfl
end Go.Proofs.Ytknpoemkmcdgcaa
