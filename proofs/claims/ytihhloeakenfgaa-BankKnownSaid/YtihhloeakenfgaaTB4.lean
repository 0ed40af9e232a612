/-
  A part of the proof: what functions that the statement reaches do, or a plain law on what they do. Each theorem holds under its own premises alone.
-/
import Derived.Test.YtihhloeakenfgaaTB3
namespace Go.Proofs.Ytihhloeakenfgaa
open Go Go.Lk
theorem fl_set1 (xs : List Nat) (j v : Nat) : (fl xs).set j (.float .f64 v) = fl (xs.set j v) := by simp [fl, List.map_set]
theorem ngset {xs : List Nat} {i : Nat} (h : i < xs.length) (v q : Nat) : (xs.set i v).getD q 0 = if q = i then v else xs.getD q 0 := by
  by_cases hq : q = i
  · subst hq; simp [List.getD, h]
  · simp [List.getD, Ne.symm hq, hq]
theorem three {xs : List Nat} (h : xs.length = 3) : ∃ a b c, xs = [a, b, c] := by
  match xs, h with
  | [a, b, c], _ => exact ⟨a, b, c, rfl⟩
theorem newring_ok (bs aa : List Nat) (w0 : World) (hb : bs.length = 3) (ha : aa.length = 3) (hbf : ∀ i, i < 3 → Fin1 (bs.getD i 0)) (haf : ∀ i, i < 3 → Fin1 (aa.getD i 0)) (ha0 : FloatKind.f64.format.order (aa.getD 0 0) 0 ≠ some .eq) :
    Ret Try.prog 6 [.agg (fl bs).toArray, .agg (fl aa).toArray] w0 fun v w' => ∃ B cs ds, v = .tuple #[.pointer (some ⟨B, 0, none⟩), .int .i64 0] ∧ HS w0 w' [(B, Row 50 (fl (cs ++ ds) ++ [cv (0, 0), cv (0, 0)]))] ∧ w0.heap.size ≤ B ∧ cs.length = 3 ∧ ds.length = 3 ∧
      (∀ i, i < 3 → Fs .quo (bs.getD i 0) (aa.getD 0 0) (cs.getD i 0)) ∧ ∀ i, i < 3 → Fs .quo (aa.getD i 0) (aa.getD 0 0) (ds.getD i 0) := by
  refine Ret.start fun w hs => ?_
  refine calls_of_W Try.func6 rfl rfl rfl ?_
  refine W_seq ?_
  refine W_region ?_
  refine L_box rfl hs rfl ?_
  intro b2 w hb2 hnb2 hs
  try dsimp only [List.set_cons_succ, List.set_cons_zero, List.cons_append, List.nil_append] at hs
  refine L_box rfl hs rfl ?_
  intro b3 w hb3 hnb3 hs
  try dsimp only [List.set_cons_succ, List.set_cons_zero, List.cons_append, List.nil_append] at hs
  refine L_assign rfl rfl ?_
  refine L_assign rfl rfl ?_
  refine RL_then ?_
  refine W_seq ?_
  refine W_seq ?_
  refine W_region ?_
  refine L_move rfl rfl ?_
  refine RL_then ?_
  refine W_block ?_
  replace hs : HS w0 w [(b2, Row 26 (fl bs)), (b3, Row 26 (fl aa))] := hs
  have hO : ∀ {o o' : Obj}, Own w0 [(b2, o), (b3, o')] := Own.cons hb2 (Own.cons hb3 Own.nil)
  refine W_loop2 (fun (i : Nat) (w : World) => [(2, .pointer (some ⟨b2, 0, none⟩)), (3, .pointer (some ⟨b3, 0, none⟩)), (9, .int .i64 i)]) (fun (i : Nat) (w : World) => w) (fun (i : Nat) (w : World) => (i ≤ 3) ∧ (HS w0 w [(b2, Row 26 (fl bs)), (b3, Row 26 (fl aa))])) (fun (i : Nat) (w : World) => 3 - i) (0) (w) (is := [2, 3, 9]) rfl rfl ?_ ?_
  · exact ⟨Nat.zero_le _, hs⟩
  · clear hs
    intro i w hI
    show W _ _ _ _ [(2, .pointer (some ⟨b2, 0, none⟩)), (3, .pointer (some ⟨b3, 0, none⟩)), (9, .int .i64 i)] w
    obtain ⟨hi, hs⟩ := hI
    by_cases hlt : i < 3
    · skip
      refine W_seq ?_
      refine W_region ?_
      first | refine L_lss rfl rfl rfl (dtrue (by omega)) ?_ | refine L_lss rfl rfl rfl (dfalse (by omega)) ?_ | refine L_lss rfl rfl rfl rfl ?_
      refine RL_then ?_
      refine W_seq ?_
      refine W_if_true rfl ?_
      refine W_skip' ?_
      refine Nx_then ?_
      refine W_seq ?_
      refine W_block ?_
      refine W_seq ?_
      refine W_region ?_
      refine L_move rfl rfl ?_
      refine L_assign rfl rfl ?_
      refine RL_then ?_
      refine W_seq ?_
      refine W_region ?_
      refine L_move rfl rfl ?_
      refine L_idxA1 rfl Try.underlying26 Try.ti25 rfl rfl (by with_reducible first | exact natc_k _ | exact natc_a1 _ | exact natc_0 | exact natc_1 | exact natc_2 | exact natc_s1 _ (by omega) | exact natc_a2 _ | exact natc_add _ _ | exact natc_mul _ _ | exact natc (by omega)) (by omega) ?_
      refine L_load rfl Try.one25 rfl (by first | exact hs.cellA (i := 0) rfl (fl_get (by omega)) | exact hs.cellA (i := 1) rfl (fl_get (by omega))) ?_
      refine L_call rfl Try.fun16 rfl (finite_ok (bs.getD i 0) (hbf i hlt) w) ?_
      rintro _ w ⟨rfl, rfl⟩
      refine L_not rfl rfl ?_
      refine L_move rfl rfl ?_
      first | (refine RL_want rfl rfl ?_; refine L_move rfl rfl ?_) | refine RL_skip rfl rfl rfl rfl ?_ | refine RL_skipU rfl rfl rfl ?_
      first | (refine RL_want rfl rfl ?_; refine L_idxA1 rfl Try.underlying26 Try.ti25 rfl rfl (by with_reducible first | exact natc_k _ | exact natc_a1 _ | exact natc_0 | exact natc_1 | exact natc_2 | exact natc_s1 _ (by omega) | exact natc_a2 _ | exact natc_add _ _ | exact natc_mul _ _ | exact natc (by omega)) (by omega) ?_) | refine RL_skip rfl rfl rfl rfl ?_ | refine RL_skipU rfl rfl rfl ?_
      first | (refine RL_want rfl rfl ?_; refine L_load rfl Try.one25 rfl (by first | exact hs.cellA (i := 0) rfl (fl_get (by omega)) | exact hs.cellA (i := 1) rfl (fl_get (by omega))) ?_) | refine RL_skip rfl rfl rfl rfl ?_ | refine RL_skipU rfl rfl rfl ?_
      refine RL_want rfl rfl ?_
      refine L_call rfl Try.fun16 rfl (finite_ok (aa.getD i 0) (haf i hlt) w) ?_
      rintro _ w ⟨rfl, rfl⟩
      first | (refine RL_want rfl rfl ?_; refine L_not rfl rfl ?_) | refine RL_skip rfl rfl rfl rfl ?_ | refine RL_skipU rfl rfl rfl ?_
      first | refine L_pick_t rfl rfl rfl ?_ | refine L_pick_f rfl rfl rfl ?_
      refine RL_then ?_
      refine W_if_false rfl ?_
      refine W_skip' ?_
      refine Nx_block ?_
      refine Nx_then ?_
      refine W_region ?_
      first | refine L_add rfl rfl rfl (wrp_i64 (by omega)) ?_ | refine L_add rfl rfl rfl rfl ?_
      refine L_move rfl rfl ?_
      refine RL_nil' ?_
      refine Nx_loopP (i + 1, _) (is := [2, 3, 9]) (I' := (fun (i : Nat) (w : World) => (i ≤ 3) ∧ (HS w0 w [(b2, Row 26 (fl bs)), (b3, Row 26 (fl aa))])) (i + 1) (_)) rfl rfl rfl ?_ ?_
      · exact ⟨by omega, hs⟩
      · omega
    · have hie : i = 3 := by omega
      refine W_seq ?_
      refine W_region ?_
      first | refine L_lss rfl rfl rfl (dtrue (by omega)) ?_ | refine L_lss rfl rfl rfl (dfalse (by omega)) ?_ | refine L_lss rfl rfl rfl rfl ?_
      refine RL_then ?_
      refine W_seq ?_
      refine W_if_false rfl ?_
      refine W_exit' ?_
      refine Ex_then_exit ?_
      refine Ex_loop_exit ?_
      refine Ex_block_hit ?_
      refine Nx_then ?_
      refine W_seq ?_
      refine W_region ?_
      refine L_idxA1 rfl Try.underlying26 Try.ti25 rfl rfl (by with_reducible first | exact natc_k _ | exact natc_a1 _ | exact natc_0 | exact natc_1 | exact natc_2 | exact natc_s1 _ (by omega) | exact natc_a2 _ | exact natc_add _ _ | exact natc_mul _ _ | exact natc (by omega)) (by omega) ?_
      refine L_load rfl Try.one25 rfl (by exact hs.cellA (i := 1) rfl (j := 0) (fl_get (by omega))) ?_
      refine L_assign rfl rfl ?_
      refine RL_then ?_
      refine W_seq ?_
      refine W_seq ?_
      refine W_region ?_
      refine L_move rfl rfl ?_
      refine L_fcmp rfl rfl rfl (fun _ => by rw [binOp_float_cmp_eql]; rfl) ?_
      refine RL_then ?_
      refine W_set 28 (v' := .bool false) rfl (by rw [show (FloatKind.f64.format.order (aa.getD 0 0) 0 == some .eq) = false by simpa using ha0]) ?_
      refine W_if_false rfl ?_
      refine W_skip' ?_
      refine Nx_then ?_
      refine W_seq ?_
      refine W_seq ?_
      refine W_region ?_
      refine L_move rfl rfl ?_
      refine RL_then ?_
      refine W_block ?_
      refine W_loop4 (fun (i : Nat) (cs : List Nat) (ds : List Nat) (w : World) => [(2, .pointer (some ⟨b2, 0, none⟩)), (3, .pointer (some ⟨b3, 0, none⟩)), (7, .float .f64 (aa.getD 0 0)), (29, .int .i64 i)]) (fun (i : Nat) (cs : List Nat) (ds : List Nat) (w : World) => w) (fun (i : Nat) (cs : List Nat) (ds : List Nat) (w : World) => (i ≤ 3) ∧ (cs.length = 3 ∧ ds.length = 3) ∧ (∀ q, q < 3 → (q < i → Fs .quo (bs.getD q 0) (aa.getD 0 0) (cs.getD q 0) ∧ Fs .quo (aa.getD q 0) (aa.getD 0 0) (ds.getD q 0)) ∧ (i ≤ q → cs.getD q 0 = bs.getD q 0 ∧ ds.getD q 0 = aa.getD q 0)) ∧ (HS w0 w [(b2, Row 26 (fl cs)), (b3, Row 26 (fl ds))])) (fun (i : Nat) (cs : List Nat) (ds : List Nat) (w : World) => 3 - i) (0) (bs) (aa) (w) (is := [2, 3, 7, 29]) rfl rfl ?_ ?_
      · exact ⟨Nat.zero_le _, ⟨hb, ha⟩, fun q _ => ⟨fun h => absurd h (Nat.not_lt_zero _), fun _ => ⟨rfl, rfl⟩⟩, hs⟩
      · clear hs hi hie
        intro i cs ds w hI
        show W _ _ _ _ [(2, .pointer (some ⟨b2, 0, none⟩)), (3, .pointer (some ⟨b3, 0, none⟩)), (7, .float .f64 (aa.getD 0 0)), (29, .int .i64 i)] w
        obtain ⟨hi, ⟨hcl, hdl⟩, hq, hs⟩ := hI
        by_cases hlt2 : i < 3
        · obtain ⟨e1, e2⟩ := (hq i hlt2).2 (Nat.le_refl _)
          refine W_seq ?_
          refine W_region ?_
          first | refine L_lss rfl rfl rfl (dtrue (by omega)) ?_ | refine L_lss rfl rfl rfl (dfalse (by omega)) ?_ | refine L_lss rfl rfl rfl rfl ?_
          refine RL_then ?_
          refine W_seq ?_
          refine W_if_true rfl ?_
          refine W_skip' ?_
          refine Nx_then ?_
          refine W_seq ?_
          refine W_block ?_
          refine W_seq ?_
          refine W_region ?_
          refine L_move rfl rfl ?_
          refine L_assign rfl rfl ?_
          refine RL_then ?_
          refine W_seq ?_
          refine W_region ?_
          refine L_move rfl rfl ?_
          refine L_idxA1 rfl Try.underlying26 Try.ti25 rfl rfl (by with_reducible first | exact natc_k _ | exact natc_a1 _ | exact natc_0 | exact natc_1 | exact natc_2 | exact natc_s1 _ (by omega) | exact natc_a2 _ | exact natc_add _ _ | exact natc_mul _ _ | exact natc (by omega)) (by omega) ?_
          refine L_load rfl Try.one25 rfl (by first | exact hs.cellA (i := 0) rfl (fl_get (by omega)) | exact hs.cellA (i := 1) rfl (fl_get (by omega))) ?_
          refine L_move rfl rfl ?_
          refine L_farith rfl (op := .quo) rfl rfl rfl ?_
          intro r36 k36 hr36
          try replace hs := hs.drewN k36
          refine L_idxA1 rfl Try.underlying26 Try.ti25 rfl rfl (by with_reducible first | exact natc_k _ | exact natc_a1 _ | exact natc_0 | exact natc_1 | exact natc_2 | exact natc_s1 _ (by omega) | exact natc_a2 _ | exact natc_add _ _ | exact natc_mul _ _ | exact natc (by omega)) (by omega) ?_
          refine L_store hs (i := 0) rfl Try.ti25 rfl rfl (by first | rfl | exact add_lit0 _ _ | exact Addr.add_lit ..) (by simp; omega) rfl ?_
          intro w hs
          try dsimp only [List.set_cons_succ, List.set_cons_zero, List.cons_append, List.nil_append] at hs
          refine RL_then ?_
          refine W_region ?_
          refine L_move rfl rfl ?_
          rw [fl_set1] at hs
          refine L_idxA1 rfl Try.underlying26 Try.ti25 rfl rfl (by with_reducible first | exact natc_k _ | exact natc_a1 _ | exact natc_0 | exact natc_1 | exact natc_2 | exact natc_s1 _ (by omega) | exact natc_a2 _ | exact natc_add _ _ | exact natc_mul _ _ | exact natc (by omega)) (by omega) ?_
          refine L_load rfl Try.one25 rfl (by first | exact hs.cellA (i := 0) rfl (fl_get (by omega)) | exact hs.cellA (i := 1) rfl (fl_get (by omega))) ?_
          refine L_move rfl rfl ?_
          refine L_farith rfl (op := .quo) rfl rfl rfl ?_
          intro r42 k42 hr42
          try replace hs := hs.drewN k42
          refine L_idxA1 rfl Try.underlying26 Try.ti25 rfl rfl (by with_reducible first | exact natc_k _ | exact natc_a1 _ | exact natc_0 | exact natc_1 | exact natc_2 | exact natc_s1 _ (by omega) | exact natc_a2 _ | exact natc_add _ _ | exact natc_mul _ _ | exact natc (by omega)) (by omega) ?_
          refine L_store hs (i := 1) rfl Try.ti25 rfl rfl (by first | rfl | exact add_lit0 _ _ | exact Addr.add_lit ..) (by simp; omega) rfl ?_
          intro w hs
          try dsimp only [List.set_cons_succ, List.set_cons_zero, List.cons_append, List.nil_append] at hs
          refine RL_nil' ?_
          refine Nx_block ?_
          refine Nx_then ?_
          refine W_region ?_
          first | refine L_add rfl rfl rfl (wrp_i64 (by omega)) ?_ | refine L_add rfl rfl rfl rfl ?_
          refine L_move rfl rfl ?_
          refine RL_nil' ?_
          rw [fl_set1] at hs
          rw [e1] at hr36
          rw [e2] at hr42
          refine Nx_loopP (i + 1, cs.set i r36, ds.set i r42, _) (is := [2, 3, 7, 29]) (I' := (fun (i : Nat) (cs : List Nat) (ds : List Nat) (w : World) => (i ≤ 3) ∧ (cs.length = 3 ∧ ds.length = 3) ∧ (∀ q, q < 3 → (q < i → Fs .quo (bs.getD q 0) (aa.getD 0 0) (cs.getD q 0) ∧ Fs .quo (aa.getD q 0) (aa.getD 0 0) (ds.getD q 0)) ∧ (i ≤ q → cs.getD q 0 = bs.getD q 0 ∧ ds.getD q 0 = aa.getD q 0)) ∧ (HS w0 w [(b2, Row 26 (fl cs)), (b3, Row 26 (fl ds))])) (i + 1) (cs.set i r36) (ds.set i r42) (_)) rfl rfl rfl ?_ ?_
          · refine ⟨by omega, ⟨by simp [hcl], by simp [hdl]⟩, fun q hq3 => ?_, hs⟩
            show (q < i + 1 → Fs _ _ _ ((cs.set i r36).getD q 0) ∧ Fs _ _ _ ((ds.set i r42).getD q 0)) ∧ (i + 1 ≤ q → (cs.set i r36).getD q 0 = _ ∧ (ds.set i r42).getD q 0 = _)
            rw [ngset (by omega), ngset (by omega)]
            by_cases hqi : q = i
            · subst hqi
              rw [if_pos rfl, if_pos rfl]
              exact ⟨fun _ => ⟨hr36, hr42⟩, fun h => absurd h (by omega)⟩
            · rw [if_neg hqi, if_neg hqi]
              exact ⟨fun h => (hq q hq3).1 (by omega), fun h => (hq q hq3).2 (by omega)⟩
          · omega
        · have hie : i = 3 := by omega
          obtain ⟨c0, c1, c2, rfl⟩ := three hcl
          obtain ⟨d0, d1, d2, rfl⟩ := three hdl
          refine W_seq ?_
          refine W_region ?_
          first | refine L_lss rfl rfl rfl (dtrue (by omega)) ?_ | refine L_lss rfl rfl rfl (dfalse (by omega)) ?_ | refine L_lss rfl rfl rfl rfl ?_
          refine RL_then ?_
          refine W_seq ?_
          refine W_if_false rfl ?_
          refine W_exit' ?_
          refine Ex_then_exit ?_
          refine Ex_loop_exit ?_
          refine Ex_block_hit ?_
          refine Nx_then ?_
          refine W_seq ?_
          refine W_region ?_
          refine L_loadA rfl Try.agg26 Try.ti26 rfl (by first | exact cellsAt_whole (hs.get (i := 0) rfl) | exact cellsAt_whole (hs.get (i := 1) rfl)) ?_
          refine L_loadA rfl Try.agg26 Try.ti26 rfl (by first | exact cellsAt_whole (hs.get (i := 0) rfl) | exact cellsAt_whole (hs.get (i := 1) rfl)) ?_
          refine L_build (cells := (fl [c0, c1, c2, d0, d1, d2] ++ [cv (0, 0), cv (0, 0)]).toArray) rfl rfl (by kernel_rfl) ?_
          refine L_box rfl hs rfl ?_
          intro b48 w hb48 hnb48 hs
          try dsimp only [List.set_cons_succ, List.set_cons_zero, List.cons_append, List.nil_append] at hs
          refine L_assign rfl rfl ?_
          refine L_assign rfl rfl ?_
          refine RL_then ?_
          refine W_ret' ?_
          refine Ex_done2 rfl rfl rfl ?_
          exact ⟨_, rfl, _, [c0, c1, c2], [d0, d1, d2], rfl, HS.dropL (L := [(b2, Row 26 (fl [c0, c1, c2])), (b3, Row 26 (fl [d0, d1, d2]))]) hs hO, hb48, rfl, rfl, fun i hi => ((hq i hi).1 (by omega)).1, fun i hi => ((hq i hi).1 (by omega)).2⟩
end Go.Proofs.Ytihhloeakenfgaa
