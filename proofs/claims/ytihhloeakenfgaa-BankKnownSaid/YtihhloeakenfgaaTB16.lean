/-
  A part of the proof: what functions that the statement reaches do, or a plain law on what they do. Each theorem holds under its own premises alone.
-/
import Derived.Test.YtihhloeakenfgaaTB15
import Derived.Test.YtihhloeakenfgaaKit
namespace Go.Proofs.Ytihhloeakenfgaa
open Go Go.Lk
theorem rep_fin1 {x : Nat} {v : Int} (h : Rep x v) : Fin1 x := ⟨(rep_rung h).1, order_self (rep_not_nan h), rung_ord (rep_rung h).2⟩
theorem tmod_le (b : Int) : (b.tmod 1048576).natAbs ≤ 1048576 := by
  rw [Int.natAbs_tmod]
  have : b.natAbs % (1048576 : Int).natAbs < (1048576 : Int).natAbs := Nat.mod_lt _ (by decide)
  omega
theorem rep_tmod (b : Int) : Rep (FloatKind.f64.nearest (b.tmod 1048576)) (b.tmod 1048576) := rep_nearest _ (by have := tmod_le b; omega)
set_option maxHeartbeats 1000000 in
theorem round_law (x0 x1 x2 : Int) (a : Option Addr) (k cp : Nat) (ps : List (Int × Int)) (w0 : World) (hp : PairsAt w0 a ps) (hk : ps.length = k) :
    Ret Try.prog 3 [.agg #[.int .i64 x0, .int .i64 x1, .int .i64 x2], .slice a k cp] w0 fun v w' => v = .bool true ∧ HS w0 w' [] := by
  refine Ret.start fun w hs => ?_
  refine calls_of_W Try.func3 rfl rfl rfl ?_
  refine W_seq ?_
  refine W_region ?_
  refine L_box rfl hs rfl ?_
  intro b2 w hb2 hnb2 hs
  try dsimp only [List.set_cons_succ, List.set_cons_zero, List.cons_append, List.nil_append] at hs
  replace hs : HS w0 w [(b2, Row 22 (il [x0, x1, x2]))] := hs
  refine L_assign rfl rfl ?_
  refine RL_then ?_
  refine W_seq ?_
  refine W_seq ?_
  refine W_region ?_
  refine L_move rfl rfl ?_
  refine L_len rfl Try.underlying23 rfl ?_
  by_cases hbig : k > 4096
  · first | refine L_gtr rfl rfl rfl (dtrue (by omega)) ?_ | refine L_gtr rfl rfl rfl (dfalse (by omega)) ?_ | refine L_gtr rfl rfl rfl rfl ?_
    refine RL_then ?_
    refine W_if_true rfl ?_
    refine W_seq ?_
    refine W_region ?_
    refine L_call rfl Try.fun5 rfl (wakes_ok w) ?_
    rintro _ w1 ⟨rfl, hs'⟩
    replace hs := hs.nil hs'
    refine L_assign rfl rfl ?_
    refine RL_then ?_
    refine W_ret' ?_
    refine Ex_then_ret ?_
    refine Ex_done1 rfl rfl ?_
    exact ⟨_, rfl, rfl, hs.forget (Own.cons hb2 Own.nil)⟩
  · first | refine L_gtr rfl rfl rfl (dtrue (by omega)) ?_ | refine L_gtr rfl rfl rfl (dfalse (by omega)) ?_ | refine L_gtr rfl rfl rfl rfl ?_
    refine RL_then ?_
    refine W_if_false rfl ?_
    refine W_skip' ?_
    refine Nx_then ?_
    refine W_seq ?_
    refine W_region ?_
    refine L_alloc rfl hs Try.ti26 ?_
    intro b5 w hb5 hnb5 hs
    try dsimp only [List.set_cons_succ, List.set_cons_zero, List.cons_append, List.nil_append] at hs
    refine RL_then ?_
    refine W_seq ?_
    refine W_seq ?_
    refine W_region ?_
    refine L_assign rfl rfl ?_
    refine RL_then ?_
    refine W_block ?_
    replace hs : HS w0 w [(b2, Row 22 (il [x0, x1, x2])), (b5, Row 26 (fl [0, 0, 0]))] := hs
    refine W_loop3 (fun (i : Nat) (cs : List Nat) (w : World) => [(1, .slice a k cp), (2, .pointer (some ⟨b2, 0, none⟩)), (5, .pointer (some ⟨b5, 0, none⟩)), (6, .int .i64 i)]) (fun (i : Nat) (cs : List Nat) (w : World) => w) (fun (i : Nat) (cs : List Nat) (w : World) => (i ≤ 3) ∧ (cs.length = 3) ∧ (∀ q, q < i → Rep (cs.getD q 0) (([x0, x1, x2].getD q 0).tmod 1048576)) ∧ (HS w0 w [(b2, Row 22 (il [x0, x1, x2])), (b5, Row 26 (fl cs))])) (fun (i : Nat) (cs : List Nat) (w : World) => 3 - i) (0) ([0, 0, 0]) (w) (is := [1, 2, 5, 6]) rfl rfl ?_ ?_
    · exact ⟨Nat.zero_le _, rfl, fun _ h => absurd h (Nat.not_lt_zero _), hs⟩
    · clear hs
      intro i cs w hI
      show W _ _ _ _ [(1, .slice a k cp), (2, .pointer (some ⟨b2, 0, none⟩)), (5, .pointer (some ⟨b5, 0, none⟩)), (6, .int .i64 i)] w
      obtain ⟨hi, hcl, hc, hs⟩ := hI
      by_cases hlt : i < 3
      · skip
        refine W_seq ?_
        refine W_seq ?_
        refine W_region ?_
        refine L_move rfl rfl ?_
        first | refine L_lss rfl rfl rfl (dtrue (by omega)) ?_ | refine L_lss rfl rfl rfl (dfalse (by omega)) ?_ | refine L_lss rfl rfl rfl rfl ?_
        refine RL_then ?_
        refine W_if_true rfl ?_
        refine W_skip' ?_
        refine Nx_then ?_
        refine W_seq ?_
        refine W_block ?_
        refine W_region ?_
        refine L_move rfl rfl ?_
        refine L_move rfl rfl ?_
        refine L_idxA1 rfl Try.underlying22 Try.ti3 rfl rfl (by with_reducible first | exact natc_k _ | exact natc_a1 _ | exact natc_0 | exact natc_1 | exact natc_2 | exact natc_s1 _ (by omega) | exact natc_a2 _ | exact natc_add _ _ | exact natc_mul _ _ | exact natc (by omega)) (by omega) ?_
        refine L_load rfl Try.one3 rfl (by exact hs.cellA (i := 0) rfl (il_get (by simp; omega))) ?_
        refine L_rem rfl rfl rfl (by omega) ?_
        refine L_itof rfl Try.underlying3 Try.underlying25 rfl ?_
        refine L_idxA1 rfl Try.underlying26 Try.ti25 rfl rfl (by with_reducible first | exact natc_k _ | exact natc_a1 _ | exact natc_0 | exact natc_1 | exact natc_2 | exact natc_s1 _ (by omega) | exact natc_a2 _ | exact natc_add _ _ | exact natc_mul _ _ | exact natc (by omega)) (by omega) ?_
        refine L_store hs (i := 1) rfl Try.ti25 rfl rfl (by first | rfl | exact add_lit0 _ _ | exact Addr.add_lit ..) (by simp; omega) rfl ?_
        intro w hs
        try dsimp only [List.set_cons_succ, List.set_cons_zero, List.cons_append, List.nil_append] at hs
        refine RL_nil' ?_
        refine Nx_block ?_
        refine Nx_then ?_
        refine W_region ?_
        refine L_move rfl rfl ?_
        first | refine L_add rfl rfl rfl (wrp_i64 (by omega)) ?_ | refine L_add rfl rfl rfl rfl ?_
        refine L_assign rfl rfl ?_
        refine RL_nil' ?_
        rw [fl_set1] at hs
        refine Nx_loopP (i + 1, cs.set i (FloatKind.f64.nearest (([x0, x1, x2].getD i 0).tmod 1048576)), w) (is := [1, 2, 5, 6]) (I' := (fun (i : Nat) (cs : List Nat) (w : World) => (i ≤ 3) ∧ (cs.length = 3) ∧ (∀ q, q < i → Rep (cs.getD q 0) (([x0, x1, x2].getD q 0).tmod 1048576)) ∧ (HS w0 w [(b2, Row 22 (il [x0, x1, x2])), (b5, Row 26 (fl cs))])) (i + 1) (cs.set i (FloatKind.f64.nearest (([x0, x1, x2].getD i 0).tmod 1048576))) (w)) rfl rfl rfl ?_ ?_
        · refine ⟨by omega, by simp [hcl], fun q hq => ?_, hs⟩
          rw [ngset (by omega)]
          by_cases hqi : q = i
          · rw [if_pos hqi, hqi]; exact rep_tmod _
          · rw [if_neg hqi]; exact hc q (by omega)
        · omega
      · obtain rfl : i = 3 := by omega
        obtain ⟨f0, f1, f2, rfl⟩ := three hcl
        have hc0 := hc 0 (by decide)
        have hc1 := hc 1 (by decide)
        have hc2 := hc 2 (by decide)
        refine W_seq ?_
        refine W_seq ?_
        refine W_region ?_
        refine L_move rfl rfl ?_
        first | refine L_lss rfl rfl rfl (dtrue (by omega)) ?_ | refine L_lss rfl rfl rfl (dfalse (by omega)) ?_ | refine L_lss rfl rfl rfl rfl ?_
        refine RL_then ?_
        refine W_if_false rfl ?_
        refine W_exit' ?_
        refine Ex_then_exit ?_
        refine Ex_loop_exit ?_
        refine Ex_block_hit ?_
        refine Nx_then ?_
        refine W_seq ?_
        refine W_region ?_
        refine L_assign rfl rfl ?_
        refine RL_then ?_
        refine W_seq ?_
        refine W_seq ?_
        refine W_region ?_
        refine L_assign rfl rfl ?_
        refine RL_then ?_
        refine W_block ?_
        refine W_loop5 (fun (i : Nat) (v7 : Value) (zs : List (Nat × Nat)) (M7 : List (Nat × Obj)) (w : World) => [(1, .slice a k cp), (5, .pointer (some ⟨b5, 0, none⟩)), (7, v7), (8, .int .i64 i)]) (fun (i : Nat) (v7 : Value) (zs : List (Nat × Nat)) (M7 : List (Nat × Obj)) (w : World) => w) (fun (i : Nat) (v7 : Value) (zs : List (Nat × Nat)) (M7 : List (Nat × Obj)) (w : World) => (i ≤ k) ∧ (zs.length = i) ∧ (∀ q, q < i → Rep (zs.getD q (0, 0)).1 ((ps.getD q (0, 0)).1.tmod 1048576) ∧ Rep (zs.getD q (0, 0)).2 ((ps.getD q (0, 0)).2.tmod 1048576)) ∧ (Bl w0 28 1 v7 i (cl zs) M7) ∧ (HS w0 w ([(b2, Row 22 (il [x0, x1, x2])), (b5, Row 26 (fl [f0, f1, f2]))] ++ M7))) (fun (i : Nat) (v7 : Value) (zs : List (Nat × Nat)) (M7 : List (Nat × Obj)) (w : World) => k - i) (0) (.slice none 0 0) ([]) ([]) (w) (is := [1, 5, 7, 8]) rfl rfl ?_ ?_
        · exact ⟨Nat.zero_le _, rfl, fun _ h => absurd h (Nat.not_lt_zero _), Bl.nil, hs⟩
        · clear hs
          intro i v7 zs M7 w hI
          show W _ _ _ _ [(1, .slice a k cp), (5, .pointer (some ⟨b5, 0, none⟩)), (7, v7), (8, .int .i64 i)] w
          obtain ⟨hi, hzl, hz, hb7, hs⟩ := hI
          have hO2 : Own w0 [(b2, Row 22 (il [x0, x1, x2])), (b5, Row 26 (fl [f0, f1, f2]))] := Own.cons hb2 (Own.cons hb5 Own.nil)
          by_cases hlt : i < k
          · have hao := hp.ao (by omega)
            have hO := hO2.app hb7.own
            refine W_seq ?_
            refine W_seq ?_
            refine W_region ?_
            refine L_move rfl rfl ?_
            refine L_move rfl rfl ?_
            refine L_len rfl Try.underlying23 rfl ?_
            first | refine L_lss rfl rfl rfl (dtrue (by omega)) ?_ | refine L_lss rfl rfl rfl (dfalse (by omega)) ?_ | refine L_lss rfl rfl rfl rfl ?_
            refine RL_then ?_
            refine W_if_true rfl ?_
            refine W_skip' ?_
            refine Nx_then ?_
            refine W_seq ?_
            refine W_block ?_
            refine W_pht [0, 1, 2, 3, 4, 8, 9, 10, 11] [5, 6, 7, 12, 13, 14, 15] [16, 17, 18] (fun _ _ _ => False) Try.mixed (by kernel_rfl) (fun _ _ _ _ _ h => h) hs ?_
            refine PL_val rfl (fun w => R_move rfl) ?_
            refine PL_val rfl (fun w => R_move rfl) ?_
            refine PL_val rfl (fun w => R_move rfl) ?_
            refine PL_val rfl (fun w => R_idxN Try.underlying23 Try.ti29 rfl rfl (by with_reducible first | exact natc_k _ | exact natc_a1 _ | exact natc_0 | exact natc_1 | exact natc_2 | exact natc_s1 _ (by omega) | exact natc_a2 _ | exact natc_add _ _ | exact natc_mul _ _ | exact natc (by omega)) (by omega) hao) ?_
            refine PL_val rfl (fun w => R_idxA1 Try.underlying29 Try.ti3 rfl rfl (by with_reducible first | exact natc_k _ | exact natc_a1 _ | exact natc_0 | exact natc_1 | exact natc_2 | exact natc_s1 _ (by omega) | exact natc_a2 _ | exact natc_add _ _ | exact natc_mul _ _ | exact natc (by omega)) (by omega)) ?_
            refine PL_val rfl (fun w => R_move rfl) ?_
            refine PL_val rfl (fun w => R_move rfl) ?_
            refine PL_val rfl (fun w => R_idxN Try.underlying23 Try.ti29 rfl rfl (by with_reducible first | exact natc_k _ | exact natc_a1 _ | exact natc_0 | exact natc_1 | exact natc_2 | exact natc_s1 _ (by omega) | exact natc_a2 _ | exact natc_add _ _ | exact natc_mul _ _ | exact natc (by omega)) (by omega) hao) ?_
            refine PL_val rfl (fun w => R_idxA1 Try.underlying29 Try.ti3 rfl rfl (by with_reducible first | exact natc_k _ | exact natc_a1 _ | exact natc_0 | exact natc_1 | exact natc_2 | exact natc_s1 _ (by omega) | exact natc_a2 _ | exact natc_add _ _ | exact natc_mul _ _ | exact natc (by omega)) (by omega)) ?_
            refine PL_end ?_
            refine HL_val rfl (fun w hs => R_load Try.one3 rfl (by rw [Lk.add_add]; exact (hp.old hs hO).c0 i (by omega))) ?_
            refine HL_val rfl (fun w hs => R_rem rfl rfl (by omega)) ?_
            refine HL_val rfl (fun w hs => R_itof Try.underlying3 Try.underlying25 rfl) ?_
            refine HL_val rfl (fun w hs => R_load Try.one3 rfl (by rw [Lk.add_add]; exact (hp.old hs hO).c1 i (by omega))) ?_
            refine HL_val rfl (fun w hs => R_rem rfl rfl (by omega)) ?_
            refine HL_val rfl (fun w hs => R_itof Try.underlying3 Try.underlying25 rfl) ?_
            refine HL_val rfl (fun w hs => R_complex rfl rfl) ?_
            refine HL_tail ?_
            intro w hs
            refine L_buildSlice1 rfl hs Try.underlying27 Try.ti28 rfl (by decide) rfl rfl ?_
            intro b53 w hb53 hnb53 hs
            simp only [List.map_cons, List.map_nil] at hs
            try dsimp only [List.set_cons_succ, List.set_cons_zero, List.cons_append, List.nil_append] at hs
            refine L_appendT (L := [(b2, Row 22 (il [x0, x1, x2])), (b5, Row 26 (fl [f0, f1, f2]))]) (M := M7) rfl Try.underlying27 Try.ti28 rfl hs (by assumption) hb7 rfl rfl rfl (by simp [Value.oneCell']) (by omega) (by omega) ?_
            intro v7' w M7' hs hb7'
            rw [cl_snoc] at hb7'
            refine L_assign rfl rfl ?_
            refine RL_nil' ?_
            refine Nx_block ?_
            refine Nx_then ?_
            refine W_region ?_
            refine L_move rfl rfl ?_
            first | refine L_add rfl rfl rfl (wrp_i64 (by omega)) ?_ | refine L_add rfl rfl rfl rfl ?_
            refine L_assign rfl rfl ?_
            refine RL_nil' ?_
            refine Nx_loopP (i + 1, v7', zs ++ [(FloatKind.f64.nearest ((ps.getD i (0, 0)).1.tmod 1048576), FloatKind.f64.nearest ((ps.getD i (0, 0)).2.tmod 1048576))], M7', w) (is := [1, 5, 7, 8]) (I' := (fun (i : Nat) (v7 : Value) (zs : List (Nat × Nat)) (M7 : List (Nat × Obj)) (w : World) => (i ≤ k) ∧ (zs.length = i) ∧ (∀ q, q < i → Rep (zs.getD q (0, 0)).1 ((ps.getD q (0, 0)).1.tmod 1048576) ∧ Rep (zs.getD q (0, 0)).2 ((ps.getD q (0, 0)).2.tmod 1048576)) ∧ (Bl w0 28 1 v7 i (cl zs) M7) ∧ (HS w0 w ([(b2, Row 22 (il [x0, x1, x2])), (b5, Row 26 (fl [f0, f1, f2]))] ++ M7))) (i + 1) (v7') (zs ++ [(FloatKind.f64.nearest ((ps.getD i (0, 0)).1.tmod 1048576), FloatKind.f64.nearest ((ps.getD i (0, 0)).2.tmod 1048576))]) (M7') (w)) rfl rfl rfl ?_ ?_
            · refine ⟨by omega, by simp [hzl], fun q hq => ?_, hb7', hs⟩
              rw [czsnoc hzl]
              by_cases hqi : q = i
              · rw [if_pos hqi, hqi]; exact ⟨rep_tmod _, rep_tmod _⟩
              · rw [if_neg hqi]; exact hz q (by omega)
            · omega
          · obtain rfl : k = i := by omega
            obtain ⟨a7, c7, rfl, hc7⟩ := hb7.slice
            have hgb : ∀ {R : Nat}, R ∉ M7.map (·.1) → 0 < k → (aD a7).block ≠ R := fun hR h0 => by
              obtain ⟨g, cap, sp, h1, h2, _⟩ := hb7.own_row h0
              cases h1
              rw [h2] at hR
              simp at hR
              exact fun h => hR h.symm
            have hO7 := hb7.own
            refine W_seq ?_
            refine W_seq ?_
            refine W_region ?_
            refine L_move rfl rfl ?_
            refine L_move rfl rfl ?_
            refine L_len rfl Try.underlying23 rfl ?_
            first | refine L_lss rfl rfl rfl (dtrue (by omega)) ?_ | refine L_lss rfl rfl rfl (dfalse (by omega)) ?_ | refine L_lss rfl rfl rfl rfl ?_
            refine RL_then ?_
            refine W_if_false rfl ?_
            refine W_exit' ?_
            refine Ex_then_exit ?_
            refine Ex_loop_exit ?_
            refine Ex_block_hit ?_
            refine Nx_then ?_
            refine W_seq ?_
            refine W_region ?_
            refine L_loadA (cs := fl [f0, f1, f2]) rfl Try.agg26 Try.ti26 rfl (cellsAt_whole (hs.get (i := 1) rfl)) ?_
            skip
            refine L_build (cells := (fl [4607182418800017408, 0, 0]).toArray) rfl rfl (by kernel_rfl) ?_
            refine L_call rfl Try.fun6 rfl (newring_ok [f0, f1, f2] [4607182418800017408, 0, 0] w rfl rfl (fin3 (rep_fin1 hc0) (rep_fin1 hc1) (rep_fin1 hc2)) (fin3 fin1 fin0 fin0) (by decide +kernel)) ?_
            rintro _ w2 ⟨R, bs, ds, rfl, hs', hR, hbl, hdl, hbs, hds⟩
            obtain rfl : ds = [4607182418800017408, 0, 0] := by
              rw [three' hdl, fs_val (hds 0 (by decide)) (z := 4607182418800017408) (by decide +kernel), fs_val (hds 1 (by decide)) (z := 0) (by decide +kernel), fs_val (hds 2 (by decide)) (z := 0) (by decide +kernel)]
            have hbr : ∀ q, q < 3 → Rep (bs.getD q 0) (([x0, x1, x2].getD q 0).tmod 1048576) := fun q hq => fs_rep (rep_div1 (hc q hq)) (hbs q hq)
            clear hbs hds
            have hsz := hs.size
            replace hs := hs.call hs' (Own.cons hR Own.nil)
            have hR0 := Nat.le_trans hsz hR
            clear hs' hsz
            replace hs : HS w0 w2 (([(b5, Row 26 (fl [f0, f1, f2])), (R, Row 50 (fl (bs ++ [4607182418800017408, 0, 0]) ++ [cv (0, 0), cv (0, 0)]))] ++ M7) ++ [(b2, Row 22 (il [x0, x1, x2]))]) := hs.mem_perm (perm_by fun c => by simp only [List.map_append, List.map_cons, List.map_nil, List.sum_append, List.sum_cons, List.sum_nil] <;> omega)
            replace hs := hs.dropR (Own.cons hb2 Own.nil)
            refine L_move rfl rfl ?_
            refine L_extract rfl rfl rfl ?_
            refine L_extract rfl rfl rfl ?_
            refine L_assign rfl rfl ?_
            refine L_assign rfl rfl ?_
            refine RL_then ?_
            refine W_seq ?_
            refine W_region ?_
            refine L_idxA1 rfl Try.underlying26 Try.ti25 rfl rfl (by with_reducible first | exact natc_k _ | exact natc_a1 _ | exact natc_0 | exact natc_1 | exact natc_2 | exact natc_s1 _ (by omega) | exact natc_a2 _ | exact natc_add _ _ | exact natc_mul _ _ | exact natc (by omega)) (by omega) ?_
            refine L_load rfl Try.one25 rfl (by exact hs.cellA (i := 0) rfl rfl) ?_
            refine L_complex rfl rfl rfl ?_
            refine L_idxA1 rfl Try.underlying26 Try.ti25 rfl rfl (by with_reducible first | exact natc_k _ | exact natc_a1 _ | exact natc_0 | exact natc_1 | exact natc_2 | exact natc_s1 _ (by omega) | exact natc_a2 _ | exact natc_add _ _ | exact natc_mul _ _ | exact natc (by omega)) (by omega) ?_
            refine L_load rfl Try.one25 rfl (by exact hs.cellA (i := 0) rfl rfl) ?_
            refine L_complex rfl rfl rfl ?_
            refine L_idxA1 rfl Try.underlying26 Try.ti25 rfl rfl (by with_reducible first | exact natc_k _ | exact natc_a1 _ | exact natc_0 | exact natc_1 | exact natc_2 | exact natc_s1 _ (by omega) | exact natc_a2 _ | exact natc_add _ _ | exact natc_mul _ _ | exact natc (by omega)) (by omega) ?_
            refine L_load rfl Try.one25 rfl (by exact hs.cellA (i := 0) rfl rfl) ?_
            refine L_complex rfl rfl rfl ?_
            refine L_buildSlice1 rfl hs Try.underlying27 Try.ti28 rfl (by decide) rfl rfl ?_
            intro b71 w hb71 hnb71 hs
            simp only [List.map_cons, List.map_nil] at hs
            try dsimp only [List.set_cons_succ, List.set_cons_zero, List.cons_append, List.nil_append] at hs
            replace hs : HS w0 w ([(b5, Row 26 (fl [f0, f1, f2])), (R, Row 50 (fl (bs ++ [4607182418800017408, 0, 0]) ++ [cv (0, 0), cv (0, 0)]))] ++ (M7 ++ [(b71, Row 28 (cl [(f0, 0), (f1, 0), (f2, 0)]))])) := hs
            replace hs : HS w0 w (([(b71, Row 28 (cl [(f0, 0), (f1, 0), (f2, 0)])), (R, Row 50 (fl (bs ++ [4607182418800017408, 0, 0]) ++ [cv (0, 0), cv (0, 0)]))] ++ M7) ++ [(b5, Row 26 (fl [f0, f1, f2]))]) := hs.mem_perm (perm_by fun c => by simp only [List.map_append, List.map_cons, List.map_nil, List.sum_append, List.sum_cons, List.sum_nil] <;> omega)
            replace hs := hs.dropR (Own.cons hb5 Own.nil)
            refine L_call rfl Try.fun7 rfl (newline_ok (some ⟨b71, 0, none⟩) 3 3 [(f0, 0), (f1, 0), (f2, 0)] w (SlC.of_row (sp := []) (hs.get (i := 0) rfl)) rfl (by decide) (by decide)) ?_
            rintro _ w3 ⟨B, g, cg, sp, rfl, hs', hB, hg, hcg⟩
            have hsz := hs.size
            replace hs := hs.call hs' (Own.cons hB (Own.cons hg Own.nil))
            have hB0 := Nat.le_trans hsz hB
            have hg0 := Nat.le_trans hsz hg
            clear hs' hsz
            replace hs : HS w0 w3 (([(R, Row 50 (fl (bs ++ [4607182418800017408, 0, 0]) ++ [cv (0, 0), cv (0, 0)])), (B, Row 52 [.slice (some ⟨g, 0, none⟩) 3 cg, .slice none 0 0]), (g, Row 28 (cl [(f0, 0), (f1, 0), (f2, 0)] ++ sp))] ++ M7) ++ [(b71, Row 28 (cl [(f0, 0), (f1, 0), (f2, 0)]))]) := hs.mem_perm (perm_by fun c => by simp only [List.map_append, List.map_cons, List.map_nil, List.sum_append, List.sum_cons, List.sum_nil] <;> omega)
            replace hs := hs.dropR (Own.cons hb71 Own.nil)
            have hnd := hs.nodup
            simp only [List.map_append, List.map_cons, List.map_nil, List.cons_append, List.nil_append, List.nodup_cons, List.mem_cons, not_or] at hnd
            have hXs : Small (fun q => ([x0, x1, x2].getD q 0).tmod 1048576) (fun q => (ps.getD q (0, 0)).1.tmod 1048576) k := ⟨fun q _ => tmod_le _, fun q _ => tmod_le _⟩
            have hYs : Small (fun q => ([x0, x1, x2].getD q 0).tmod 1048576) (fun q => (ps.getD q (0, 0)).2.tmod 1048576) k := ⟨fun q _ => tmod_le _, fun q _ => tmod_le _⟩
            refine L_move rfl rfl ?_
            refine L_extract rfl rfl rfl ?_
            refine L_extract rfl rfl rfl ?_
            refine L_assign rfl rfl ?_
            refine L_assign rfl rfl ?_
            refine RL_then ?_
            refine W_seq ?_
            refine W_seq ?_
            refine W_region ?_
            refine L_move rfl rfl ?_
            first | refine L_neq rfl rfl rfl (dtrue (by omega)) ?_ | refine L_neq rfl rfl rfl (dfalse (by omega)) ?_ | refine L_neq rfl rfl rfl rfl ?_
            refine L_move rfl rfl ?_
            first | (refine RL_want rfl rfl ?_; refine L_move rfl rfl ?_) | refine RL_skip rfl rfl rfl rfl ?_ | refine RL_skipU rfl rfl rfl ?_
            first | (refine RL_want rfl rfl ?_; (first | refine L_neq rfl rfl rfl (dtrue (by omega)) ?_ | refine L_neq rfl rfl rfl (dfalse (by omega)) ?_ | refine L_neq rfl rfl rfl rfl ?_)) | refine RL_skip rfl rfl rfl rfl ?_ | refine RL_skipU rfl rfl rfl ?_
            first | refine L_pick_t rfl rfl rfl ?_ | refine L_pick_f rfl rfl rfl ?_
            refine L_move rfl rfl ?_
            first | (refine RL_want rfl rfl ?_; refine L_move rfl rfl ?_) | refine RL_skip rfl rfl rfl rfl ?_ | refine RL_skipU rfl rfl rfl ?_
            first | (refine RL_want rfl rfl ?_; refine L_ptrNil rfl Try.underlying30 rfl rfl ?_) | refine RL_skip rfl rfl rfl rfl ?_ | refine RL_skipU rfl rfl rfl ?_
            first | refine L_pick_t rfl rfl rfl ?_ | refine L_pick_f rfl rfl rfl ?_
            refine L_move rfl rfl ?_
            first | (refine RL_want rfl rfl ?_; refine L_move rfl rfl ?_) | refine RL_skip rfl rfl rfl rfl ?_ | refine RL_skipU rfl rfl rfl ?_
            first | (refine RL_want rfl rfl ?_; refine L_ptrNil rfl Try.underlying34 rfl rfl ?_) | refine RL_skip rfl rfl rfl rfl ?_ | refine RL_skipU rfl rfl rfl ?_
            first | refine L_pick_t rfl rfl rfl ?_ | refine L_pick_f rfl rfl rfl ?_
            refine RL_then ?_
            refine W_if_false rfl ?_
            refine W_skip' ?_
            refine Nx_then ?_
            refine W_seq ?_
            refine W_region ?_
            refine L_move rfl rfl ?_
            refine L_move rfl rfl ?_
            refine L_call rfl Try.fun8 rfl (ring_feed R bs [4607182418800017408, 0, 0] hbl rfl a7 k c7 zs (0, 0) (0, 0) w3 (hs.get (i := 0) rfl) (hb7.slc (L := [(R, Row 50 (fl (bs ++ [4607182418800017408, 0, 0]) ++ [cv (0, 0), cv (0, 0)])), (B, Row 52 [.slice (some ⟨g, 0, none⟩) 3 cg, .slice none 0 0]), (g, Row 28 (cl [(f0, 0), (f1, 0), (f2, 0)] ++ sp))]) hs) hzl (hgb hnd.1.2.2) (by omega)) ?_
            rintro _ w4 ⟨gr, ro, S, rfl, hs', hgr, hrol, hS0, hRS⟩
            have hrr := (ring_rep hXs hYs hbr (show Rep ([4607182418800017408, 0, 0].getD 1 0) 0 from rep_nought) (show Rep ([4607182418800017408, 0, 0].getD 2 0) 0 from rep_nought) hz hS0 hRS k (Nat.le_refl _)).2
            have hsz := hs.size
            replace hs := hs.callU (A := [(R, Row 50 (fl (bs ++ [4607182418800017408, 0, 0]) ++ [cv (0, 0), cv (0, 0)]))]) (U := [(R, Row 50 (fl (bs ++ [4607182418800017408, 0, 0]) ++ [cv (S k).1, cv (S k).2]))]) (L2 := [(B, Row 52 [.slice (some ⟨g, 0, none⟩) 3 cg, .slice none 0 0]), (g, Row 28 (cl [(f0, 0), (f1, 0), (f2, 0)] ++ sp))] ++ M7) (N := [(gr, Row 28 (cl ro))]) rfl hs' (Own.cons hgr Own.nil)
            have hgr0 := Nat.le_trans hsz hgr
            clear hs' hsz hS0 hRS
            replace hs : HS w0 w4 (([(B, Row 52 [.slice (some ⟨g, 0, none⟩) 3 cg, .slice none 0 0]), (g, Row 28 (cl [(f0, 0), (f1, 0), (f2, 0)] ++ sp)), (gr, Row 28 (cl ro))] ++ M7) ++ [(R, Row 50 (fl (bs ++ [4607182418800017408, 0, 0]) ++ [cv (S k).1, cv (S k).2]))]) := hs.mem_perm (perm_by fun c => by simp only [List.map_append, List.map_cons, List.map_nil, List.sum_append, List.sum_cons, List.sum_nil] <;> omega)
            replace hs := hs.dropR (Own.cons hR0 Own.nil)
            refine L_assign rfl rfl ?_
            refine RL_then ?_
            refine W_seq ?_
            refine W_region ?_
            refine L_move rfl rfl ?_
            refine L_move rfl rfl ?_
            refine L_call rfl Try.fun9 rfl (line_feed B g 3 cg [(f0, 0), (f1, 0), (f2, 0)] sp a7 k c7 zs w4 (hs.get (i := 0) rfl) (hs.get (i := 1) rfl) (fun h => hnd.2.1.1 h.symm) rfl (by decide) (by decide) (hb7.slc (L := [(B, Row 52 [.slice (some ⟨g, 0, none⟩) 3 cg, .slice none 0 0]), (g, Row 28 (cl [(f0, 0), (f1, 0), (f2, 0)] ++ sp)), (gr, Row 28 (cl ro))]) hs) hzl (hgb hnd.2.1.2) (by omega)) ?_
            rintro _ w5 ⟨go, lo, v', N, rfl, hs', hgo, hN, hlol, hL⟩
            have hsz := hs.size
            replace hs := hs.callU (A := [(B, Row 52 [.slice (some ⟨g, 0, none⟩) 3 cg, .slice none 0 0])]) (U := [(B, Row 52 [.slice (some ⟨g, 0, none⟩) 3 cg, v'])]) (L2 := [(g, Row 28 (cl [(f0, 0), (f1, 0), (f2, 0)] ++ sp)), (gr, Row 28 (cl ro))] ++ M7) (N := (go, Row 28 (cl lo)) :: N) rfl hs' (Own.cons hgo hN)
            have hgo0 := Nat.le_trans hsz hgo
            have hN0 := hN.le hsz
            clear hs' hsz
            replace hs : HS w0 w5 ([(gr, Row 28 (cl ro)), (go, Row 28 (cl lo))] ++ (([(B, Row 52 [.slice (some ⟨g, 0, none⟩) 3 cg, v']), (g, Row 28 (cl [(f0, 0), (f1, 0), (f2, 0)] ++ sp))] ++ M7) ++ N)) := hs.mem_perm (perm_by fun c => by simp only [List.map_append, List.map_cons, List.map_nil, List.sum_append, List.sum_cons, List.sum_nil] <;> omega)
            replace hs := hs.dropR (((Own.cons hB0 (Own.cons hg0 Own.nil)).app hO7).app hN0)
            have hsame : ∀ q, q < k → FloatKind.f64.format.order (ro.getD q (0, 0)).1 (lo.getD q (0, 0)).1 = some .eq ∧ FloatKind.f64.format.order (ro.getD q (0, 0)).2 (lo.getD q (0, 0)).2 = some .eq := fun q hq => by
              obtain ⟨l1, l2⟩ := line_rep hXs hYs hq (taps := [(f0, 0), (f1, 0), (f2, 0)]) rfl (fun p hp => by
                match p, hp with
                | 0, _ => exact ⟨hc0, rep_nought⟩
                | 1, _ => exact ⟨hc1, rep_nought⟩
                | 2, _ => exact ⟨hc2, rep_nought⟩) hz (hL q hq)
              obtain ⟨r1, r2⟩ := hrr q hq
              exact ⟨rep_eq r1 l1, rep_eq r2 l2⟩
            clear hL hrr
            refine L_assign rfl rfl ?_
            refine RL_then ?_
            refine W_seq ?_
            refine W_seq ?_
            refine W_region ?_
            refine L_move rfl rfl ?_
            refine L_len rfl Try.underlying27 rfl ?_
            refine L_move rfl rfl ?_
            refine L_len rfl Try.underlying27 rfl ?_
            first | refine L_neq rfl rfl rfl (dtrue (by omega)) ?_ | refine L_neq rfl rfl rfl (dfalse (by omega)) ?_ | refine L_neq rfl rfl rfl rfl ?_
            refine L_move rfl rfl ?_
            first | (refine RL_want rfl rfl ?_; refine L_move rfl rfl ?_) | refine RL_skip rfl rfl rfl rfl ?_ | refine RL_skipU rfl rfl rfl ?_
            first | (refine RL_want rfl rfl ?_; refine L_len rfl Try.underlying27 rfl ?_) | refine RL_skip rfl rfl rfl rfl ?_ | refine RL_skipU rfl rfl rfl ?_
            first | (refine RL_want rfl rfl ?_; refine L_move rfl rfl ?_) | refine RL_skip rfl rfl rfl rfl ?_ | refine RL_skipU rfl rfl rfl ?_
            first | (refine RL_want rfl rfl ?_; refine L_len rfl Try.underlying27 rfl ?_) | refine RL_skip rfl rfl rfl rfl ?_ | refine RL_skipU rfl rfl rfl ?_
            first | (refine RL_want rfl rfl ?_; (first | refine L_neq rfl rfl rfl (dtrue (by omega)) ?_ | refine L_neq rfl rfl rfl (dfalse (by omega)) ?_ | refine L_neq rfl rfl rfl rfl ?_)) | refine RL_skip rfl rfl rfl rfl ?_ | refine RL_skipU rfl rfl rfl ?_
            first | refine L_pick_t rfl rfl rfl ?_ | refine L_pick_f rfl rfl rfl ?_
            refine RL_then ?_
            refine W_if_false rfl ?_
            refine W_skip' ?_
            refine Nx_then ?_
            refine W_seq ?_
            refine W_seq ?_
            refine W_region ?_
            refine L_assign rfl rfl ?_
            refine RL_then ?_
            refine W_block ?_
            refine W_loop2 (fun (i : Nat) (w : World) => [(7, .slice a7 k c7), (13, .slice (some ⟨gr, 0, none⟩) k k), (14, .slice (some ⟨go, 0, none⟩) k k), (15, .int .i64 i)]) (fun (i : Nat) (w : World) => w) (fun (i : Nat) (w : World) => (i ≤ k) ∧ (HS w0 w [(gr, Row 28 (cl ro)), (go, Row 28 (cl lo))])) (fun (i : Nat) (w : World) => k - i) (0) (w5) (is := [7, 13, 14, 15]) rfl rfl ?_ ?_
            · exact ⟨Nat.zero_le _, hs⟩
            · clear hs
              intro i w hI
              show W _ _ _ _ [(7, .slice a7 k c7), (13, .slice (some ⟨gr, 0, none⟩) k k), (14, .slice (some ⟨go, 0, none⟩) k k), (15, .int .i64 i)] w
              obtain ⟨hi, hs⟩ := hI
              by_cases hlt : i < k
              · obtain ⟨s1, s2⟩ := hsame i hlt
                refine W_seq ?_
                refine W_seq ?_
                refine W_region ?_
                refine L_move rfl rfl ?_
                refine L_move rfl rfl ?_
                refine L_len rfl Try.underlying27 rfl ?_
                first | refine L_lss rfl rfl rfl (dtrue (by omega)) ?_ | refine L_lss rfl rfl rfl (dfalse (by omega)) ?_ | refine L_lss rfl rfl rfl rfl ?_
                refine RL_then ?_
                refine W_if_true rfl ?_
                refine W_skip' ?_
                refine Nx_then ?_
                refine W_seq ?_
                refine W_block ?_
                refine W_seq ?_
                refine W_pht [0, 1, 2, 4, 5, 6] [3, 7, 8] [] (fun _ _ _ => False) Try.mixed (by kernel_rfl) (fun _ _ _ _ _ h => h) hs ?_
                refine PL_val rfl (fun w => R_move rfl) ?_
                refine PL_val rfl (fun w => R_move rfl) ?_
                refine PL_val rfl (fun w => R_idx1 Try.underlying27 Try.ti28 rfl rfl (by with_reducible first | exact natc_k _ | exact natc_a1 _ | exact natc_0 | exact natc_1 | exact natc_2 | exact natc_s1 _ (by omega) | exact natc_a2 _ | exact natc_add _ _ | exact natc_mul _ _ | exact natc (by omega)) (by omega) rfl) ?_
                refine PL_val rfl (fun w => R_move rfl) ?_
                refine PL_val rfl (fun w => R_move rfl) ?_
                refine PL_val rfl (fun w => R_idx1 Try.underlying27 Try.ti28 rfl rfl (by with_reducible first | exact natc_k _ | exact natc_a1 _ | exact natc_0 | exact natc_1 | exact natc_2 | exact natc_s1 _ (by omega) | exact natc_a2 _ | exact natc_add _ _ | exact natc_mul _ _ | exact natc (by omega)) (by omega) rfl) ?_
                refine PL_end ?_
                refine HL_val rfl (fun w hs => R_load Try.one28 rfl (by exact hs.cellA (i := 0) rfl (cl_get (by omega)))) ?_
                refine HL_val rfl (fun w hs => R_load Try.one28 rfl (by exact hs.cellA (i := 1) rfl (cl_get (by omega)))) ?_
                refine HL_val rfl (fun w hs => R_cneqF rfl rfl s1 s2) ?_
                refine HL_tail ?_
                intro w hs
                refine RL_then ?_
                refine W_if_false rfl ?_
                refine W_skip' ?_
                refine Nx_block ?_
                refine Nx_then ?_
                refine W_region ?_
                refine L_move rfl rfl ?_
                first | refine L_add rfl rfl rfl (wrp_i64 (by omega)) ?_ | refine L_add rfl rfl rfl rfl ?_
                refine L_assign rfl rfl ?_
                refine RL_nil' ?_
                refine Nx_loopP (i + 1, w) (is := [7, 13, 14, 15]) (I' := (fun (i : Nat) (w : World) => (i ≤ k) ∧ (HS w0 w [(gr, Row 28 (cl ro)), (go, Row 28 (cl lo))])) (i + 1) (w)) rfl rfl rfl ?_ ?_
                · exact ⟨by omega, hs⟩
                · omega
              · refine W_seq ?_
                refine W_seq ?_
                refine W_region ?_
                refine L_move rfl rfl ?_
                refine L_move rfl rfl ?_
                refine L_len rfl Try.underlying27 rfl ?_
                first | refine L_lss rfl rfl rfl (dtrue (by omega)) ?_ | refine L_lss rfl rfl rfl (dfalse (by omega)) ?_ | refine L_lss rfl rfl rfl rfl ?_
                refine RL_then ?_
                refine W_if_false rfl ?_
                refine W_exit' ?_
                refine Ex_then_exit ?_
                refine Ex_loop_exit ?_
                refine Ex_block_hit ?_
                refine Nx_then ?_
                refine W_seq ?_
                refine W_region ?_
                refine L_call rfl Try.fun5 rfl (wakes_ok w) ?_
                rintro _ w6 ⟨rfl, hs'⟩
                replace hs := hs.nil hs'
                refine L_assign rfl rfl ?_
                refine RL_then ?_
                refine W_ret' ?_
                refine Ex_done1 rfl rfl ?_
                exact ⟨_, rfl, rfl, hs.forget (Own.cons hgr0 (Own.cons hgo0 Own.nil))⟩
end Go.Proofs.Ytihhloeakenfgaa
