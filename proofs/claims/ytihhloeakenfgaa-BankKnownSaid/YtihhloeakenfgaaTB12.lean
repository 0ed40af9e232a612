/-
  A part of the proof: what functions that the statement reaches do, or a plain law on what they do. Each theorem holds under its own premises alone.
-/
import Derived.Test.YtihhloeakenfgaaTB11
namespace Go.Proofs.Ytihhloeakenfgaa
open Go Go.Lk
def SP2 (f : FuncId) (args : Array Value) (v : Value) : Prop := match f, args.toList with
  | 26, [.int .i64 k, .int .i64 n] => ∃ re im, v = .complex .f64 re im ∧ UnitR k n re im
  | 18, [.complex .f64 a b, .complex .f64 c d] => ∃ re im, v = .complex .f64 re im ∧ cn re = fop .sub (fop .mul a c) (fop .mul b d) ∧ cn im = fop .add (fop .mul a d) (fop .mul b c)
  | _, _ => False
theorem unitH {w0 w : World} {L : List (Nat × Obj)} (hs : HS w0 w L) (k n : Int) (h1 : 1 ≤ n) (h2 : n ≤ 1099511627776) (h3 : -1099511627776 ≤ k ∧ k ≤ 1099511627776) : Ret Try.prog 26 [.int .i64 k, .int .i64 n] w fun v w' => SP2 26 [.int .i64 k, .int .i64 n].toArray v ∧ HS w0 w' L :=
  Calls.mono (unit_ok k n h1 h2 h3 w) fun e w' => by
    rintro ⟨v, rfl, re, im, rfl, hs', hU⟩
    exact ⟨_, rfl, ⟨re, im, rfl, hU⟩, hs.nil hs'⟩
theorem mulH2 {w0 w : World} {L : List (Nat × Obj)} (hs : HS w0 w L) (a b c d : Nat) : Ret Try.prog 18 [.complex .f64 a b, .complex .f64 c d] w fun v w' => SP2 18 [.complex .f64 a b, .complex .f64 c d].toArray v ∧ HS w0 w' L := mulH hs a b c d
theorem answer_wake (a : Option Addr) (w0 : World) (hz : SlC w0 a (cl [(4607182418800017408, 0), (4607182418800017408, 0)])) :
    Ret Try.prog 15 [.slice a 2 2, .int .i64 0, .int .i64 2] w0 fun v w' => v = .complex .f64 4611686018427387904 0 ∧ HS w0 w' [] := by
  refine Ret.start fun w hs => ?_
  have hao := hz.ao (by decide)
  refine calls_of_W Try.func15 rfl rfl rfl ?_
  refine W_seq ?_
  refine W_region ?_
  refine L_assign rfl rfl ?_
  refine RL_then ?_
  refine W_seq ?_
  refine W_seq ?_
  refine W_region ?_
  refine L_move rfl rfl ?_
  first | refine L_lss rfl rfl rfl (dtrue (by omega)) ?_ | refine L_lss rfl rfl rfl (dfalse (by omega)) ?_ | refine L_lss rfl rfl rfl rfl ?_
  refine RL_then ?_
  refine W_if_false rfl ?_
  refine W_skip' ?_
  refine Nx_then ?_
  refine W_seq ?_
  refine W_region ?_
  refine L_move rfl rfl ?_
  refine L_move rfl rfl ?_
  refine L_len rfl Try.underlying27 rfl ?_
  refine RL_val rfl (R_minI rfl rfl (c := 2) (by decide)) ?_
  refine RL_val rfl (R_slice010 (h := 2) Try.underlying27 Try.ti28 rfl rfl rfl (by decide)) ?_
  refine L_assign rfl rfl ?_
  refine RL_then ?_
  refine W_seq ?_
  refine W_region ?_
  refine L_move rfl rfl ?_
  refine L_len rfl Try.underlying27 rfl ?_
  refine L_make1 (l := 2) (c := 2) rfl hs Try.underlying27 Try.ti28 rfl rfl rfl rfl (Nat.le_refl _) (by decide) (by decide) rfl ?_
  intro g w hg hng hs
  replace hs : HS w0 w [(g, Row 28 (cl [(0, 0), (0, 0)]))] := hs
  refine L_assign rfl rfl ?_
  refine RL_then ?_
  refine W_seq ?_
  refine W_seq ?_
  refine W_region ?_
  refine L_move rfl rfl ?_
  refine L_move rfl rfl ?_
  refine L_rem rfl rfl rfl (by omega) ?_
  refine L_assign rfl rfl ?_
  refine RL_then ?_
  refine W_seq ?_
  refine W_region ?_
  refine L_move rfl rfl ?_
  first | refine L_lss rfl rfl rfl (dtrue (by omega)) ?_ | refine L_lss rfl rfl rfl (dfalse (by omega)) ?_ | refine L_lss rfl rfl rfl rfl ?_
  refine RL_then ?_
  refine W_if_false rfl ?_
  refine W_skip' ?_
  refine Nx_then ?_
  refine W_seq ?_
  refine W_region ?_
  refine L_assign rfl rfl ?_
  refine RL_then ?_
  refine W_seq ?_
  refine W_seq ?_
  refine W_region ?_
  refine L_move rfl rfl ?_
  refine L_len rfl Try.underlying27 rfl ?_
  refine L_move rfl rfl ?_
  refine RL_then ?_
  refine W_block ?_
  refine W_loop3 (fun (j : Nat) (ts : List (Nat × Nat)) (w : World) => [(0, .slice a 2 2), (1, .int .i64 0), (2, .int .i64 2), (7, .slice (some ⟨g, 0, none⟩) 2 2), (8, .int .i64 0), (29, .int .i64 (2 : Nat)), (30, .int .i64 j)]) (fun (j : Nat) (ts : List (Nat × Nat)) (w : World) => w) (fun (j : Nat) (ts : List (Nat × Nat)) (w : World) => (j ≤ 2) ∧ (ts.length = 2) ∧ (∀ q, q < j → ts.getD q (0, 0) = (4607182418800017408, 0)) ∧ (HS w0 w [(g, Row 28 (cl ts))])) (fun (j : Nat) (ts : List (Nat × Nat)) (w : World) => 2 - j) (0) ([(0, 0), (0, 0)]) (w) (is := [0, 1, 2, 7, 8, 29, 30]) rfl rfl ?_ ?_
  · exact ⟨by decide, rfl, fun _ h => absurd h (Nat.not_lt_zero _), hs⟩
  · clear hs
    intro j ts w hI
    show W _ _ _ _ [(0, .slice a 2 2), (1, .int .i64 0), (2, .int .i64 2), (7, .slice (some ⟨g, 0, none⟩) 2 2), (8, .int .i64 0), (29, .int .i64 (2 : Nat)), (30, .int .i64 j)] w
    obtain ⟨hj, htl, hts, hs⟩ := hI
    by_cases hlt : j < 2
    · have htap : ([(4607182418800017408, 0), (4607182418800017408, 0)] : List (Nat × Nat)).getD j (0, 0) = (4607182418800017408, 0) := by
        match j, hlt with
        | 0, _ => rfl
        | 1, _ => rfl
      have hcell : ∀ {w : World}, HS w0 w [(g, Row 28 (cl ts))] → w.cell? ((aD a).add j) = some (.complex .f64 4607182418800017408 0) := fun hs => by
        have := (hz.old hs (Own.cons hg Own.nil)).get (cl_get (show j < _ from hlt))
        rw [htap] at this
        exact this
      refine W_seq ?_
      refine W_region ?_
      first | refine L_lss rfl rfl rfl (dtrue (by omega)) ?_ | refine L_lss rfl rfl rfl (dfalse (by omega)) ?_ | refine L_lss rfl rfl rfl rfl ?_
      refine RL_then ?_
      refine W_seq ?_
      refine W_if_true rfl ?_
      refine W_skip' ?_
      refine Nx_then ?_
      refine W_seq ?_
      refine W_block ?_
      refine W_seq ?_
      refine W_region ?_
      refine L_move rfl rfl ?_
      refine L_assign rfl rfl ?_
      refine RL_then ?_
      refine W_seq ?_
      refine W_pht [0, 1, 2, 3, 4, 6, 7, 8] [5, 9, 10] [11, 12] SP2 Try.mixed (by kernel_rfl) (fun _ _ _ _ _ h => h) hs ?_
      refine PL_val rfl (fun w => R_move rfl) ?_
      refine PL_val rfl (fun w => R_move rfl) ?_
      refine PL_val rfl (fun w => R_move rfl) ?_
      refine PL_val rfl (fun w => R_move rfl) ?_
      refine PL_val rfl (fun w => R_idx1 Try.underlying27 Try.ti28 rfl rfl (by with_reducible first | exact natc_k _ | exact natc_a1 _ | exact natc_0 | exact natc_1 | exact natc_2 | exact natc_s1 _ (by omega) | exact natc_a2 _ | exact natc_add _ _ | exact natc_mul _ _ | exact natc (by omega)) (by omega) hao) ?_
      refine PL_val rfl (fun w => R_move rfl) ?_
      first | refine PL_val rfl (fun w => R_neg rfl (wrp_i64 (by omega))) ?_ | refine PL_val rfl (fun w => R_neg rfl rfl) ?_
      refine PL_val rfl (fun w => R_move rfl) ?_
      refine PL_end ?_
      refine HL_val rfl (fun w hs => R_load Try.one28 rfl (by exact hcell hs)) ?_
      refine HL_call rfl Try.fun26 rfl (fun w hs => unitH hs _ _ (by decide) (by decide) (by decide)) ?_
      rintro _ ⟨ur, ui, rfl, hU⟩
      obtain ⟨rfl, rfl⟩ := hU.1 rfl (by decide)
      refine HL_call rfl Try.fun18 rfl (fun w hs => mulH2 hs _ _ _ _) ?_
      rintro _ ⟨re, im, rfl, hre, him⟩
      refine HL_tail ?_
      intro w hs
      refine L_idx1 rfl Try.underlying27 Try.ti28 rfl rfl (by with_reducible first | exact natc_k _ | exact natc_a1 _ | exact natc_0 | exact natc_1 | exact natc_2 | exact natc_s1 _ (by omega) | exact natc_a2 _ | exact natc_add _ _ | exact natc_mul _ _ | exact natc (by omega)) (by omega) rfl ?_
      refine L_store hs (i := 0) rfl Try.ti28 rfl rfl (by first | rfl | exact add_lit0 _ _ | exact Addr.add_lit ..) (by simp; omega) rfl ?_
      intro w hs
      try dsimp only [List.set_cons_succ, List.set_cons_zero, List.cons_append, List.nil_append] at hs
      refine RL_then ?_
      refine W_seq ?_
      refine W_region ?_
      rw [cl_set1] at hs
      obtain rfl : re = 4607182418800017408 := cn_same (hre.trans (by decide +kernel)) (by decide +kernel)
      obtain rfl : im = 0 := cn_same (him.trans (by decide +kernel)) (by decide +kernel)
      refine L_move rfl rfl ?_
      refine L_move rfl rfl ?_
      refine L_move rfl rfl ?_
      first | refine L_sub rfl rfl rfl (wrp_i64 (by omega)) ?_ | refine L_sub rfl rfl rfl rfl ?_
      first | refine L_sub rfl rfl rfl (wrp_i64 (by omega)) ?_ | refine L_sub rfl rfl rfl rfl ?_
      refine L_assign rfl rfl ?_
      refine RL_then ?_
      refine W_seq ?_
      refine W_region ?_
      refine L_move rfl rfl ?_
      first | refine L_lss rfl rfl rfl (dtrue (by omega)) ?_ | refine L_lss rfl rfl rfl (dfalse (by omega)) ?_ | refine L_lss rfl rfl rfl rfl ?_
      refine RL_then ?_
      refine W_if_true rfl ?_
      refine W_region ?_
      refine L_move rfl rfl ?_
      refine L_move rfl rfl ?_
      first | refine L_add rfl rfl rfl (wrp_i64 (by omega)) ?_ | refine L_add rfl rfl rfl rfl ?_
      refine L_assign rfl rfl ?_
      refine RL_nil' ?_
      refine Nx_block ?_
      refine Nx_then ?_
      refine W_region ?_
      first | refine L_add rfl rfl rfl (wrp_i64 (by omega)) ?_ | refine L_add rfl rfl rfl rfl ?_
      refine L_move rfl rfl ?_
      refine RL_nil' ?_
      refine Nx_loopP (j + 1, ts.set j (4607182418800017408, 0), _) (is := [0, 1, 2, 7, 8, 29, 30]) (I' := (fun (j : Nat) (ts : List (Nat × Nat)) (w : World) => (j ≤ 2) ∧ (ts.length = 2) ∧ (∀ q, q < j → ts.getD q (0, 0) = (4607182418800017408, 0)) ∧ (HS w0 w [(g, Row 28 (cl ts))])) (j + 1) (ts.set j (4607182418800017408, 0)) (_)) rfl rfl rfl ?_ ?_
      · refine ⟨by omega, by simp [htl], fun q hq => ?_, hs⟩
        rw [czset (by omega)]
        by_cases hqj : q = j
        · rw [if_pos hqj]
        · rw [if_neg hqj]; exact hts q (by omega)
      · omega
    · obtain rfl : j = 2 := by omega
      have e : ts = [(4607182418800017408, 0), (4607182418800017408, 0)] := by
        match ts, htl, hts with
        | [x, y], _, hts =>
          have h0 := hts 0 (by decide)
          have h1 := hts 1 (by decide)
          simp [List.getD] at h0 h1
          rw [h0, h1]
      subst e
      refine W_seq ?_
      refine W_region ?_
      first | refine L_lss rfl rfl rfl (dtrue (by omega)) ?_ | refine L_lss rfl rfl rfl (dfalse (by omega)) ?_ | refine L_lss rfl rfl rfl rfl ?_
      refine RL_then ?_
      refine W_seq ?_
      refine W_if_false rfl ?_
      refine W_exit' ?_
      refine Ex_then_exit ?_
      refine Ex_loop_exit ?_
      refine Ex_block_hit ?_
      refine Nx_then ?_
      refine W_seq ?_
      refine W_region ?_
      refine L_move rfl rfl ?_
      refine L_call rfl Try.fun19 rfl (sum_ok (some ⟨g, 0, none⟩) 2 2 [(4607182418800017408, 0), (4607182418800017408, 0)] w (SlC.of_row (sp := []) (hs.get (i := 0) rfl)) rfl (by decide) (by decide) (by decide)) ?_
      rintro _ w1 ⟨re, im, rfl, hs', hre, him⟩
      obtain rfl : re = 4611686018427387904 := cn_same (hre.trans (by decide +kernel)) (by decide +kernel)
      obtain rfl : im = 0 := cn_same (him.trans (by decide +kernel)) (by decide +kernel)
      replace hs := hs.nil hs'
      refine L_assign rfl rfl ?_
      refine RL_then ?_
      refine W_ret' ?_
      refine Ex_done1 rfl rfl ?_
      exact ⟨_, rfl, rfl, hs.forget (Own.cons hg Own.nil)⟩
end Go.Proofs.Ytihhloeakenfgaa
