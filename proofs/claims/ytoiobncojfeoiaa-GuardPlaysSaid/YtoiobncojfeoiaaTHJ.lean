/-
 A part of the proof: what functions that the statement reaches do, or a plain law on what they do. Each theorem holds under its own premises alone.
-/
import Derived.Test.YtoiobncojfeoiaaTHI
namespace Go.Proofs.Ytoiobncojfeoiaa
open Go Go.Lk
/-! ### GuardPlays -/
set_option maxHeartbeats 4000000 in
theorem plays_law (fa fb : Nat) (hfa : fa < 18446744073709551616) (hfb : fb < 18446744073709551616) (a : Option Addr) (k c : Nat) (os : List OPr) (w0 : World) (hk : os.length = k) (hx : SlC w0 a (ocs os)) (hl : k ≤ 1000000000000000) (hO : ∀ i, i < k → OpOk w0 (os.getD i op0)) :
  Ret Try.prog 6 [.float .f64 fa, .float .f64 fb, .slice a k c] w0 fun r w' => r = .bool true ∧ HS w0 w' [] := by
 refine Ret.start fun w hs => ?_
 refine calls_of_W Try.func6 rfl rfl rfl ?_
 refine W_seq ?_
 refine W_region ?_
 refine L_assign rfl rfl ?_
 refine RL_then ?_
 refine W_seq ?_
 refine W_seq ?_
 refine W_region ?_
 refine L_move rfl rfl ?_
 refine L_call rfl Try.fun23 rfl (beyond_ok a k c os w hk (hx.old hs Own.nil) hl (fun i hi => ⟨(hO i hi).pl, (hO i hi).tl⟩)) ?_
 rintro _ w1 ⟨g, rfl, hs', hg⟩
 have hs2 := hs.nil hs'
 clear hs hs'
 cases g
 ·
  obtain ⟨htot, hpl⟩ := hg rfl
  clear hg
  obtain ⟨nl1, hn1⟩ : ∃ b, badNew fa = b := ⟨_, rfl⟩
  obtain ⟨nl2, hn2⟩ : ∃ b, badNew fb = b := ⟨_, rfl⟩
  refine RL_then ?_
  refine W_if_false rfl ?_
  refine W_skip' ?_
  refine Nx_then ?_
  refine W_seq ?_
  refine W_region ?_
  refine L_move rfl rfl ?_
  refine L_call rfl Try.fun13 rfl (new_any w0 w1 [] hs2 fa nl1 hn1) ?_
  rintro _ w2 ⟨B1, m1, rfl, hs, ho1, hG1⟩
  clear hs2
  refine L_move rfl rfl ?_
  refine L_extract rfl rfl rfl ?_
  refine L_extract rfl rfl rfl ?_
  refine L_assign rfl rfl ?_
  refine L_assign rfl rfl ?_
  refine RL_then ?_
  refine W_seq ?_
  refine W_region ?_
  refine L_move rfl rfl ?_
  refine L_call rfl Try.fun13 rfl (new_any w0 w2 _ hs fb nl2 hn2) ?_
  rintro _ w3 ⟨B2, m2, rfl, hs3, ho2, hG2⟩
  clear hs
  refine L_move rfl rfl ?_
  refine L_extract rfl rfl rfl ?_
  refine L_extract rfl rfl rfl ?_
  refine L_assign rfl rfl ?_
  refine L_assign rfl rfl ?_
  refine RL_then ?_
  refine W_seq ?_
  refine W_region ?_
  refine L_move rfl rfl ?_
  refine L_call rfl Try.fun24 rfl (rnew_any w0 w3 _ hs3 fa hfa nl1 hn1) ?_
  rintro _ w4 ⟨BR1, rfl, hs4, ho3, hR1⟩
  clear hs3
  refine L_move rfl rfl ?_
  refine L_extract rfl rfl rfl ?_
  refine L_extract rfl rfl rfl ?_
  refine L_assign rfl rfl ?_
  refine L_assign rfl rfl ?_
  refine RL_then ?_
  refine W_seq ?_
  refine W_region ?_
  refine L_move rfl rfl ?_
  refine L_call rfl Try.fun24 rfl (rnew_any w0 w4 _ hs4 fb hfb nl2 hn2) ?_
  rintro _ w5 ⟨BR2, rfl, hs5, ho4, hR2⟩
  clear hs4
  have hs : HS w0 w5 (bkN nl1 B1 m1 BR1 fa gs0 ++ bkN nl2 B2 m2 BR2 fb gs0) := by
   rw [bkN0, bkN0]
   rw [List.nil_append] at hs5
   exact HS.re hs5 (fun c => by simp only [List.map_append, List.map_cons, List.map_nil, List.sum_append, List.sum_cons, List.sum_nil]; omega)
  clear hs5
  have hk1 := okN0 hG1 hR1
  have hk2 := okN0 hG2 hR2
  have D1 := duoN w0 nl1 B1 m1 BR1 fa
  have D2 := duoN w0 nl2 B2 m2 BR2 fb
  have D0 := duo_nil w0
  obtain ⟨bk1, hb1⟩ : ∃ f, f = bkN nl1 B1 m1 BR1 fa := ⟨_, rfl⟩
  obtain ⟨bk2, hb2⟩ : ∃ f, f = bkN nl2 B2 m2 BR2 fb := ⟨_, rfl⟩
  obtain ⟨ok1, hc1⟩ : ∃ f, f = okN w0 nl1 B1 m1 BR1 := ⟨_, rfl⟩
  obtain ⟨ok2, hc2⟩ : ∃ f, f = okN w0 nl2 B2 m2 BR2 := ⟨_, rfl⟩
  rw [← hb1, ← hb2] at hs
  rw [← hc1] at hk1
  rw [← hc2] at hk2
  rw [← hb1, ← hc1] at D1
  rw [← hb2, ← hc2] at D2
  clear hb1 hb2 hc1 hc2 hG1 hG2 hR1 hR2 ho1 ho2 ho3 ho4
  refine L_move rfl rfl ?_
  refine L_extract rfl rfl rfl ?_
  refine L_extract rfl rfl rfl ?_
  refine L_assign rfl rfl ?_
  refine L_assign rfl rfl ?_
  refine RL_then ?_
  refine W_seq ?_
  refine W_seq ?_
  refine W_region ?_
  refine L_move rfl rfl ?_
  refine L_move rfl rfl ?_
  first | refine L_neq rfl rfl rfl (dtrue (by omega)) ?_ | refine L_neq rfl rfl rfl (dfalse (by omega)) ?_ | refine L_neq rfl rfl rfl rfl ?_
  refine L_move rfl rfl ?_
  first | (refine RL_want rfl rfl ?_; refine L_move rfl rfl ?_) | refine RL_skip rfl rfl rfl rfl ?_ | refine RL_skipU rfl rfl rfl ?_
  first | (refine RL_want rfl rfl ?_; refine L_move rfl rfl ?_) | refine RL_skip rfl rfl rfl rfl ?_ | refine RL_skipU rfl rfl rfl ?_
  first | (refine RL_want rfl rfl ?_; (first | refine L_neq rfl rfl rfl (dtrue (by omega)) ?_ | refine L_neq rfl rfl rfl (dfalse (by omega)) ?_ | refine L_neq rfl rfl rfl rfl ?_)) | refine RL_skip rfl rfl rfl rfl ?_ | refine RL_skipU rfl rfl rfl ?_
  first | refine L_pick_t rfl rfl rfl ?_ | refine L_pick_f rfl rfl rfl ?_
  refine L_move rfl rfl ?_
  first | (refine RL_want rfl rfl ?_; refine L_move rfl rfl ?_) | refine RL_skip rfl rfl rfl rfl ?_ | refine RL_skipU rfl rfl rfl ?_
  first | (refine RL_want rfl rfl ?_; refine L_ptrNil rfl Try.underlying34 rfl rfl ?_) | refine RL_skip rfl rfl rfl rfl ?_ | refine RL_skipU rfl rfl rfl ?_
  first | (refine RL_want rfl rfl ?_; refine L_move rfl rfl ?_) | refine RL_skip rfl rfl rfl rfl ?_ | refine RL_skipU rfl rfl rfl ?_
  first | (refine RL_want rfl rfl ?_; refine L_ptrNil rfl Try.underlying71 rfl rfl ?_) | refine RL_skip rfl rfl rfl rfl ?_ | refine RL_skipU rfl rfl rfl ?_
  first | (refine RL_want rfl rfl ?_; refine RL_val rfl (R_bneq Try.underlying4 rfl rfl) ?_) | refine RL_skip rfl rfl rfl rfl ?_ | refine RL_skipU rfl rfl rfl ?_
  refine RL_set 56 (v' := .bool false) rfl ((by rw [ga_none, ga_none]; simp)) ?_
  first | refine L_pick_t rfl rfl rfl ?_ | refine L_pick_f rfl rfl rfl ?_
  refine L_move rfl rfl ?_
  first | (refine RL_want rfl rfl ?_; refine L_move rfl rfl ?_) | refine RL_skip rfl rfl rfl rfl ?_ | refine RL_skipU rfl rfl rfl ?_
  first | (refine RL_want rfl rfl ?_; refine L_ptrNil rfl Try.underlying34 rfl rfl ?_) | refine RL_skip rfl rfl rfl rfl ?_ | refine RL_skipU rfl rfl rfl ?_
  first | (refine RL_want rfl rfl ?_; refine L_move rfl rfl ?_) | refine RL_skip rfl rfl rfl rfl ?_ | refine RL_skipU rfl rfl rfl ?_
  first | (refine RL_want rfl rfl ?_; refine L_ptrNil rfl Try.underlying71 rfl rfl ?_) | refine RL_skip rfl rfl rfl rfl ?_ | refine RL_skipU rfl rfl rfl ?_
  first | (refine RL_want rfl rfl ?_; refine RL_val rfl (R_bneq Try.underlying4 rfl rfl) ?_) | refine RL_skip rfl rfl rfl rfl ?_ | refine RL_skipU rfl rfl rfl ?_
  refine RL_set 63 (v' := .bool false) rfl ((by rw [ga_none, ga_none]; simp)) ?_
  first | refine L_pick_t rfl rfl rfl ?_ | refine L_pick_f rfl rfl rfl ?_
  refine RL_then ?_
  refine W_if_false rfl ?_
  refine W_skip' ?_
  refine Nx_then ?_
  refine W_seq ?_
  refine W_region ?_
  refine L_assign rfl rfl ?_
  refine RL_then ?_
  refine W_seq ?_
  refine W_seq ?_
  refine W_region ?_
  refine L_move rfl rfl ?_
  refine L_len rfl Try.underlying69 rfl ?_
  refine L_move rfl rfl ?_
  refine RL_then ?_
  refine W_block ?_
  refine W_loop5 (fun (i : Nat) (wh : Nat) (s1 : GS) (s2 : GS) (w : World) => [(2, .slice a k c), (7, .pointer (ga nl1 B1)), (9, .pointer (ga nl2 B2)), (11, .pointer (ga nl1 BR1)), (13, .pointer (ga nl2 BR2)), (15, .int .i64 wh), (66, .int .i64 k), (67, .int .i64 i)]) (fun (i : Nat) (wh : Nat) (s1 : GS) (s2 : GS) (w : World) => w) (fun (i : Nat) (wh : Nat) (s1 : GS) (s2 : GS) (w : World) => (i ≤ k) ∧ (wh ≤ i) ∧ (HS w0 w (bk1 s1 ++ bk2 s2)) ∧ (ok1 (i + otS os i) s1) ∧ (ok2 (i + otS os i) s2)) (fun (i : Nat) (wh : Nat) (s1 : GS) (s2 : GS) (w : World) => k - i) (0) (0) (gs0) (gs0) (w5) (is := [2, 7, 9, 11, 13, 15, 66, 67]) rfl rfl ?_ ?_
  ·
   exact ⟨Nat.zero_le _, Nat.le_refl _, hs, hk1, hk2⟩
  ·
   clear hs hk1 hk2
   intro i wh s1 s2 w hI
   show W _ _ _ _ [(2, .slice a k c), (7, .pointer (ga nl1 B1)), (9, .pointer (ga nl2 B2)), (11, .pointer (ga nl1 BR1)), (13, .pointer (ga nl2 BR2)), (15, .int .i64 wh), (66, .int .i64 k), (67, .int .i64 i)] w
   obtain ⟨hi, hw, hs, hk1, hk2⟩ := hI
   by_cases hlt : i < k
   ·
    obtain ⟨o, ho⟩ : ∃ o, os.getD i op0 = o := ⟨_, rfl⟩
    have hoo := hO i hlt
    have hop := hpl i hlt
    have hsu := otS_succ (ls := os) (i := i) (by omega)
    have hle := otS_le (ls := os) (i := i + 1) (j := k) (by omega) (by omega)
    rw [ho] at hoo hop hsu
    have hoA : Own w0 (bk1 s1 ++ bk2 s2) := (D1.own hk1).app (D2.own hk2)
    refine W_seq ?_
    refine W_region ?_
    first | refine L_lss rfl rfl rfl (dtrue (by omega)) ?_ | refine L_lss rfl rfl rfl (dfalse (by omega)) ?_ | refine L_lss rfl rfl rfl rfl ?_
    refine RL_then ?_
    refine W_seq ?_
    refine W_if_true rfl ?_
    have hoc : CellsAt w ((aD a).add (i * 6)) o.cells := by rw [← ho]; exact ocs_at (hx.old hs hoA) (by omega)
    refine W_skip' ?_
    refine Nx_then ?_
    refine W_seq ?_
    refine W_block ?_
    refine W_seq ?_
    refine W_region ?_
    refine L_move rfl rfl ?_
    refine L_assign rfl rfl ?_
    refine RL_then ?_
    refine W_seq ?_
    refine W_region ?_
    refine L_move rfl rfl ?_
    refine L_move rfl rfl ?_
    refine L_idxN rfl Try.underlying69 Try.ti75 rfl rfl (by with_reducible first | exact natc_k _ | exact natc_a1 _ | exact natc_0 | exact natc_1 | exact natc_2 | exact natc_s1 _ (by omega) | exact natc_a2 _ | exact natc_add _ _ | exact natc_mul _ _ | exact natc (by omega)) (by omega) (hx.ao (by rw [ocs_len]; omega)) ?_
    refine L_loadA rfl Try.agg75 Try.ti75 rfl (by exact hoc) ?_
    refine L_alloc rfl hs Try.ti75 ?_; intro b17 w hb17 _ hs; replace hs := HS.push hs
    refine L_storeA hs (i := 0) rfl Try.ti75 rfl rfl (by first | rfl | exact add_lit0 _ _ | exact Addr.add_lit .. | (rw [add_add]; exact add_lit0 _ _)) (by simp [OPr.cells]) (by exact OPr.one _) ?_
    intro w hs
    try dsimp only [List.set_cons_succ, List.set_cons_zero, List.cons_append, List.nil_append] at hs
    refine RL_then ?_
    refine W_seq ?_
    refine W_seq ?_
    have h0 : HS w0 w ((b17, Row 75 o.cells) :: (bk1 s1 ++ bk2 s2)) := hs
    clear hs
    have hs := h0
    clear h0
    refine W_cut2 (fun (b : Bool) (w : World) => [(2, .slice a k c), (7, .pointer (ga nl1 B1)), (9, .pointer (ga nl2 B2)), (11, .pointer (ga nl1 BR1)), (13, .pointer (ga nl2 BR2)), (15, .int .i64 wh), (17, .pointer (some ⟨b17, 0, none⟩)), (66, .int .i64 k), (67, .int .i64 i), (81, .bool b)]) (fun (b : Bool) (w : World) => w) (fun (b : Bool) (w : World) => (HS w0 w ((b17, Row 75 o.cells) :: (bk1 s1 ++ bk2 s2)))) ?_ ?_
    ·
     by_cases hk0 : o.kind < 0
     ·
      refine W_region ?_
      refine L_fieldAddr rfl (off := 0) Try.underlying75 rfl rfl Try.ti3 rfl ?_
      refine L_load rfl Try.one3 rfl (by first | exact hs.cell (i := 0) rfl rfl) ?_
      first | refine L_lss rfl rfl rfl (dtrue (by omega)) ?_ | refine L_lss rfl rfl rfl (dfalse (by omega)) ?_ | refine L_lss rfl rfl rfl rfl ?_
      refine L_move rfl rfl ?_
      first | (refine RL_want rfl rfl ?_; refine L_fieldAddr rfl (off := 0) Try.underlying75 rfl rfl Try.ti3 rfl ?_) | refine RL_skip rfl rfl rfl rfl ?_ | refine RL_skipU rfl rfl rfl ?_
      first | (refine RL_want rfl rfl ?_; refine L_load rfl Try.one3 rfl (by first | exact hs.cell (i := 0) rfl rfl) ?_) | refine RL_skip rfl rfl rfl rfl ?_ | refine RL_skipU rfl rfl rfl ?_
      first | (refine RL_want rfl rfl ?_; (first | refine L_gtr rfl rfl rfl (dtrue (by omega)) ?_ | refine L_gtr rfl rfl rfl (dfalse (by omega)) ?_ | refine L_gtr rfl rfl rfl rfl ?_)) | refine RL_skip rfl rfl rfl rfl ?_ | refine RL_skipU rfl rfl rfl ?_
      first | refine L_pick_t rfl rfl rfl ?_ | refine L_pick_f rfl rfl rfl ?_
      refine RL_nil' ?_
      refine Nx_cutP (true, w) (is := [2, 7, 9, 11, 13, 15, 17, 66, 67, 81]) (I' := (fun (b : Bool) (w : World) => (HS w0 w ((b17, Row 75 o.cells) :: (bk1 s1 ++ bk2 s2)))) (true) (w)) rfl rfl rfl ?_
      exact hs
     ·
      by_cases hk3 : 3 < o.kind
      ·
       refine W_region ?_
       refine L_fieldAddr rfl (off := 0) Try.underlying75 rfl rfl Try.ti3 rfl ?_
       refine L_load rfl Try.one3 rfl (by first | exact hs.cell (i := 0) rfl rfl) ?_
       first | refine L_lss rfl rfl rfl (dtrue (by omega)) ?_ | refine L_lss rfl rfl rfl (dfalse (by omega)) ?_ | refine L_lss rfl rfl rfl rfl ?_
       refine L_move rfl rfl ?_
       first | (refine RL_want rfl rfl ?_; refine L_fieldAddr rfl (off := 0) Try.underlying75 rfl rfl Try.ti3 rfl ?_) | refine RL_skip rfl rfl rfl rfl ?_ | refine RL_skipU rfl rfl rfl ?_
       first | (refine RL_want rfl rfl ?_; refine L_load rfl Try.one3 rfl (by first | exact hs.cell (i := 0) rfl rfl) ?_) | refine RL_skip rfl rfl rfl rfl ?_ | refine RL_skipU rfl rfl rfl ?_
       first | (refine RL_want rfl rfl ?_; (first | refine L_gtr rfl rfl rfl (dtrue (by omega)) ?_ | refine L_gtr rfl rfl rfl (dfalse (by omega)) ?_ | refine L_gtr rfl rfl rfl rfl ?_)) | refine RL_skip rfl rfl rfl rfl ?_ | refine RL_skipU rfl rfl rfl ?_
       first | refine L_pick_t rfl rfl rfl ?_ | refine L_pick_f rfl rfl rfl ?_
       refine RL_nil' ?_
       refine Nx_cutP (true, w) (is := [2, 7, 9, 11, 13, 15, 17, 66, 67, 81]) (I' := (fun (b : Bool) (w : World) => (HS w0 w ((b17, Row 75 o.cells) :: (bk1 s1 ++ bk2 s2)))) (true) (w)) rfl rfl rfl ?_
       exact hs
      ·
       refine W_region ?_
       refine L_fieldAddr rfl (off := 0) Try.underlying75 rfl rfl Try.ti3 rfl ?_
       refine L_load rfl Try.one3 rfl (by first | exact hs.cell (i := 0) rfl rfl) ?_
       first | refine L_lss rfl rfl rfl (dtrue (by omega)) ?_ | refine L_lss rfl rfl rfl (dfalse (by omega)) ?_ | refine L_lss rfl rfl rfl rfl ?_
       refine L_move rfl rfl ?_
       first | (refine RL_want rfl rfl ?_; refine L_fieldAddr rfl (off := 0) Try.underlying75 rfl rfl Try.ti3 rfl ?_) | refine RL_skip rfl rfl rfl rfl ?_ | refine RL_skipU rfl rfl rfl ?_
       first | (refine RL_want rfl rfl ?_; refine L_load rfl Try.one3 rfl (by first | exact hs.cell (i := 0) rfl rfl) ?_) | refine RL_skip rfl rfl rfl rfl ?_ | refine RL_skipU rfl rfl rfl ?_
       first | (refine RL_want rfl rfl ?_; (first | refine L_gtr rfl rfl rfl (dtrue (by omega)) ?_ | refine L_gtr rfl rfl rfl (dfalse (by omega)) ?_ | refine L_gtr rfl rfl rfl rfl ?_)) | refine RL_skip rfl rfl rfl rfl ?_ | refine RL_skipU rfl rfl rfl ?_
       first | refine L_pick_t rfl rfl rfl ?_ | refine L_pick_f rfl rfl rfl ?_
       refine RL_nil' ?_
       refine Nx_cutP (false, w) (is := [2, 7, 9, 11, 13, 15, 17, 66, 67, 81]) (I' := (fun (b : Bool) (w : World) => (HS w0 w ((b17, Row 75 o.cells) :: (bk1 s1 ++ bk2 s2)))) (false) (w)) rfl rfl rfl ?_
       exact hs
    ·
     clear hs
     intro b w hI
     show W _ _ _ _ [(2, .slice a k c), (7, .pointer (ga nl1 B1)), (9, .pointer (ga nl2 B2)), (11, .pointer (ga nl1 BR1)), (13, .pointer (ga nl2 BR2)), (15, .int .i64 wh), (17, .pointer (some ⟨b17, 0, none⟩)), (66, .int .i64 k), (67, .int .i64 i), (81, .bool b)] w
     have hs := hI
     clear hI
     refine W_cut2 (fun (wh2 : Nat) (w : World) => [(2, .slice a k c), (7, .pointer (ga nl1 B1)), (9, .pointer (ga nl2 B2)), (11, .pointer (ga nl1 BR1)), (13, .pointer (ga nl2 BR2)), (15, .int .i64 wh2), (17, .pointer (some ⟨b17, 0, none⟩)), (66, .int .i64 k), (67, .int .i64 i)]) (fun (wh2 : Nat) (w : World) => w) (fun (wh2 : Nat) (w : World) => (wh2 ≤ i + 1) ∧ (HS w0 w ((b17, Row 75 o.cells) :: (bk1 s1 ++ bk2 s2)))) ?_ ?_
     ·
      rcases (Bool.eq_false_or_eq_true b).symm with hb | hb
      ·
       refine W_set 81 (v' := .bool false) rfl ((congrArg Value.bool hb)) ?_
       refine W_if_false rfl ?_
       refine W_skip' ?_
       refine Nx_cutP (wh, w) (is := [2, 7, 9, 11, 13, 15, 17, 66, 67]) (I' := (fun (wh2 : Nat) (w : World) => (wh2 ≤ i + 1) ∧ (HS w0 w ((b17, Row 75 o.cells) :: (bk1 s1 ++ bk2 s2)))) (wh) (w)) rfl rfl rfl ?_
       exact ⟨by omega, hs⟩
      ·
       refine W_set 81 (v' := .bool true) rfl ((congrArg Value.bool hb)) ?_
       refine W_if_true rfl ?_
       refine W_region ?_
       refine L_move rfl rfl ?_
       first | refine L_add rfl rfl rfl (wrp_i64 (by omega)) ?_ | refine L_add rfl rfl rfl rfl ?_
       refine L_assign rfl rfl ?_
       refine RL_nil' ?_
       refine Nx_cutP (wh + 1, w) (is := [2, 7, 9, 11, 13, 15, 17, 66, 67]) (I' := (fun (wh2 : Nat) (w : World) => (wh2 ≤ i + 1) ∧ (HS w0 w ((b17, Row 75 o.cells) :: (bk1 s1 ++ bk2 s2)))) (wh + 1) (w)) rfl rfl rfl ?_
       exact ⟨by omega, hs⟩
     ·
      clear hs
      intro wh2 w hI
      show W _ _ _ _ [(2, .slice a k c), (7, .pointer (ga nl1 B1)), (9, .pointer (ga nl2 B2)), (11, .pointer (ga nl1 BR1)), (13, .pointer (ga nl2 BR2)), (15, .int .i64 wh2), (17, .pointer (some ⟨b17, 0, none⟩)), (66, .int .i64 k), (67, .int .i64 i)] w
      obtain ⟨hw2, hs⟩ := hI
      refine W_seq ?_
      refine W_region ?_
      refine L_assign rfl rfl ?_
      refine RL_then ?_
      refine W_seq ?_
      refine W_seq ?_
      refine W_region ?_
      refine L_move rfl rfl ?_
      refine L_rem rfl rfl rfl (by omega) ?_
      refine RL_then ?_
      refine W_cut3 (fun (s1' : GS) (s2' : GS) (w : World) => [(2, .slice a k c), (7, .pointer (ga nl1 B1)), (9, .pointer (ga nl2 B2)), (11, .pointer (ga nl1 BR1)), (13, .pointer (ga nl2 BR2)), (15, .int .i64 wh2), (18, .bool true), (66, .int .i64 k), (67, .int .i64 i)]) (fun (s1' : GS) (s2' : GS) (w : World) => w) (fun (s1' : GS) (s2' : GS) (w : World) => (HS w0 w (bk1 s1' ++ bk2 s2')) ∧ (ok1 (i + 1 + otS os (i + 1)) s1') ∧ (ok2 (i + 1 + otS os (i + 1)) s2')) ?_ ?_
      ·
       have hs1 : HS w0 w (bk1 s1 ++ ((b17, Row 75 o.cells) :: bk2 s2)) := HS.re hs (fun c => by simp only [List.map_append, List.map_cons, List.map_nil, List.sum_append, List.sum_cons, List.sum_nil]; omega)
       have hoR : Own w0 ((b17, Row 75 o.cells) :: bk2 s2) := Own.cons hb17 (D2.own hk2)
       have hoR2 : Own w0 ((b17, Row 75 o.cells) :: bk1 s1) := Own.cons hb17 (D1.own hk1)
       by_cases h0 : (wh2 : Int).tmod 3 = 0
       ·
        refine W_block ?_
        refine W_seq ?_
        refine W_region ?_
        first | refine L_eql rfl rfl rfl (dtrue (by omega)) ?_ | refine L_eql rfl rfl rfl (dfalse (by omega)) ?_ | refine L_eql rfl rfl rfl rfl ?_
        refine L_assign rfl rfl ?_
        refine RL_then ?_
        refine W_if_true rfl ?_
        refine W_region ?_
        refine L_move rfl rfl ?_
        refine L_move rfl rfl ?_
        refine L_loadA rfl Try.agg75 Try.ti75 rfl (by exact cellsAt_whole (hs.get (i := 0) rfl)) ?_
        refine L_call rfl Try.fun25 rfl (step_ok w0 w (.pointer (ga nl1 B1)) (.pointer (ga nl1 BR1)) GS bk1 ok1 D1 (i + otS os i) s1 ((b17, Row 75 o.cells) :: bk2 s2) o hs1 hk1 (by omega) hoR hoo.ps hoo.pb (by omega) hoo.ts (by omega)) ?_
        rintro _ w1 ⟨rfl, s1', hs2, hk1'⟩
        refine L_assign rfl rfl ?_
        refine RL_nil' ?_
        refine Nx_block ?_
        refine Nx_cutP (s1', s2, w1) (is := [2, 7, 9, 11, 13, 15, 18, 66, 67]) (I' := (fun (s1' : GS) (s2' : GS) (w : World) => (HS w0 w (bk1 s1' ++ bk2 s2')) ∧ (ok1 (i + 1 + otS os (i + 1)) s1') ∧ (ok2 (i + 1 + otS os (i + 1)) s2')) (s1') (s2) (w1)) rfl rfl rfl ?_
        refine ⟨HS.pop (p := (b17, Row 75 o.cells)) (HS.re hs2 (fun c => by simp only [List.map_append, List.map_cons, List.map_nil, List.sum_append, List.sum_cons, List.sum_nil]; omega)) hb17, ?_, D2.mono hk2 (by omega)⟩
        exact D1.mono hk1' (by omega)
       ·
        by_cases h1 : (wh2 : Int).tmod 3 = 1
        ·
         have hs3 : HS w0 w (bk2 s2 ++ ((b17, Row 75 o.cells) :: bk1 s1)) := HS.re hs (fun c => by simp only [List.map_append, List.map_cons, List.map_nil, List.sum_append, List.sum_cons, List.sum_nil]; omega)
         refine W_block ?_
         refine W_seq ?_
         refine W_region ?_
         first | refine L_eql rfl rfl rfl (dtrue (by omega)) ?_ | refine L_eql rfl rfl rfl (dfalse (by omega)) ?_ | refine L_eql rfl rfl rfl rfl ?_
         refine L_assign rfl rfl ?_
         refine RL_then ?_
         refine W_if_false rfl ?_
         refine W_seq ?_
         refine W_region ?_
         first | refine L_eql rfl rfl rfl (dtrue (by omega)) ?_ | refine L_eql rfl rfl rfl (dfalse (by omega)) ?_ | refine L_eql rfl rfl rfl rfl ?_
         refine L_assign rfl rfl ?_
         refine RL_then ?_
         refine W_if_true rfl ?_
         refine W_region ?_
         refine L_move rfl rfl ?_
         refine L_move rfl rfl ?_
         refine L_loadA rfl Try.agg75 Try.ti75 rfl (by exact cellsAt_whole (hs.get (i := 0) rfl)) ?_
         refine L_call rfl Try.fun25 rfl (step_ok w0 w (.pointer (ga nl2 B2)) (.pointer (ga nl2 BR2)) GS bk2 ok2 D2 (i + otS os i) s2 ((b17, Row 75 o.cells) :: bk1 s1) o hs3 hk2 (by omega) hoR2 hoo.ps hoo.pb (by omega) hoo.ts (by omega)) ?_
         rintro _ w1 ⟨rfl, s2', hs2, hk2'⟩
         refine L_assign rfl rfl ?_
         refine RL_nil' ?_
         refine Nx_block ?_
         refine Nx_cutP (s1, s2', w1) (is := [2, 7, 9, 11, 13, 15, 18, 66, 67]) (I' := (fun (s1' : GS) (s2' : GS) (w : World) => (HS w0 w (bk1 s1' ++ bk2 s2')) ∧ (ok1 (i + 1 + otS os (i + 1)) s1') ∧ (ok2 (i + 1 + otS os (i + 1)) s2')) (s1) (s2') (w1)) rfl rfl rfl ?_
         refine ⟨HS.pop (p := (b17, Row 75 o.cells)) (HS.re hs2 (fun c => by simp only [List.map_append, List.map_cons, List.map_nil, List.sum_append, List.sum_cons, List.sum_nil]; omega)) hb17, D1.mono hk1 (by omega), ?_⟩
         exact D2.mono hk2' (by omega)
        ·
         have hs3 : HS w0 w ((fun _ : Unit => ([] : Bks)) () ++ ((b17, Row 75 o.cells) :: (bk1 s1 ++ bk2 s2))) := hs
         refine W_block ?_
         refine W_seq ?_
         refine W_region ?_
         first | refine L_eql rfl rfl rfl (dtrue (by omega)) ?_ | refine L_eql rfl rfl rfl (dfalse (by omega)) ?_ | refine L_eql rfl rfl rfl rfl ?_
         refine L_assign rfl rfl ?_
         refine RL_then ?_
         refine W_if_false rfl ?_
         refine W_seq ?_
         refine W_region ?_
         first | refine L_eql rfl rfl rfl (dtrue (by omega)) ?_ | refine L_eql rfl rfl rfl (dfalse (by omega)) ?_ | refine L_eql rfl rfl rfl rfl ?_
         refine L_assign rfl rfl ?_
         refine RL_then ?_
         refine W_if_false rfl ?_
         refine W_region ?_
         refine L_loadA rfl Try.agg75 Try.ti75 rfl (by exact cellsAt_whole (hs.get (i := 0) rfl)) ?_
         refine L_call rfl Try.fun25 rfl (step_ok w0 w (.pointer none) (.pointer none) Unit (fun _ => []) (fun _ _ => True) D0 (i + otS os i) () ((b17, Row 75 o.cells) :: (bk1 s1 ++ bk2 s2)) o hs3 trivial (by omega) (Own.cons hb17 hoA) hoo.ps hoo.pb (by omega) hoo.ts (by omega)) ?_
         rintro _ w1 ⟨rfl, _, hs2, _⟩
         refine L_assign rfl rfl ?_
         refine RL_nil' ?_
         refine Nx_block ?_
         refine Nx_cutP (s1, s2, w1) (is := [2, 7, 9, 11, 13, 15, 18, 66, 67]) (I' := (fun (s1' : GS) (s2' : GS) (w : World) => (HS w0 w (bk1 s1' ++ bk2 s2')) ∧ (ok1 (i + 1 + otS os (i + 1)) s1') ∧ (ok2 (i + 1 + otS os (i + 1)) s2')) (s1) (s2) (w1)) rfl rfl rfl ?_
         exact ⟨HS.pop (p := (b17, Row 75 o.cells)) hs2 hb17, D1.mono hk1 (by omega), D2.mono hk2 (by omega)⟩
      ·
       clear hs hk1 hk2 hoA
       intro s1' s2' w hI
       show W _ _ _ _ [(2, .slice a k c), (7, .pointer (ga nl1 B1)), (9, .pointer (ga nl2 B2)), (11, .pointer (ga nl1 BR1)), (13, .pointer (ga nl2 BR2)), (15, .int .i64 wh2), (18, .bool true), (66, .int .i64 k), (67, .int .i64 i)] w
       obtain ⟨hs, hk1, hk2⟩ := hI
       refine W_seq ?_
       refine W_region ?_
       refine L_move rfl rfl ?_
       refine L_not rfl rfl ?_
       refine RL_then ?_
       refine W_if_false rfl ?_
       refine W_skip' ?_
       refine Nx_block ?_
       refine Nx_then ?_
       refine W_region ?_
       first | refine L_add rfl rfl rfl (wrp_i64 (by omega)) ?_ | refine L_add rfl rfl rfl rfl ?_
       refine L_move rfl rfl ?_
       refine RL_nil' ?_
       refine Nx_loopP (i + 1, wh2, s1', s2', w) (is := [2, 7, 9, 11, 13, 15, 66, 67]) (I' := (fun (i : Nat) (wh : Nat) (s1 : GS) (s2 : GS) (w : World) => (i ≤ k) ∧ (wh ≤ i) ∧ (HS w0 w (bk1 s1 ++ bk2 s2)) ∧ (ok1 (i + otS os i) s1) ∧ (ok2 (i + otS os i) s2)) (i + 1) (wh2) (s1') (s2') (w)) rfl rfl rfl ?_ ?_
       ·
        exact ⟨by omega, hw2, hs, hk1, hk2⟩
       ·
        omega
   ·
    obtain rfl : i = k := by omega
    refine W_seq ?_
    refine W_region ?_
    first | refine L_lss rfl rfl rfl (dtrue (by omega)) ?_ | refine L_lss rfl rfl rfl (dfalse (by omega)) ?_ | refine L_lss rfl rfl rfl rfl ?_
    refine RL_then ?_
    refine W_seq ?_
    refine W_if_false rfl ?_
    refine W_exit' ?_
    refine Ex_then_exit ?_
    refine Ex_loop_exit ?_
    refine Ex_block_hit ?_
    refine Nx_then ?_
    refine W_seq ?_
    refine W_seq ?_
    refine W_region ?_
    refine L_move rfl rfl ?_
    refine RL_then ?_
    refine W_block ?_
    refine W_loop2 (fun (j : Nat) (w : World) => [(7, .pointer (ga nl1 B1)), (9, .pointer (ga nl2 B2)), (11, .pointer (ga nl1 BR1)), (13, .pointer (ga nl2 BR2)), (103, .int .i64 j)]) (fun (j : Nat) (w : World) => w) (fun (j : Nat) (w : World) => (j ≤ 8) ∧ (HS w0 w (bk1 s1 ++ bk2 s2))) (fun (j : Nat) (w : World) => 8 - j) (0) (w) (is := [7, 9, 11, 13, 103]) rfl rfl ?_ ?_
    ·
     exact ⟨Nat.zero_le _, hs⟩
    ·
     clear hs
     intro j w hI
     show W _ _ _ _ [(7, .pointer (ga nl1 B1)), (9, .pointer (ga nl2 B2)), (11, .pointer (ga nl1 BR1)), (13, .pointer (ga nl2 BR2)), (103, .int .i64 j)] w
     obtain ⟨hj, hs⟩ := hI
     by_cases hlt : j < 8
     ·
      refine W_seq ?_
      refine W_region ?_
      first | refine L_lss rfl rfl rfl (dtrue (by omega)) ?_ | refine L_lss rfl rfl rfl (dfalse (by omega)) ?_ | refine L_lss rfl rfl rfl rfl ?_
      refine RL_then ?_
      refine W_seq ?_
      refine W_if_true rfl ?_
      refine W_skip' ?_
      refine Nx_then ?_
      refine W_seq ?_
      refine W_block ?_
      refine W_seq ?_
      refine W_region ?_
      refine L_move rfl rfl ?_
      refine L_assign rfl rfl ?_
      refine RL_then ?_
      refine W_seq ?_
      refine W_region ?_
      refine L_move rfl rfl ?_
      refine L_move rfl rfl ?_
      refine L_call rfl Try.fun17 rfl (D1.inn (i + otS os i) s1 w (bk2 s2) (j : Int) hs hk1 (by omega)) ?_
      rintro v108 w1 ⟨N, ids, hs1, hbN, hil, hsec⟩
      obtain ⟨aN, cN, rfl, _⟩ := hbN.slice
      clear hs
      refine L_move rfl rfl ?_
      refine L_move rfl rfl ?_
      refine L_call rfl Try.fun26 rfl (hsec w1 (bk2 s2 ++ N) (HS.re hs1 (fun c => by simp only [List.map_append, List.map_cons, List.map_nil, List.sum_append, List.sum_cons, List.sum_nil]; omega))) ?_
      rintro v111 w2 ⟨N2, hs2, hbN2⟩
      obtain ⟨aN2, cN2, rfl, _⟩ := hbN2.slice
      clear hs1
      skip
      refine L_call rfl Try.fun22 rfl (ints_ok aN aN2 ids.length ids.length cN cN2 ids ids w2 (hbN.slm hs2 (fun p hp => List.mem_append_left _ (List.mem_append_right _ (List.mem_append_right _ hp)))) (hbN2.slm hs2 (fun p hp => List.mem_append_right _ hp)) rfl rfl (by omega)) ?_
      rintro _ w3 ⟨rfl, hs3⟩
      rw [decide_eq_true (rfl : ids = ids)]
      have hs4 := hs2.nil hs3
      clear hs2 hs3
      have hs5 : HS w0 w3 ((bk1 s1 ++ bk2 s2) ++ N) := HS.dropR (M := N2) (HS.re hs4 (fun c => by simp only [List.map_append, List.map_cons, List.map_nil, List.sum_append, List.sum_cons, List.sum_nil]; omega)) hbN2.own
      have hs6 : HS w0 w3 (bk2 s2 ++ bk1 s1) := HS.re (HS.dropR hs5 hbN.own) (fun c => by simp only [List.map_append, List.map_cons, List.map_nil, List.sum_append, List.sum_cons, List.sum_nil]; omega)
      clear hs4 hs5 hbN hbN2 hsec
      refine L_not rfl rfl ?_
      refine L_move rfl rfl ?_
      first | (refine RL_want rfl rfl ?_; refine L_move rfl rfl ?_) | refine RL_skip rfl rfl rfl rfl ?_ | refine RL_skipU rfl rfl rfl ?_
      first | (refine RL_want rfl rfl ?_; refine L_move rfl rfl ?_) | refine RL_skip rfl rfl rfl rfl ?_ | refine RL_skipU rfl rfl rfl ?_
      refine RL_want rfl rfl ?_
      refine L_call rfl Try.fun17 rfl (D2.inn (i + otS os i) s2 w3 (bk1 s1) (j : Int) hs6 hk2 (by omega)) ?_
      rintro v117 w4 ⟨N', ids', hs1, hbN, hil', hsec⟩
      obtain ⟨aN', cN', rfl, _⟩ := hbN.slice
      clear hs6
      first | (refine RL_want rfl rfl ?_; refine L_move rfl rfl ?_) | refine RL_skip rfl rfl rfl rfl ?_ | refine RL_skipU rfl rfl rfl ?_
      first | (refine RL_want rfl rfl ?_; refine L_move rfl rfl ?_) | refine RL_skip rfl rfl rfl rfl ?_ | refine RL_skipU rfl rfl rfl ?_
      refine RL_want rfl rfl ?_
      refine L_call rfl Try.fun26 rfl (hsec w4 (bk1 s1 ++ N') (HS.re hs1 (fun c => by simp only [List.map_append, List.map_cons, List.map_nil, List.sum_append, List.sum_cons, List.sum_nil]; omega))) ?_
      rintro v120 w5 ⟨N2', hs2, hbN2⟩
      obtain ⟨aN2', cN2', rfl, _⟩ := hbN2.slice
      clear hs1
      skip
      refine RL_want rfl rfl ?_
      refine L_call rfl Try.fun22 rfl (ints_ok aN' aN2' ids'.length ids'.length cN' cN2' ids' ids' w5 (hbN.slm hs2 (fun p hp => List.mem_append_left _ (List.mem_append_right _ (List.mem_append_right _ hp)))) (hbN2.slm hs2 (fun p hp => List.mem_append_right _ hp)) rfl rfl (by omega)) ?_
      rintro _ w6 ⟨rfl, hs3⟩
      rw [decide_eq_true (rfl : ids' = ids')]
      have hs4 := hs2.nil hs3
      clear hs2 hs3
      have hs5 : HS w0 w6 ((bk1 s1 ++ bk2 s2) ++ N') := HS.dropR (M := N2') (HS.re hs4 (fun c => by simp only [List.map_append, List.map_cons, List.map_nil, List.sum_append, List.sum_cons, List.sum_nil]; omega)) hbN2.own
      have hs : HS w0 w6 (bk1 s1 ++ bk2 s2) := HS.dropR hs5 hbN.own
      clear hs4 hs5
      first | (refine RL_want rfl rfl ?_; refine L_not rfl rfl ?_) | refine RL_skip rfl rfl rfl rfl ?_ | refine RL_skipU rfl rfl rfl ?_
      first | refine L_pick_t rfl rfl rfl ?_ | refine L_pick_f rfl rfl rfl ?_
      refine RL_then ?_
      refine W_if_false rfl ?_
      refine W_skip' ?_
      refine Nx_block ?_
      refine Nx_then ?_
      refine W_region ?_
      first | refine L_add rfl rfl rfl (wrp_i64 (by omega)) ?_ | refine L_add rfl rfl rfl rfl ?_
      refine L_move rfl rfl ?_
      refine RL_nil' ?_
      refine Nx_loopP (j + 1, w6) (is := [7, 9, 11, 13, 103]) (I' := (fun (j : Nat) (w : World) => (j ≤ 8) ∧ (HS w0 w (bk1 s1 ++ bk2 s2))) (j + 1) (w6)) rfl rfl rfl ?_ ?_
      ·
       exact ⟨hlt, hs⟩
      ·
       omega
     ·
      obtain rfl : j = 8 := by omega
      refine W_seq ?_
      refine W_region ?_
      first | refine L_lss rfl rfl rfl (dtrue (by omega)) ?_ | refine L_lss rfl rfl rfl (dfalse (by omega)) ?_ | refine L_lss rfl rfl rfl rfl ?_
      refine RL_then ?_
      refine W_seq ?_
      refine W_if_false rfl ?_
      refine W_exit' ?_
      refine Ex_then_exit ?_
      refine Ex_loop_exit ?_
      refine Ex_block_hit ?_
      refine Nx_then ?_
      refine W_seq ?_
      refine W_region ?_
      refine L_call rfl Try.fun8 rfl (works_ok w) ?_
      rintro _ w1 ⟨rfl, hs'⟩
      have hs2 := hs.nil hs'
      refine L_assign rfl rfl ?_
      refine RL_then ?_
      refine W_ret' ?_
      refine Ex_done1 rfl rfl ?_
      exact ⟨_, rfl, rfl, hs2.forget ((D1.own hk1).app (D2.own hk2))⟩
 ·
  refine RL_then ?_
  refine W_if_true rfl ?_
  refine W_seq ?_
  refine W_region ?_
  refine L_call rfl Try.fun8 rfl (works_ok w1) ?_
  rintro _ w2 ⟨rfl, hs'⟩
  refine L_assign rfl rfl ?_
  refine RL_then ?_
  refine W_ret' ?_
  refine Ex_then_ret ?_
  refine Ex_done1 rfl rfl ?_
  exact ⟨_, rfl, rfl, hs2.nil hs'⟩
end Go.Proofs.Ytoiobncojfeoiaa
