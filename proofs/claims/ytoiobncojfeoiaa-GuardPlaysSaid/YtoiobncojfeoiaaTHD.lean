/-
 A part of the proof: what functions that the statement reaches do, or a plain law on what they do. Each theorem holds under its own premises alone.
-/
import Derived.Test.YtoiobncojfeoiaaTHC
import Derived.Test.YtoiobncojfeoiaaTUQ
namespace Go.Proofs.Ytoiobncojfeoiaa
open Go Go.Lk
/-! ### The document's guard: Add -/
theorem radd_nil (nm : ByteArray) (a : Option Addr) (n c : Nat) (w0 : World) : Ret Try.prog 42 [.pointer none, .agg #[.string nm, .slice a n c]] w0 fun v w' => v = .tuple #[.int .i64 0, .int .i64 1] ∧ HS w0 w' [] := by
 refine Ret.start fun w hs => ?_
 refine calls_of_W Try.func42 rfl rfl rfl ?_
 refine W_seq ?_
 refine W_region ?_
 refine L_box rfl hs rfl ?_
 intro b3 w hb3 hnb3 hs
 try dsimp only [List.set_cons_succ, List.set_cons_zero, List.cons_append, List.nil_append] at hs
 refine L_assign rfl rfl ?_
 refine L_assign rfl rfl ?_
 refine RL_then ?_
 refine W_seq ?_
 refine W_seq ?_
 refine W_region ?_
 replace hs : HS w0 w [(b3, Row 40 [.string nm, .slice a n c])] := hs
 refine L_move rfl rfl ?_
 refine L_ptrNil rfl Try.underlying71 rfl rfl ?_
 refine RL_then ?_
 refine W_if_true rfl ?_
 refine W_seq ?_
 refine W_region ?_
 refine L_assign rfl rfl ?_
 refine L_assign rfl rfl ?_
 refine RL_then ?_
 refine W_ret' ?_
 refine Ex_then_ret ?_
 refine Ex_done2 rfl rfl rfl ?_
 exact ⟨_, rfl, rfl, hs.forget (Own.cons hb3 Own.nil)⟩
theorem pnf_fin {p : Pt} (h1 : p.1 < 18446744073709551616) (h2 : p.2 < 18446744073709551616) : pnf p = (!finB p.1 || !finB p.2) := by unfold pnf; rw [fin_nf h1, fin_nf h2]; simp
theorem take_pt {ps : List Pt} {j : Nat} (h : j < ps.length) : ps.take (j + 1) = ps.take j ++ [ps.getD j (0, 0)] := by
 rw [List.take_add_one, List.getD_eq_getElem?_getD, List.getElem?_eq_getElem h]; rfl
set_option maxHeartbeats 2000000 in
theorem radd_ok (w0 w : World) (BR far : Nat) (vZ : Value) (MZ : Bks) (vK : Value) (MK : Bks) (ever : Int) (zs : List Zn) (ks : List Kn) (R : Bks) (nm : ByteArray) (a : Option Addr) (n c : Nat) (ps : List Pt) (hs : HS w0 w (rbs BR far vZ MZ vK MK ever zs ++ R)) (hN : ROk w0 BR vZ MZ vK MK zs ks) (hR : Own w0 R)
  (hA : ∀ w' L', HS w0 w' L' → Own w0 L' → (∀ p ∈ R, p ∈ L') → SlC w' a (pcs ps)) (hn : ps.length = n) (hn2 : n ≤ 1000000) (hev : 0 ≤ ever) (hev2 : ever < 1000000000) (hpb : ∀ p ∈ ps, p.1 < 18446744073709551616 ∧ p.2 < 18446744073709551616) :
  Ret Try.prog 42 [.pointer (some ⟨BR, 0, none⟩), .agg #[.string nm, .slice a n c]] w fun r w' =>
   (addE zs nm ps = 0 ∧ ∃ vZ' MZ' zv zM, r = .tuple #[.int .i64 (ever + 1), .int .i64 0] ∧ HS w0 w' (rbs BR far vZ' MZ' vK MK (ever + 1) (zs ++ [⟨ever + 1, nm, ps, zv, zM⟩]) ++ R) ∧ ROk w0 BR vZ' MZ' vK MK (zs ++ [⟨ever + 1, nm, ps, zv, zM⟩]) ks) ∨
   (addE zs nm ps ≠ 0 ∧ r = .tuple #[.int .i64 0, .int .i64 (addE zs nm ps)] ∧ HS w0 w' (rbs BR far vZ MZ vK MK ever zs ++ R)) := by
 have hlen := hN.len
 have hbZ := hN.zones
 obtain ⟨aZ, cZ, rfl, _⟩ := hbZ.slice
 have hoR : Own w0 (rbs BR far (.slice aZ zs.length cZ) MZ vK MK ever zs ++ R) := hN.owns.app hR
 refine calls_of_W Try.func42 rfl rfl rfl ?_
 refine W_seq ?_
 refine W_region ?_
 refine L_box rfl hs rfl ?_
 intro b3 w hb3 hnb3 hs
 try dsimp only [List.set_cons_succ, List.set_cons_zero, List.cons_append, List.nil_append] at hs
 refine L_assign rfl rfl ?_
 refine L_assign rfl rfl ?_
 refine RL_then ?_
 refine W_seq ?_
 refine W_seq ?_
 refine W_region ?_
 replace hs : HS w0 w ((b3, Row 40 [.string nm, .slice a n c]) :: (rbs BR far (.slice aZ zs.length cZ) MZ vK MK ever zs ++ R)) := HS.push (L := rbs BR far (.slice aZ zs.length cZ) MZ vK MK ever zs ++ R) hs
 have bad : (nm == (⟨#[]⟩ : ByteArray) || decide (n < 3) || decide (64 < n) || zs.any (fun z => z.name == nm) || ps.any pnf) = true → addE zs nm ps = 290 := fun h => by unfold addE; rw [hn, if_pos h]
 obtain ⟨z1, h1⟩ : ∃ z, (nm == (⟨#[]⟩ : ByteArray)) = z := ⟨_, rfl⟩
 cases z1
 ·
  by_cases h2 : n < 3
  ·
   refine L_move rfl rfl ?_
   refine L_ptrNil rfl Try.underlying71 rfl rfl ?_
   refine RL_then ?_
   refine W_if_false rfl ?_
   refine W_skip' ?_
   refine Nx_then ?_
   refine W_seq ?_
   refine W_seq ?_
   refine W_region ?_
   refine L_fieldAddr rfl (off := 0) Try.underlying40 rfl rfl Try.ti9 rfl ?_
   refine L_load rfl Try.one9 rfl (by exact hs.cell (i := 0) rfl rfl) ?_
   refine RL_val rfl (R_seql rfl rfl) ?_; refine RL_set 13 (v' := .bool false) rfl (by rw [h1]) ?_
   refine L_move rfl rfl ?_
   first | (refine RL_want rfl rfl ?_; refine L_fieldAddr rfl (off := 1) Try.underlying40 rfl rfl Try.ti22 rfl ?_) | refine RL_skip rfl rfl rfl rfl ?_ | refine RL_skipU rfl rfl rfl ?_
   first | (refine RL_want rfl rfl ?_; refine L_load rfl Try.one22 rfl (by exact hs.cell (i := 0) rfl rfl) ?_) | refine RL_skip rfl rfl rfl rfl ?_ | refine RL_skipU rfl rfl rfl ?_
   first | (refine RL_want rfl rfl ?_; refine L_len rfl Try.underlying22 rfl ?_) | refine RL_skip rfl rfl rfl rfl ?_ | refine RL_skipU rfl rfl rfl ?_
   first | (refine RL_want rfl rfl ?_; (first | refine L_lss rfl rfl rfl (dtrue (by omega)) ?_ | refine L_lss rfl rfl rfl (dfalse (by omega)) ?_ | refine L_lss rfl rfl rfl rfl ?_)) | refine RL_skip rfl rfl rfl rfl ?_ | refine RL_skipU rfl rfl rfl ?_
   first | refine L_pick_t rfl rfl rfl ?_ | refine L_pick_f rfl rfl rfl ?_
   refine L_move rfl rfl ?_
   first | (refine RL_want rfl rfl ?_; refine L_fieldAddr rfl (off := 1) Try.underlying40 rfl rfl Try.ti22 rfl ?_) | refine RL_skip rfl rfl rfl rfl ?_ | refine RL_skipU rfl rfl rfl ?_
   first | (refine RL_want rfl rfl ?_; refine L_load rfl Try.one22 rfl (by exact hs.cell (i := 0) rfl rfl) ?_) | refine RL_skip rfl rfl rfl rfl ?_ | refine RL_skipU rfl rfl rfl ?_
   first | (refine RL_want rfl rfl ?_; refine L_len rfl Try.underlying22 rfl ?_) | refine RL_skip rfl rfl rfl rfl ?_ | refine RL_skipU rfl rfl rfl ?_
   first | (refine RL_want rfl rfl ?_; (first | refine L_gtr rfl rfl rfl (dtrue (by omega)) ?_ | refine L_gtr rfl rfl rfl (dfalse (by omega)) ?_ | refine L_gtr rfl rfl rfl rfl ?_)) | refine RL_skip rfl rfl rfl rfl ?_ | refine RL_skipU rfl rfl rfl ?_
   first | refine L_pick_t rfl rfl rfl ?_ | refine L_pick_f rfl rfl rfl ?_
   refine RL_then ?_
   refine W_if_true rfl ?_
   refine W_seq ?_
   refine W_region ?_
   refine L_assign rfl rfl ?_
   refine L_assign rfl rfl ?_
   refine RL_then ?_
   refine W_ret' ?_
   refine Ex_then_ret ?_
   refine Ex_done2 rfl rfl rfl ?_
   have e := bad (by rw [decide_eq_true h2]; simp)
   exact ⟨_, rfl, .inr ⟨by rw [e]; decide, by rw [e], HS.pop hs hb3⟩⟩
  ·
   by_cases h3 : 64 < n
   ·
    refine L_move rfl rfl ?_
    refine L_ptrNil rfl Try.underlying71 rfl rfl ?_
    refine RL_then ?_
    refine W_if_false rfl ?_
    refine W_skip' ?_
    refine Nx_then ?_
    refine W_seq ?_
    refine W_seq ?_
    refine W_region ?_
    refine L_fieldAddr rfl (off := 0) Try.underlying40 rfl rfl Try.ti9 rfl ?_
    refine L_load rfl Try.one9 rfl (by exact hs.cell (i := 0) rfl rfl) ?_
    refine RL_val rfl (R_seql rfl rfl) ?_; refine RL_set 13 (v' := .bool false) rfl (by rw [h1]) ?_
    refine L_move rfl rfl ?_
    first | (refine RL_want rfl rfl ?_; refine L_fieldAddr rfl (off := 1) Try.underlying40 rfl rfl Try.ti22 rfl ?_) | refine RL_skip rfl rfl rfl rfl ?_ | refine RL_skipU rfl rfl rfl ?_
    first | (refine RL_want rfl rfl ?_; refine L_load rfl Try.one22 rfl (by exact hs.cell (i := 0) rfl rfl) ?_) | refine RL_skip rfl rfl rfl rfl ?_ | refine RL_skipU rfl rfl rfl ?_
    first | (refine RL_want rfl rfl ?_; refine L_len rfl Try.underlying22 rfl ?_) | refine RL_skip rfl rfl rfl rfl ?_ | refine RL_skipU rfl rfl rfl ?_
    first | (refine RL_want rfl rfl ?_; (first | refine L_lss rfl rfl rfl (dtrue (by omega)) ?_ | refine L_lss rfl rfl rfl (dfalse (by omega)) ?_ | refine L_lss rfl rfl rfl rfl ?_)) | refine RL_skip rfl rfl rfl rfl ?_ | refine RL_skipU rfl rfl rfl ?_
    first | refine L_pick_t rfl rfl rfl ?_ | refine L_pick_f rfl rfl rfl ?_
    refine L_move rfl rfl ?_
    first | (refine RL_want rfl rfl ?_; refine L_fieldAddr rfl (off := 1) Try.underlying40 rfl rfl Try.ti22 rfl ?_) | refine RL_skip rfl rfl rfl rfl ?_ | refine RL_skipU rfl rfl rfl ?_
    first | (refine RL_want rfl rfl ?_; refine L_load rfl Try.one22 rfl (by exact hs.cell (i := 0) rfl rfl) ?_) | refine RL_skip rfl rfl rfl rfl ?_ | refine RL_skipU rfl rfl rfl ?_
    first | (refine RL_want rfl rfl ?_; refine L_len rfl Try.underlying22 rfl ?_) | refine RL_skip rfl rfl rfl rfl ?_ | refine RL_skipU rfl rfl rfl ?_
    first | (refine RL_want rfl rfl ?_; (first | refine L_gtr rfl rfl rfl (dtrue (by omega)) ?_ | refine L_gtr rfl rfl rfl (dfalse (by omega)) ?_ | refine L_gtr rfl rfl rfl rfl ?_)) | refine RL_skip rfl rfl rfl rfl ?_ | refine RL_skipU rfl rfl rfl ?_
    first | refine L_pick_t rfl rfl rfl ?_ | refine L_pick_f rfl rfl rfl ?_
    refine RL_then ?_
    refine W_if_true rfl ?_
    refine W_seq ?_
    refine W_region ?_
    refine L_assign rfl rfl ?_
    refine L_assign rfl rfl ?_
    refine RL_then ?_
    refine W_ret' ?_
    refine Ex_then_ret ?_
    refine Ex_done2 rfl rfl rfl ?_
    have e := bad (by rw [decide_eq_true h3]; simp)
    exact ⟨_, rfl, .inr ⟨by rw [e]; decide, by rw [e], HS.pop hs hb3⟩⟩
   ·
    refine L_move rfl rfl ?_
    refine L_ptrNil rfl Try.underlying71 rfl rfl ?_
    refine RL_then ?_
    refine W_if_false rfl ?_
    refine W_skip' ?_
    refine Nx_then ?_
    refine W_seq ?_
    refine W_seq ?_
    refine W_region ?_
    refine L_fieldAddr rfl (off := 0) Try.underlying40 rfl rfl Try.ti9 rfl ?_
    refine L_load rfl Try.one9 rfl (by exact hs.cell (i := 0) rfl rfl) ?_
    refine RL_val rfl (R_seql rfl rfl) ?_; refine RL_set 13 (v' := .bool false) rfl (by rw [h1]) ?_
    refine L_move rfl rfl ?_
    first | (refine RL_want rfl rfl ?_; refine L_fieldAddr rfl (off := 1) Try.underlying40 rfl rfl Try.ti22 rfl ?_) | refine RL_skip rfl rfl rfl rfl ?_ | refine RL_skipU rfl rfl rfl ?_
    first | (refine RL_want rfl rfl ?_; refine L_load rfl Try.one22 rfl (by exact hs.cell (i := 0) rfl rfl) ?_) | refine RL_skip rfl rfl rfl rfl ?_ | refine RL_skipU rfl rfl rfl ?_
    first | (refine RL_want rfl rfl ?_; refine L_len rfl Try.underlying22 rfl ?_) | refine RL_skip rfl rfl rfl rfl ?_ | refine RL_skipU rfl rfl rfl ?_
    first | (refine RL_want rfl rfl ?_; (first | refine L_lss rfl rfl rfl (dtrue (by omega)) ?_ | refine L_lss rfl rfl rfl (dfalse (by omega)) ?_ | refine L_lss rfl rfl rfl rfl ?_)) | refine RL_skip rfl rfl rfl rfl ?_ | refine RL_skipU rfl rfl rfl ?_
    first | refine L_pick_t rfl rfl rfl ?_ | refine L_pick_f rfl rfl rfl ?_
    refine L_move rfl rfl ?_
    first | (refine RL_want rfl rfl ?_; refine L_fieldAddr rfl (off := 1) Try.underlying40 rfl rfl Try.ti22 rfl ?_) | refine RL_skip rfl rfl rfl rfl ?_ | refine RL_skipU rfl rfl rfl ?_
    first | (refine RL_want rfl rfl ?_; refine L_load rfl Try.one22 rfl (by exact hs.cell (i := 0) rfl rfl) ?_) | refine RL_skip rfl rfl rfl rfl ?_ | refine RL_skipU rfl rfl rfl ?_
    first | (refine RL_want rfl rfl ?_; refine L_len rfl Try.underlying22 rfl ?_) | refine RL_skip rfl rfl rfl rfl ?_ | refine RL_skipU rfl rfl rfl ?_
    first | (refine RL_want rfl rfl ?_; (first | refine L_gtr rfl rfl rfl (dtrue (by omega)) ?_ | refine L_gtr rfl rfl rfl (dfalse (by omega)) ?_ | refine L_gtr rfl rfl rfl rfl ?_)) | refine RL_skip rfl rfl rfl rfl ?_ | refine RL_skipU rfl rfl rfl ?_
    first | refine L_pick_t rfl rfl rfl ?_ | refine L_pick_f rfl rfl rfl ?_
    refine RL_then ?_
    refine W_if_false rfl ?_
    refine W_skip' ?_
    refine Nx_then ?_
    refine W_seq ?_
    refine W_seq ?_
    refine W_region ?_
    refine L_assign rfl rfl ?_
    refine RL_then ?_
    refine W_block ?_
    refine W_loop2 (fun (i : Nat) (w : World) => [(0, .pointer (some ⟨BR, 0, none⟩)), (3, .pointer (some ⟨b3, 0, none⟩)), (6, .int .i64 i)]) (fun (i : Nat) (w : World) => w) (fun (i : Nat) (w : World) => (i ≤ zs.length) ∧ (∀ j, j < i → ¬ ((zs.getD j zn0).name == nm) = true) ∧ (HS w0 w ((b3, Row 40 [.string nm, .slice a n c]) :: (rbs BR far (.slice aZ zs.length cZ) MZ vK MK ever zs ++ R)))) (fun (i : Nat) (w : World) => zs.length - i) (0) (w) (is := [0, 3, 6]) rfl rfl ?_ ?_
    ·
     exact ⟨Nat.zero_le _, fun _ h => absurd h (Nat.not_lt_zero _), hs⟩
    ·
     clear hs
     intro i w hI
     show W _ _ _ _ [(0, .pointer (some ⟨BR, 0, none⟩)), (3, .pointer (some ⟨b3, 0, none⟩)), (6, .int .i64 i)] w
     obtain ⟨hi, hq, hs⟩ := hI
     have hsl := hbZ.slm hs (fun p hp => List.mem_cons_of_mem _ (rbs_Z hp))
     have hrow8 : (BR, Row 107 [.float .f64 far, .slice aZ zs.length cZ, vK, .int .i64 ever]) ∈ (b3, Row 40 [.string nm, .slice a n c]) :: (rbs BR far (.slice aZ zs.length cZ) MZ vK MK ever zs ++ R) := List.mem_cons_of_mem _ rbs_row
     by_cases hlt : i < zs.length
     ·
      refine W_seq ?_
      refine W_seq ?_
      refine W_region ?_
      refine L_move rfl rfl ?_
      refine L_move rfl rfl ?_
      refine L_nilCheck rfl rfl ?_
      refine L_fieldAddr rfl (off := 1) Try.underlying107 rfl rfl Try.ti104 rfl ?_
      refine L_load rfl Try.one104 rfl (by exact HS.cellM hs hrow8 rfl) ?_
      refine L_len rfl Try.underlying104 rfl ?_
      first | refine L_lss rfl rfl rfl (dtrue (by omega)) ?_ | refine L_lss rfl rfl rfl (dfalse (by omega)) ?_ | refine L_lss rfl rfl rfl rfl ?_
      refine RL_then ?_
      refine W_if_true rfl ?_
      obtain ⟨z, hzd⟩ : ∃ z, z = zs.getD i zn0 := ⟨_, rfl⟩
      have zat : ∀ w1, HS w0 w1 ((b3, Row 40 [.string nm, .slice a n c]) :: (rbs BR far (.slice aZ zs.length cZ) MZ vK MK ever zs ++ R)) → CellsAt w1 ((aD aZ).add (i * 3)) z.cells := fun w1 h => by rw [hzd]; exact zn_at (hbZ.slm h (fun p hp => List.mem_cons_of_mem _ (rbs_Z hp))) hlt
      cases hnm : (z.name == nm)
      ·
       refine W_skip' ?_
       refine Nx_then ?_
       refine W_seq ?_
       refine W_block ?_
       refine W_seq ?_
       refine W_pht [0, 1, 2, 4, 9] [3, 5, 6, 7, 8, 10, 11] [] (fun _ _ _ => False) Try.mixed (by kernel_rfl) (fun _ _ _ _ _ h => h) hs ?_
       refine PL_val rfl (fun w => R_move rfl) ?_
       refine PL_val rfl (fun w => R_nilCheck rfl) ?_
       refine PL_val rfl (fun w => R_fieldAddr (off := 1) Try.underlying107 rfl rfl Try.ti104 rfl) ?_
       refine PL_val rfl (fun w => R_move rfl) ?_
       refine PL_val rfl (fun w => R_fieldAddr (off := 0) Try.underlying40 rfl rfl Try.ti9 rfl) ?_
       refine PL_end ?_
       refine HL_val rfl (fun w hs => R_load Try.one104 rfl (by exact HS.cellM hs hrow8 rfl)) ?_
       refine HL_val rfl (fun w hs => R_idxN Try.underlying104 Try.ti118 rfl rfl (by with_reducible first | exact natc_k _ | exact natc_a1 _ | exact natc_0 | exact natc_1 | exact natc_2 | exact natc_s1 _ (by omega) | exact natc_a2 _ | exact natc_add _ _ | exact natc_mul _ _ | exact natc (by omega)) (by omega) (hsl.ao (by rw [zcs_len]; omega))) ?_
       refine HL_val rfl (fun w hs => R_fieldAddr (off := 1) Try.underlying118 rfl rfl Try.ti40 rfl) ?_
       refine HL_val rfl (fun w hs => R_fieldAddr (off := 0) Try.underlying40 rfl rfl Try.ti9 rfl) ?_
       refine HL_val rfl (fun w hs => R_load Try.one9 rfl (by exact zat _ hs 1 _ rfl)) ?_
       refine HL_val rfl (fun w hs => R_load Try.one9 rfl (by exact hs.cell (i := 0) rfl rfl)) ?_
       refine HL_val rfl (fun w hs => R_seql rfl rfl) ?_
       refine HL_tail ?_
       intro w hs
       refine RL_then ?_
       refine W_set 46 (v' := .bool false) rfl ((congrArg Value.bool hnm)) ?_
       refine W_if_false rfl ?_
       refine W_skip' ?_
       refine Nx_block ?_
       refine Nx_then ?_
       refine W_region ?_
       refine L_move rfl rfl ?_
       first | refine L_add rfl rfl rfl (wrp_i64 (by omega)) ?_ | refine L_add rfl rfl rfl rfl ?_
       refine L_assign rfl rfl ?_
       refine RL_nil' ?_
       refine Nx_loopP (i + 1, _) (is := [0, 3, 6]) (I' := (fun (i : Nat) (w : World) => (i ≤ zs.length) ∧ (∀ j, j < i → ¬ ((zs.getD j zn0).name == nm) = true) ∧ (HS w0 w ((b3, Row 40 [.string nm, .slice a n c]) :: (rbs BR far (.slice aZ zs.length cZ) MZ vK MK ever zs ++ R)))) (i + 1) (_)) rfl rfl rfl ?_ ?_
       ·
        refine ⟨by omega, fun j hj => ?_, hs⟩
        by_cases hji : j = i
        ·
         rw [hji, ← hzd, hnm]; decide
        ·
         exact hq j (by omega)
       ·
        omega
      ·
       refine W_skip' ?_
       refine Nx_then ?_
       refine W_seq ?_
       refine W_block ?_
       refine W_seq ?_
       refine W_pht [0, 1, 2, 4, 9] [3, 5, 6, 7, 8, 10, 11] [] (fun _ _ _ => False) Try.mixed (by kernel_rfl) (fun _ _ _ _ _ h => h) hs ?_
       refine PL_val rfl (fun w => R_move rfl) ?_
       refine PL_val rfl (fun w => R_nilCheck rfl) ?_
       refine PL_val rfl (fun w => R_fieldAddr (off := 1) Try.underlying107 rfl rfl Try.ti104 rfl) ?_
       refine PL_val rfl (fun w => R_move rfl) ?_
       refine PL_val rfl (fun w => R_fieldAddr (off := 0) Try.underlying40 rfl rfl Try.ti9 rfl) ?_
       refine PL_end ?_
       refine HL_val rfl (fun w hs => R_load Try.one104 rfl (by exact HS.cellM hs hrow8 rfl)) ?_
       refine HL_val rfl (fun w hs => R_idxN Try.underlying104 Try.ti118 rfl rfl (by with_reducible first | exact natc_k _ | exact natc_a1 _ | exact natc_0 | exact natc_1 | exact natc_2 | exact natc_s1 _ (by omega) | exact natc_a2 _ | exact natc_add _ _ | exact natc_mul _ _ | exact natc (by omega)) (by omega) (hsl.ao (by rw [zcs_len]; omega))) ?_
       refine HL_val rfl (fun w hs => R_fieldAddr (off := 1) Try.underlying118 rfl rfl Try.ti40 rfl) ?_
       refine HL_val rfl (fun w hs => R_fieldAddr (off := 0) Try.underlying40 rfl rfl Try.ti9 rfl) ?_
       refine HL_val rfl (fun w hs => R_load Try.one9 rfl (by exact zat _ hs 1 _ rfl)) ?_
       refine HL_val rfl (fun w hs => R_load Try.one9 rfl (by exact hs.cell (i := 0) rfl rfl)) ?_
       refine HL_val rfl (fun w hs => R_seql rfl rfl) ?_
       refine HL_tail ?_
       intro w hs
       refine RL_then ?_
       refine W_set 46 (v' := .bool true) rfl ((congrArg Value.bool hnm)) ?_
       refine W_if_true rfl ?_
       refine W_seq ?_
       refine W_region ?_
       refine L_assign rfl rfl ?_
       refine L_assign rfl rfl ?_
       refine RL_then ?_
       refine W_ret' ?_
       refine Ex_block_ret ?_
       refine Ex_then_ret ?_
       refine Ex_loop_ret ?_
       refine Ex_block_ret ?_
       refine Ex_then_ret ?_
       refine Ex_done2 rfl rfl rfl ?_
       have e := bad (by
        have : zs.any (fun z => z.name == nm) = true := List.any_eq_true.2 ⟨z, by rw [hzd]; exact getD_mem hlt, hnm⟩
        rw [this]; simp)
       exact ⟨_, rfl, .inr ⟨by rw [e]; decide, by rw [e], HS.pop hs hb3⟩⟩
     ·
      obtain hin : i = zs.length := by omega
      have hnames : zs.any (fun z => z.name == nm) = false := by
       rw [List.any_eq_false]
       intro z hz
       obtain ⟨j, hj, rfl⟩ := List.getElem_of_mem hz
       have := hq j (by omega)
       rw [List.getD_eq_getElem?_getD, List.getElem?_eq_getElem hj] at this
       exact this
      refine W_seq ?_
      refine W_seq ?_
      refine W_region ?_
      refine L_move rfl rfl ?_
      refine L_move rfl rfl ?_
      refine L_nilCheck rfl rfl ?_
      refine L_fieldAddr rfl (off := 1) Try.underlying107 rfl rfl Try.ti104 rfl ?_
      refine L_load rfl Try.one104 rfl (by exact HS.cellM hs hrow8 rfl) ?_
      refine L_len rfl Try.underlying104 rfl ?_
      first | refine L_lss rfl rfl rfl (dtrue (by omega)) ?_ | refine L_lss rfl rfl rfl (dfalse (by omega)) ?_ | refine L_lss rfl rfl rfl rfl ?_
      refine RL_then ?_
      refine W_if_false rfl ?_
      refine W_exit' ?_
      refine Ex_then_exit ?_
      refine Ex_loop_exit ?_
      refine Ex_block_hit ?_
      refine Nx_then ?_
      refine W_seq ?_
      refine W_region ?_
      refine L_assign rfl rfl ?_
      refine RL_then ?_
      refine W_seq ?_
      refine W_seq ?_
      refine W_region ?_
      refine L_assign rfl rfl ?_
      refine RL_then ?_
      refine W_block ?_
      replace hs : HS w0 w (((b3, Row 40 [.string nm, .slice a n c]) :: (rbs BR far (.slice aZ zs.length cZ) MZ vK MK ever zs ++ R)) ++ []) := by rw [List.append_nil]; exact hs
      refine W_loop4 (fun (i : Nat) (v : Value) (M : Bks) (w : World) => [(0, .pointer (some ⟨BR, 0, none⟩)), (3, .pointer (some ⟨b3, 0, none⟩)), (7, v), (8, .int .i64 i)]) (fun (i : Nat) (v : Value) (M : Bks) (w : World) => w) (fun (i : Nat) (v : Value) (M : Bks) (w : World) => (i ≤ n) ∧ (∀ j, j < i → pnf (ps.getD j (0, 0)) = false) ∧ (Bl w0 25 2 v i (pcs (ps.take i)) M) ∧ (HS w0 w (((b3, Row 40 [.string nm, .slice a n c]) :: (rbs BR far (.slice aZ zs.length cZ) MZ vK MK ever zs ++ R)) ++ M))) (fun (i : Nat) (v : Value) (M : Bks) (w : World) => n - i) (0) (.slice none 0 0) ([]) (w) (is := [0, 3, 7, 8]) rfl rfl ?_ ?_
      ·
       exact ⟨Nat.zero_le _, fun _ h => absurd h (Nat.not_lt_zero _), Bl.nil, hs⟩
      ·
       clear hs hq hi
       intro i v M w hI
       show W _ _ _ _ [(0, .pointer (some ⟨BR, 0, none⟩)), (3, .pointer (some ⟨b3, 0, none⟩)), (7, v), (8, .int .i64 i)] w
       obtain ⟨hi, hfin, hb, hs⟩ := hI
       have ho3 : Own w0 (((b3, Row 40 [.string nm, .slice a n c]) :: (rbs BR far (.slice aZ zs.length cZ) MZ vK MK ever zs ++ R)) ++ M) := (Own.cons hb3 hoR).app hb.own
       have hc3 : (b3, Row 40 [.string nm, .slice a n c]) ∈ ((b3, Row 40 [.string nm, .slice a n c]) :: (rbs BR far (.slice aZ zs.length cZ) MZ vK MK ever zs ++ R)) ++ M := List.mem_append_left _ (List.mem_cons_self ..)
       have hpsl : SlC w a (pcs ps) := hA _ _ hs ho3 (fun p hp => List.mem_append_left _ (List.mem_cons_of_mem _ (List.mem_append_right _ hp)))
       by_cases hltp : i < n
       ·
        obtain ⟨p, hpd⟩ : ∃ p, p = ps.getD i (0, 0) := ⟨_, rfl⟩
        have hpat : CellsAt w ((aD a).add (i * 2)) [.float .f64 p.1, .float .f64 p.2] := by rw [hpd]; exact pt_at hpsl (by omega)
        have hpm : p ∈ ps := by rw [hpd]; exact getD_mem (by omega)
        have hpb2 := hpb p hpm
        have hpn := pnf_fin hpb2.1 hpb2.2
        have hnf : pnf p = true → addE zs nm ps = 290 := fun h => bad (by
         have : ps.any pnf = true := List.any_eq_true.2 ⟨p, hpm, h⟩
         rw [this]; simp)
        refine W_seq ?_
        refine W_seq ?_
        refine W_region ?_
        refine L_move rfl rfl ?_
        refine L_fieldAddr rfl (off := 1) Try.underlying40 rfl rfl Try.ti22 rfl ?_
        refine L_load rfl Try.one22 rfl (by exact HS.cellM hs hc3 rfl) ?_
        refine L_len rfl Try.underlying22 rfl ?_
        first | refine L_lss rfl rfl rfl (dtrue (by omega)) ?_ | refine L_lss rfl rfl rfl (dfalse (by omega)) ?_ | refine L_lss rfl rfl rfl rfl ?_
        refine RL_then ?_
        refine W_if_true rfl ?_
        refine W_skip' ?_
        refine Nx_then ?_
        refine W_seq ?_
        refine W_block ?_
        refine W_seq ?_
        refine W_seq ?_
        refine W_region ?_
        refine L_fieldAddr rfl (off := 1) Try.underlying40 rfl rfl Try.ti22 rfl ?_
        refine L_load rfl Try.one22 rfl (by exact HS.cellM hs hc3 rfl) ?_
        refine L_move rfl rfl ?_
        refine L_idxN rfl Try.underlying22 Try.ti25 rfl rfl (by with_reducible first | exact natc_k _ | exact natc_a1 _ | exact natc_0 | exact natc_1 | exact natc_2 | exact natc_s1 _ (by omega) | exact natc_a2 _ | exact natc_add _ _ | exact natc_mul _ _ | exact natc (by omega)) (by omega) (hpsl.ao (by rw [pcs_len]; omega)) ?_
        refine L_fieldAddr rfl (off := 0) Try.underlying25 rfl rfl Try.ti23 rfl ?_
        refine L_load rfl Try.one23 rfl (by exact hpat 0 _ rfl) ?_
        refine L_call rfl Try.fun41 rfl (isfin_ok p.1 w) ?_
        rintro _ w ⟨rfl, rfl⟩
        cases h5 : finB p.1
        ·
         refine L_not rfl rfl ?_
         refine L_move rfl rfl ?_
         first | (refine RL_want rfl rfl ?_; refine L_fieldAddr rfl (off := 1) Try.underlying40 rfl rfl Try.ti22 rfl ?_) | refine RL_skip rfl rfl rfl rfl ?_ | refine RL_skipU rfl rfl rfl ?_
         first | (refine RL_want rfl rfl ?_; refine L_load rfl Try.one22 rfl (by exact HS.cellM hs hc3 rfl) ?_) | refine RL_skip rfl rfl rfl rfl ?_ | refine RL_skipU rfl rfl rfl ?_
         first | (refine RL_want rfl rfl ?_; refine L_move rfl rfl ?_) | refine RL_skip rfl rfl rfl rfl ?_ | refine RL_skipU rfl rfl rfl ?_
         first | (refine RL_want rfl rfl ?_; refine L_idxN rfl Try.underlying22 Try.ti25 rfl rfl (by with_reducible first | exact natc_k _ | exact natc_a1 _ | exact natc_0 | exact natc_1 | exact natc_2 | exact natc_s1 _ (by omega) | exact natc_a2 _ | exact natc_add _ _ | exact natc_mul _ _ | exact natc (by omega)) (by omega) (hpsl.ao (by rw [pcs_len]; omega)) ?_) | refine RL_skip rfl rfl rfl rfl ?_ | refine RL_skipU rfl rfl rfl ?_
         first | (refine RL_want rfl rfl ?_; refine L_fieldAddr rfl (off := 1) Try.underlying25 rfl rfl Try.ti23 rfl ?_) | refine RL_skip rfl rfl rfl rfl ?_ | refine RL_skipU rfl rfl rfl ?_
         first | (refine RL_want rfl rfl ?_; refine L_load rfl Try.one23 rfl (by exact hpat 1 _ rfl) ?_) | refine RL_skip rfl rfl rfl rfl ?_ | refine RL_skipU rfl rfl rfl ?_
         refine RL_skip rfl rfl rfl rfl ?_
         first | (refine RL_want rfl rfl ?_; refine L_not rfl rfl ?_) | refine RL_skip rfl rfl rfl rfl ?_ | refine RL_skipU rfl rfl rfl ?_
         first | refine L_pick_t rfl rfl rfl ?_ | refine L_pick_f rfl rfl rfl ?_
         refine RL_then ?_
         refine W_if_true rfl ?_
         refine W_seq ?_
         refine W_region ?_
         refine L_assign rfl rfl ?_
         refine L_assign rfl rfl ?_
         refine RL_then ?_
         refine W_ret' ?_
         refine Ex_then_ret ?_
         refine Ex_block_ret ?_
         refine Ex_then_ret ?_
         refine Ex_loop_ret ?_
         refine Ex_block_ret ?_
         refine Ex_then_ret ?_
         refine Ex_done2 rfl rfl rfl ?_
         have e := hnf (by rw [hpn, h5]; rfl)
         exact ⟨_, rfl, .inr ⟨by rw [e]; decide, by rw [e], HS.pop (HS.dropR hs hb.own) hb3⟩⟩
        ·
         refine L_not rfl rfl ?_
         refine L_move rfl rfl ?_
         first | (refine RL_want rfl rfl ?_; refine L_fieldAddr rfl (off := 1) Try.underlying40 rfl rfl Try.ti22 rfl ?_) | refine RL_skip rfl rfl rfl rfl ?_ | refine RL_skipU rfl rfl rfl ?_
         first | (refine RL_want rfl rfl ?_; refine L_load rfl Try.one22 rfl (by exact HS.cellM hs hc3 rfl) ?_) | refine RL_skip rfl rfl rfl rfl ?_ | refine RL_skipU rfl rfl rfl ?_
         first | (refine RL_want rfl rfl ?_; refine L_move rfl rfl ?_) | refine RL_skip rfl rfl rfl rfl ?_ | refine RL_skipU rfl rfl rfl ?_
         first | (refine RL_want rfl rfl ?_; refine L_idxN rfl Try.underlying22 Try.ti25 rfl rfl (by with_reducible first | exact natc_k _ | exact natc_a1 _ | exact natc_0 | exact natc_1 | exact natc_2 | exact natc_s1 _ (by omega) | exact natc_a2 _ | exact natc_add _ _ | exact natc_mul _ _ | exact natc (by omega)) (by omega) (hpsl.ao (by rw [pcs_len]; omega)) ?_) | refine RL_skip rfl rfl rfl rfl ?_ | refine RL_skipU rfl rfl rfl ?_
         first | (refine RL_want rfl rfl ?_; refine L_fieldAddr rfl (off := 1) Try.underlying25 rfl rfl Try.ti23 rfl ?_) | refine RL_skip rfl rfl rfl rfl ?_ | refine RL_skipU rfl rfl rfl ?_
         first | (refine RL_want rfl rfl ?_; refine L_load rfl Try.one23 rfl (by exact hpat 1 _ rfl) ?_) | refine RL_skip rfl rfl rfl rfl ?_ | refine RL_skipU rfl rfl rfl ?_
         refine RL_want rfl rfl ?_
         refine L_call rfl Try.fun41 rfl (isfin_ok p.2 _) ?_
         rintro _ w ⟨rfl, rfl⟩
         cases h6 : finB p.2
         ·
          first | (refine RL_want rfl rfl ?_; refine L_not rfl rfl ?_) | refine RL_skip rfl rfl rfl rfl ?_ | refine RL_skipU rfl rfl rfl ?_
          first | refine L_pick_t rfl rfl rfl ?_ | refine L_pick_f rfl rfl rfl ?_
          refine RL_then ?_
          refine W_if_true rfl ?_
          refine W_seq ?_
          refine W_region ?_
          refine L_assign rfl rfl ?_
          refine L_assign rfl rfl ?_
          refine RL_then ?_
          refine W_ret' ?_
          refine Ex_then_ret ?_
          refine Ex_block_ret ?_
          refine Ex_then_ret ?_
          refine Ex_loop_ret ?_
          refine Ex_block_ret ?_
          refine Ex_then_ret ?_
          refine Ex_done2 rfl rfl rfl ?_
          have e := hnf (by rw [hpn, h5, h6]; rfl)
          exact ⟨_, rfl, .inr ⟨by rw [e]; decide, by rw [e], HS.pop (HS.dropR hs hb.own) hb3⟩⟩
         ·
          skip
          first | (refine RL_want rfl rfl ?_; refine L_not rfl rfl ?_) | refine RL_skip rfl rfl rfl rfl ?_ | refine RL_skipU rfl rfl rfl ?_
          first | refine L_pick_t rfl rfl rfl ?_ | refine L_pick_f rfl rfl rfl ?_
          refine RL_then ?_
          refine W_if_false rfl ?_
          refine W_skip' ?_
          refine Nx_then ?_
          refine W_region ?_
          refine L_move rfl rfl ?_
          refine L_fieldAddr rfl (off := 1) Try.underlying40 rfl rfl Try.ti22 rfl ?_
          refine L_load rfl Try.one22 rfl (by exact HS.cellM hs hc3 rfl) ?_
          refine L_move rfl rfl ?_
          refine L_idxN rfl Try.underlying22 Try.ti25 rfl rfl (by with_reducible first | exact natc_k _ | exact natc_a1 _ | exact natc_0 | exact natc_1 | exact natc_2 | exact natc_s1 _ (by omega) | exact natc_a2 _ | exact natc_add _ _ | exact natc_mul _ _ | exact natc (by omega)) (by omega) (hpsl.ao (by rw [pcs_len]; omega)) ?_
          refine L_loadA rfl Try.agg25 Try.ti25 rfl (by exact hpat) ?_
          refine L_buildSlice rfl hs Try.underlying22 Try.ti25 rfl (by decide) rfl (by simp [Value.cells]) ?_
          intro b78 w hb78 hnb78 hs
          skip
          have h0 : HS w0 w ((((b3, Row 40 [.string nm, .slice a n c]) :: (rbs BR far (.slice aZ zs.length cZ) MZ vK MK ever zs ++ R)) ++ M) ++ [(b78, Row 25 [.float .f64 p.1, .float .f64 p.2])]) := hs
          clear hs
          refine L_appendT (L := (b3, Row 40 [.string nm, .slice a n c]) :: (rbs BR far (.slice aZ zs.length cZ) MZ vK MK ever zs ++ R)) (M := M) rfl Try.underlying22 Try.ti25 rfl h0 hb78 hb rfl rfl rfl (by simp [Value.oneCell']) (by omega) (by omega) ?_
          intro v79 w M79 hs hb79
          refine L_assign rfl rfl ?_
          refine RL_nil' ?_
          refine Nx_block ?_
          refine Nx_then ?_
          refine W_region ?_
          refine L_move rfl rfl ?_
          first | refine L_add rfl rfl rfl (wrp_i64 (by omega)) ?_ | refine L_add rfl rfl rfl rfl ?_
          refine L_assign rfl rfl ?_
          refine RL_nil' ?_
          refine Nx_loopP (i + 1, v79, M79, _) (is := [0, 3, 7, 8]) (I' := (fun (i : Nat) (v : Value) (M : Bks) (w : World) => (i ≤ n) ∧ (∀ j, j < i → pnf (ps.getD j (0, 0)) = false) ∧ (Bl w0 25 2 v i (pcs (ps.take i)) M) ∧ (HS w0 w (((b3, Row 40 [.string nm, .slice a n c]) :: (rbs BR far (.slice aZ zs.length cZ) MZ vK MK ever zs ++ R)) ++ M))) (i + 1) (v79) (M79) (_)) rfl rfl rfl ?_ ?_
          ·
           refine ⟨by omega, fun j hj => ?_, ?_, hs⟩
           ·
            by_cases hji : j = i
            ·
             rw [hji, ← hpd, hpn, h5, h6]; rfl
            ·
             exact hfin j (by omega)
           ·
            rw [take_pt (by omega), ← hpd, pcs_app, show pcs [p] = [.float .f64 p.1, .float .f64 p.2] by simp [pcs, pc]]
            exact hb79
          ·
           omega
       ·
        obtain hinp : i = n := by omega
        rw [hinp, List.take_of_length_le (by omega)] at hb
        have hpany : ps.any pnf = false := by
         rw [List.any_eq_false]
         intro p hp
         obtain ⟨j, hj, rfl⟩ := List.getElem_of_mem hp
         have := hfin j (by omega)
         rw [List.getD_eq_getElem?_getD, List.getElem?_eq_getElem hj] at this
         rw [show ps[j] = (some ps[j]).getD (0, 0) from rfl, this]; decide
        have hbn : (nm == (⟨#[]⟩ : ByteArray) || decide (n < 3) || decide (64 < n) || zs.any (fun z => z.name == nm) || ps.any pnf) = false := by rw [h1, hnames, hpany, decide_eq_false h2, decide_eq_false h3]; rfl
        obtain ⟨a2, c2, rfl, hc2⟩ := hb.slice
        have hrow9 : (BR, Row 107 [.float .f64 far, .slice aZ zs.length cZ, vK, .int .i64 ever]) ∈ ((b3, Row 40 [.string nm, .slice a n c]) :: (rbs BR far (.slice aZ zs.length cZ) MZ vK MK ever zs ++ R)) ++ M := List.mem_append_left _ (List.mem_cons_of_mem _ rbs_row)
        by_cases hfull : 64 ≤ zs.length
        ·
         refine W_seq ?_
         refine W_seq ?_
         refine W_region ?_
         refine L_move rfl rfl ?_
         refine L_fieldAddr rfl (off := 1) Try.underlying40 rfl rfl Try.ti22 rfl ?_
         refine L_load rfl Try.one22 rfl (by exact HS.cellM hs hc3 rfl) ?_
         refine L_len rfl Try.underlying22 rfl ?_
         first | refine L_lss rfl rfl rfl (dtrue (by omega)) ?_ | refine L_lss rfl rfl rfl (dfalse (by omega)) ?_ | refine L_lss rfl rfl rfl rfl ?_
         refine RL_then ?_
         refine W_if_false rfl ?_
         refine W_exit' ?_
         refine Ex_then_exit ?_
         refine Ex_loop_exit ?_
         refine Ex_block_hit ?_
         refine Nx_then ?_
         refine W_seq ?_
         refine W_seq ?_
         refine W_region ?_
         refine L_move rfl rfl ?_
         refine L_nilCheck rfl rfl ?_
         refine L_fieldAddr rfl (off := 1) Try.underlying107 rfl rfl Try.ti104 rfl ?_
         refine L_load rfl Try.one104 rfl (by exact HS.cellM hs hrow9 rfl) ?_
         refine L_len rfl Try.underlying104 rfl ?_
         first | refine L_geq rfl rfl rfl (dtrue (by omega)) ?_ | refine L_geq rfl rfl rfl (dfalse (by omega)) ?_ | refine L_geq rfl rfl rfl rfl ?_
         refine RL_then ?_
         refine W_if_true rfl ?_
         refine W_seq ?_
         refine W_region ?_
         refine L_assign rfl rfl ?_
         refine L_assign rfl rfl ?_
         refine RL_then ?_
         refine W_ret' ?_
         refine Ex_then_ret ?_
         refine Ex_done2 rfl rfl rfl ?_
         have e : addE zs nm ps = 4 := by unfold addE; rw [hn, if_neg (by rw [hbn]; decide), if_pos hfull]
         exact ⟨_, rfl, .inr ⟨by rw [e]; decide, by rw [e], HS.pop (HS.dropR hs hb.own) hb3⟩⟩
        ·
         have e : addE zs nm ps = 0 := by unfold addE; rw [hn, if_neg (by rw [hbn]; decide), if_neg hfull]
         refine W_seq ?_
         refine W_seq ?_
         refine W_region ?_
         refine L_move rfl rfl ?_
         refine L_fieldAddr rfl (off := 1) Try.underlying40 rfl rfl Try.ti22 rfl ?_
         refine L_load rfl Try.one22 rfl (by exact HS.cellM hs hc3 rfl) ?_
         refine L_len rfl Try.underlying22 rfl ?_
         first | refine L_lss rfl rfl rfl (dtrue (by omega)) ?_ | refine L_lss rfl rfl rfl (dfalse (by omega)) ?_ | refine L_lss rfl rfl rfl rfl ?_
         refine RL_then ?_
         refine W_if_false rfl ?_
         refine W_exit' ?_
         refine Ex_then_exit ?_
         refine Ex_loop_exit ?_
         refine Ex_block_hit ?_
         refine Nx_then ?_
         refine W_seq ?_
         refine W_seq ?_
         refine W_region ?_
         refine L_move rfl rfl ?_
         refine L_nilCheck rfl rfl ?_
         refine L_fieldAddr rfl (off := 1) Try.underlying107 rfl rfl Try.ti104 rfl ?_
         refine L_load rfl Try.one104 rfl (by exact HS.cellM hs hrow9 rfl) ?_
         refine L_len rfl Try.underlying104 rfl ?_
         first | refine L_geq rfl rfl rfl (dtrue (by omega)) ?_ | refine L_geq rfl rfl rfl (dfalse (by omega)) ?_ | refine L_geq rfl rfl rfl rfl ?_
         refine RL_then ?_
         refine W_if_false rfl ?_
         refine W_skip' ?_
         refine Nx_then ?_
         refine W_seq ?_
         refine W_region ?_
         refine L_move rfl rfl ?_
         refine L_nilCheck rfl rfl ?_
         refine L_fieldAddr rfl (off := 3) Try.underlying107 rfl rfl Try.ti3 rfl ?_
         refine L_load rfl Try.one3 rfl (by exact HS.cellM hs hrow9 rfl) ?_
         first | refine L_add rfl rfl rfl (wrp_i64 (by omega)) ?_ | refine L_add rfl rfl rfl rfl ?_
         refine L_nilCheck rfl rfl ?_
         refine L_fieldAddr rfl (off := 3) Try.underlying107 rfl rfl Try.ti3 rfl ?_
         refine L_store hs (i := 1) rfl Try.ti3 rfl rfl (by first | rfl | exact add_lit0 _ _ | exact Addr.add_lit .. | (rw [add_add]; exact add_lit0 _ _)) (by simp) rfl ?_
         intro w hs
         try dsimp only [List.set_cons_succ, List.set_cons_zero, List.cons_append, List.nil_append] at hs
         refine RL_then ?_
         refine W_seq ?_
         have h0 : HS w0 w (((b3, Row 40 [.string nm, .slice a n c]) :: (rbs BR far (.slice aZ zs.length cZ) MZ vK MK (ever + 1) zs ++ R)) ++ M) := hs
         clear hs
         have hs := h0
         clear h0
         have hrow10 : (BR, Row 107 [.float .f64 far, .slice aZ zs.length cZ, vK, .int .i64 (ever + 1)]) ∈ ((b3, Row 40 [.string nm, .slice a n c]) :: (rbs BR far (.slice aZ zs.length cZ) MZ vK MK (ever + 1) zs ++ R)) ++ M := List.mem_append_left _ (List.mem_cons_of_mem _ rbs_row)
         refine W_sg Try.mixed ?_
         replace hs := hs.drewN 1
         refine SG_stageB [0, 1, 2, 3, 5, 6, 7, 9, 11] [4, 8, 10, 12, 13, 14] [15, 16, 17, 18] (noBk (fun _ _ _ => False)) (g' := 0) (by kernel_rfl) (by kernel_rfl) (fun _ _ _ _ _ h => h) hs ?_
         refine PL_val rfl (fun w => R_move rfl) ?_
         refine PL_val rfl (fun w => R_move rfl) ?_
         refine PL_val rfl (fun w => R_nilCheck rfl) ?_
         refine PL_val rfl (fun w => R_fieldAddr (off := 1) Try.underlying107 rfl rfl Try.ti104 rfl) ?_
         refine PL_val rfl (fun w => R_move rfl) ?_
         refine PL_val rfl (fun w => R_nilCheck rfl) ?_
         refine PL_val rfl (fun w => R_fieldAddr (off := 3) Try.underlying107 rfl rfl Try.ti3 rfl) ?_
         refine PL_val rfl (fun w => R_fieldAddr (off := 0) Try.underlying40 rfl rfl Try.ti9 rfl) ?_
         refine PL_val rfl (fun w => R_move rfl) ?_
         refine PL_endB ?_
         refine HB_val rfl (fun w R hR hs => R_load Try.one104 rfl (by first | exact HS.cellM hs hrow10 rfl | exact HS.cellM hs (List.mem_append_left _ hrow10) rfl)) ?_
         refine HB_val rfl (fun w R hR hs => R_load Try.one3 rfl (by first | exact HS.cellM hs hrow10 rfl | exact HS.cellM hs (List.mem_append_left _ hrow10) rfl)) ?_
         refine HB_val rfl (fun w R hR hs => R_load Try.one9 rfl (by first | exact HS.cellM hs hc3 rfl | exact hs.cell (i := 0) rfl rfl)) ?_
         refine HB_val rfl (fun w R hR hs => R_build rfl (Pl.builtN Try.pl40 rfl)) ?_
         refine HB_val rfl (fun w R hR hs => R_build rfl (Pl.builtN Try.pl118 rfl)) ?_
         refine HB_buildSlice rfl Try.underlying104 Try.ti118 rfl (by decide) rfl (by simp [Value.cells]) ?_
         intro b107 hb107
         refine HB_tail ?_
         intro w hs
         have h0 : HS w0 w ((((b3, Row 40 [.string nm, .slice a n c]) :: ((BR, Row 107 [.float .f64 far, .slice aZ zs.length cZ, vK, .int .i64 (ever + 1)]) :: (MZ ++ (MK ++ zms zs)) ++ R)) ++ M) ++ [(b107, Row 118 [.int .i64 (ever + 1), .string nm, .slice a2 n c2])]) := hs
         clear hs
         have hs : HS w0 w ((((b3, Row 40 [.string nm, .slice a n c]) :: (BR, Row 107 [.float .f64 far, .slice aZ zs.length cZ, vK, .int .i64 (ever + 1)]) :: ((MK ++ zms zs) ++ (R ++ M))) ++ MZ) ++ [(b107, Row 118 [.int .i64 (ever + 1), .string nm, .slice a2 n c2])]) := HS.re h0 (fun c => by simp only [List.map_append, List.map_cons, List.map_nil, List.sum_append, List.sum_cons, List.sum_nil]; omega)
         clear h0
         refine L_appendT (L := (b3, Row 40 [.string nm, .slice a n c]) :: (BR, Row 107 [.float .f64 far, .slice aZ zs.length cZ, vK, .int .i64 (ever + 1)]) :: ((MK ++ zms zs) ++ (R ++ M))) (M := MZ) rfl Try.underlying104 Try.ti118 rfl hs hb107 hbZ rfl rfl rfl (by simp [Value.oneCell']) (by omega) (by omega) ?_
         intro v108 w M108 hs hb108
         obtain ⟨a8, c8, rfl, hc8⟩ := hb108.slice
         refine L_nilCheck rfl rfl ?_
         refine L_fieldAddr rfl (off := 1) Try.underlying107 rfl rfl Try.ti104 rfl ?_
         refine L_store hs (i := 1) rfl Try.ti104 rfl rfl (by first | rfl | exact add_lit0 _ _ | exact Addr.add_lit .. | (rw [add_add]; exact add_lit0 _ _)) (by simp) rfl ?_
         intro w hs
         try dsimp only [List.set_cons_succ, List.set_cons_zero, List.cons_append, List.nil_append] at hs
         refine RL_sg ?_
         refine SG_end (by kernel_rfl) ?_
         refine Nx_then ?_
         refine W_seq ?_
         refine W_region ?_
         refine L_move rfl rfl ?_
         refine L_nilCheck rfl rfl ?_
         refine L_fieldAddr rfl (off := 3) Try.underlying107 rfl rfl Try.ti3 rfl ?_
         refine L_load rfl Try.one3 rfl (by exact hs.cell (i := 1) rfl rfl) ?_
         refine L_assign rfl rfl ?_
         refine L_assign rfl rfl ?_
         refine RL_then ?_
         refine W_ret' ?_
         refine Ex_done2 rfl rfl rfl ?_
         refine ⟨_, rfl, .inl ⟨e, .slice a8 (zs.length + 1) c8, M108, .slice a2 n c2, M, rfl, ?_, ?_⟩⟩
         ·
          replace hs : HS w0 w ((b3, Row 40 [.string nm, .slice a n c]) :: (((BR, Row 107 [.float .f64 far, .slice a8 (zs.length + 1) c8, vK, .int .i64 (ever + 1)]) :: ((MK ++ zms zs) ++ (R ++ M))) ++ M108)) := hs
          replace hs := HS.pop hs hb3
          rw [rbs, zms_app, show zms [⟨ever + 1, nm, ps, .slice a2 n c2, M⟩] = M by simp [zms]]
          exact HS.re hs (fun c => by simp only [List.map_append, List.map_cons, List.map_nil, List.sum_append, List.sum_cons, List.sum_nil]; omega)
         ·
          refine ⟨hN.ownB, ?_, hN.known, fun z hz => (List.mem_append.1 hz).elim (hN.each z) fun h => ?_, by rw [List.length_append, List.length_singleton]; omega⟩
          ·
           rw [List.length_append, zcs_app]
           exact hb108
          ·
           rw [List.mem_singleton.1 h]
           exact ⟨by rw [hn]; exact hb, by show ps.length ≤ 64; omega⟩
 ·
  skip
  refine L_move rfl rfl ?_
  refine L_ptrNil rfl Try.underlying71 rfl rfl ?_
  refine RL_then ?_
  refine W_if_false rfl ?_
  refine W_skip' ?_
  refine Nx_then ?_
  refine W_seq ?_
  refine W_seq ?_
  refine W_region ?_
  refine L_fieldAddr rfl (off := 0) Try.underlying40 rfl rfl Try.ti9 rfl ?_
  refine L_load rfl Try.one9 rfl (by exact hs.cell (i := 0) rfl rfl) ?_
  refine RL_val rfl (R_seql rfl rfl) ?_; refine RL_set 13 (v' := .bool true) rfl (by rw [h1]) ?_
  refine L_move rfl rfl ?_
  first | (refine RL_want rfl rfl ?_; refine L_fieldAddr rfl (off := 1) Try.underlying40 rfl rfl Try.ti22 rfl ?_) | refine RL_skip rfl rfl rfl rfl ?_ | refine RL_skipU rfl rfl rfl ?_
  first | (refine RL_want rfl rfl ?_; refine L_load rfl Try.one22 rfl (by exact hs.cell (i := 0) rfl rfl) ?_) | refine RL_skip rfl rfl rfl rfl ?_ | refine RL_skipU rfl rfl rfl ?_
  first | (refine RL_want rfl rfl ?_; refine L_len rfl Try.underlying22 rfl ?_) | refine RL_skip rfl rfl rfl rfl ?_ | refine RL_skipU rfl rfl rfl ?_
  first | (refine RL_want rfl rfl ?_; (first | refine L_lss rfl rfl rfl (dtrue (by omega)) ?_ | refine L_lss rfl rfl rfl (dfalse (by omega)) ?_ | refine L_lss rfl rfl rfl rfl ?_)) | refine RL_skip rfl rfl rfl rfl ?_ | refine RL_skipU rfl rfl rfl ?_
  first | refine L_pick_t rfl rfl rfl ?_ | refine L_pick_f rfl rfl rfl ?_
  refine L_move rfl rfl ?_
  first | (refine RL_want rfl rfl ?_; refine L_fieldAddr rfl (off := 1) Try.underlying40 rfl rfl Try.ti22 rfl ?_) | refine RL_skip rfl rfl rfl rfl ?_ | refine RL_skipU rfl rfl rfl ?_
  first | (refine RL_want rfl rfl ?_; refine L_load rfl Try.one22 rfl (by exact hs.cell (i := 0) rfl rfl) ?_) | refine RL_skip rfl rfl rfl rfl ?_ | refine RL_skipU rfl rfl rfl ?_
  first | (refine RL_want rfl rfl ?_; refine L_len rfl Try.underlying22 rfl ?_) | refine RL_skip rfl rfl rfl rfl ?_ | refine RL_skipU rfl rfl rfl ?_
  first | (refine RL_want rfl rfl ?_; (first | refine L_gtr rfl rfl rfl (dtrue (by omega)) ?_ | refine L_gtr rfl rfl rfl (dfalse (by omega)) ?_ | refine L_gtr rfl rfl rfl rfl ?_)) | refine RL_skip rfl rfl rfl rfl ?_ | refine RL_skipU rfl rfl rfl ?_
  first | refine L_pick_t rfl rfl rfl ?_ | refine L_pick_f rfl rfl rfl ?_
  refine RL_then ?_
  refine W_if_true rfl ?_
  refine W_seq ?_
  refine W_region ?_
  refine L_assign rfl rfl ?_
  refine L_assign rfl rfl ?_
  refine RL_then ?_
  refine W_ret' ?_
  refine Ex_then_ret ?_
  refine Ex_done2 rfl rfl rfl ?_
  have e := bad (by rw [h1]; simp)
  exact ⟨_, rfl, .inr ⟨by rw [e]; decide, by rw [e], HS.pop hs hb3⟩⟩
end Go.Proofs.Ytoiobncojfeoiaa
