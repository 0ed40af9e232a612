/-
 A part of the proof: what functions that the statement reaches do, or a plain law on what they do. Each theorem holds under its own premises alone.
-/
import Derived.Test.YtoiobncojfeoiaaTHB
import Derived.Test.YtoiobncojfeoiaaTUR
namespace Go.Proofs.Ytoiobncojfeoiaa
open Go Go.Lk
/-! ### The document's guard: In, Drop -/
def rinL (ks : List Kn) (q : Int) : List Int := (ks.filter fun k => decide (k.zone = q) && k.inn).map (·.id)
theorem take_kn {ks : List Kn} {j : Nat} (h : j < ks.length) : ks.take (j + 1) = ks.take j ++ [ks.getD j kn0] := by
 rw [List.take_add_one, List.getD_eq_getElem?_getD, List.getElem?_eq_getElem h]; rfl
theorem rinL_snoc (ks : List Kn) (k : Kn) (q : Int) : rinL (ks ++ [k]) q = rinL ks q ++ (if k.zone = q ∧ k.inn = true then [k.id] else []) := by
 unfold rinL
 rw [List.filter_append, List.map_append]
 congr 1
 by_cases h1 : k.zone = q <;> cases h2 : k.inn <;> simp [h1, h2]
theorem rinL_len (ks : List Kn) (q : Int) : (rinL ks q).length ≤ ks.length := by unfold rinL; rw [List.length_map]; exact List.length_filter_le ..
theorem rin_nil (q : Int) (w0 : World) : Ret Try.prog 26 [.pointer none, .int .i64 q] w0 fun v w' => v = .slice none 0 0 ∧ HS w0 w' [] := by
 refine Ret.start fun w hs => ?_
 refine calls_of_W Try.func26 rfl rfl rfl ?_
 refine W_seq ?_
 refine W_region ?_
 refine L_assign rfl rfl ?_
 refine RL_then ?_
 refine W_seq ?_
 refine W_seq ?_
 refine W_region ?_
 refine L_move rfl rfl ?_
 refine L_ptrNil rfl Try.underlying71 rfl rfl ?_
 refine RL_then ?_
 refine W_if_true rfl ?_
 refine W_seq ?_
 refine W_region ?_
 refine L_assign rfl rfl ?_
 refine RL_then ?_
 refine W_ret' ?_
 refine Ex_then_ret ?_
 refine Ex_done1 rfl rfl ?_
 exact ⟨_, rfl, rfl, hs⟩
theorem rin_ok (w0 w : World) (BR far : Nat) (vZ : Value) (MZ : Bks) (vK : Value) (MK : Bks) (ever : Int) (zs : List Zn) (ks : List Kn) (R : Bks) (q : Int) (hs : HS w0 w (rbs BR far vZ MZ vK MK ever zs ++ R)) (hN : ROk w0 BR vZ MZ vK MK zs ks) (hkl : ks.length ≤ 1000000000) :
  Ret Try.prog 26 [.pointer (some ⟨BR, 0, none⟩), .int .i64 q] w fun v w' => ∃ N, HS w0 w' ((rbs BR far vZ MZ vK MK ever zs ++ R) ++ N) ∧ Bl w0 3 1 v (rinL ks q).length (il (rinL ks q)) N := by
 have hb := hN.known
 obtain ⟨aK, cK, rfl, _⟩ := hb.slice
 obtain ⟨LL, hLL⟩ : ∃ LL, LL = rbs BR far vZ MZ (.slice aK ks.length cK) MK ever zs ++ R := ⟨_, rfl⟩
 have hrow : (BR, Row 107 [.float .f64 far, vZ, .slice aK ks.length cK, .int .i64 ever]) ∈ LL := by rw [hLL]; exact rbs_row
 have hKm : ∀ p ∈ MK, p ∈ LL := fun p hp => by rw [hLL]; exact rbs_K hp
 rw [← hLL] at hs
 rw [← hLL]
 replace hs : HS w0 w (LL ++ []) := by rw [List.append_nil]; exact hs
 refine calls_of_W Try.func26 rfl rfl rfl ?_
 refine W_seq ?_
 refine W_region ?_
 refine L_assign rfl rfl ?_
 refine RL_then ?_
 refine W_seq ?_
 refine W_seq ?_
 refine W_region ?_
 refine L_move rfl rfl ?_
 refine L_ptrNil rfl Try.underlying71 rfl rfl ?_
 refine RL_then ?_
 refine W_if_false rfl ?_
 refine W_skip' ?_
 refine Nx_then ?_
 refine W_seq ?_
 refine W_region ?_
 refine L_assign rfl rfl ?_
 refine RL_then ?_
 refine W_seq ?_
 refine W_seq ?_
 refine W_region ?_
 refine L_assign rfl rfl ?_
 refine RL_then ?_
 refine W_block ?_
 refine W_loop4 (fun (i : Nat) (v : Value) (M : Bks) (w : World) => [(0, .pointer (some ⟨BR, 0, none⟩)), (1, .int .i64 q), (5, v), (6, .int .i64 i)]) (fun (i : Nat) (v : Value) (M : Bks) (w : World) => w) (fun (i : Nat) (v : Value) (M : Bks) (w : World) => (i ≤ ks.length) ∧ (Bl w0 3 1 v (rinL (ks.take i) q).length (il (rinL (ks.take i) q)) M) ∧ (HS w0 w (LL ++ M))) (fun (i : Nat) (v : Value) (M : Bks) (w : World) => ks.length - i) (0) (.slice none 0 0) ([]) (w) (is := [0, 1, 5, 6]) rfl rfl ?_ ?_
 ·
  exact ⟨Nat.zero_le _, Bl.nil, hs⟩
 ·
  clear hs
  intro i v M w hI
  show W _ _ _ _ [(0, .pointer (some ⟨BR, 0, none⟩)), (1, .int .i64 q), (5, v), (6, .int .i64 i)] w
  obtain ⟨hi, hbo, hs⟩ := hI
  have hsl := hb.slm hs (fun p hp => List.mem_append_left _ (hKm p hp))
  by_cases hlt : i < ks.length
  ·
   obtain ⟨k, hkd⟩ : ∃ k, k = ks.getD i kn0 := ⟨_, rfl⟩
   have hat : CellsAt w ((aD aK).add (i * 4)) k.cells := by rw [hkd]; exact kcs_at hsl hlt
   have hst : rinL (ks.take (i + 1)) q = rinL (ks.take i) q ++ (if k.zone = q ∧ k.inn = true then [k.id] else []) := by rw [take_kn hlt, rinL_snoc, ← hkd]
   have hol : (rinL (ks.take i) q).length ≤ i := Nat.le_trans (rinL_len ..) (by rw [List.length_take]; omega)
   by_cases h1 : k.zone = q
   ·
    obtain ⟨kin, hkin⟩ : ∃ b, k.inn = b := ⟨_, rfl⟩
    cases kin
    ·
     refine W_seq ?_
     refine W_seq ?_
     refine W_region ?_
     refine L_move rfl rfl ?_
     refine L_move rfl rfl ?_
     refine L_nilCheck rfl rfl ?_
     refine L_fieldAddr rfl (off := 2) Try.underlying107 rfl rfl Try.ti105 rfl ?_
     refine L_load rfl Try.one105 rfl (by exact HS.cellM hs (List.mem_append_left _ hrow) rfl) ?_
     refine L_len rfl Try.underlying105 rfl ?_
     first | refine L_lss rfl rfl rfl (dtrue (by omega)) ?_ | refine L_lss rfl rfl rfl (dfalse (by omega)) ?_ | refine L_lss rfl rfl rfl rfl ?_
     refine RL_then ?_
     refine W_if_true rfl ?_
     refine W_skip' ?_
     refine Nx_then ?_
     refine W_seq ?_
     refine W_block ?_
     refine W_seq ?_
     refine W_region ?_
     refine L_move rfl rfl ?_
     refine L_nilCheck rfl rfl ?_
     refine L_fieldAddr rfl (off := 2) Try.underlying107 rfl rfl Try.ti105 rfl ?_
     refine L_load rfl Try.one105 rfl (by exact HS.cellM hs (List.mem_append_left _ hrow) rfl) ?_
     refine L_move rfl rfl ?_
     refine L_idxN rfl Try.underlying105 Try.ti109 rfl rfl (by with_reducible first | exact natc_k _ | exact natc_a1 _ | exact natc_0 | exact natc_1 | exact natc_2 | exact natc_s1 _ (by omega) | exact natc_a2 _ | exact natc_add _ _ | exact natc_mul _ _ | exact natc (by omega)) (by omega) (hsl.ao (by rw [kcs_len]; omega)) ?_
     refine L_fieldAddr rfl (off := 0) Try.underlying109 rfl rfl Try.ti3 rfl ?_
     refine L_load rfl Try.one3 rfl (by exact hat 0 _ rfl) ?_
     refine L_move rfl rfl ?_
     first | refine L_eql rfl rfl rfl (dtrue (by omega)) ?_ | refine L_eql rfl rfl rfl (dfalse (by omega)) ?_ | refine L_eql rfl rfl rfl rfl ?_
     refine L_move rfl rfl ?_
     first | (refine RL_want rfl rfl ?_; refine L_move rfl rfl ?_) | refine RL_skip rfl rfl rfl rfl ?_ | refine RL_skipU rfl rfl rfl ?_
     first | (refine RL_want rfl rfl ?_; refine L_nilCheck rfl rfl ?_) | refine RL_skip rfl rfl rfl rfl ?_ | refine RL_skipU rfl rfl rfl ?_
     first | (refine RL_want rfl rfl ?_; refine L_fieldAddr rfl (off := 2) Try.underlying107 rfl rfl Try.ti105 rfl ?_) | refine RL_skip rfl rfl rfl rfl ?_ | refine RL_skipU rfl rfl rfl ?_
     first | (refine RL_want rfl rfl ?_; refine L_load rfl Try.one105 rfl (by exact HS.cellM hs (List.mem_append_left _ hrow) rfl) ?_) | refine RL_skip rfl rfl rfl rfl ?_ | refine RL_skipU rfl rfl rfl ?_
     first | (refine RL_want rfl rfl ?_; refine L_move rfl rfl ?_) | refine RL_skip rfl rfl rfl rfl ?_ | refine RL_skipU rfl rfl rfl ?_
     first | (refine RL_want rfl rfl ?_; refine L_idxN rfl Try.underlying105 Try.ti109 rfl rfl (by with_reducible first | exact natc_k _ | exact natc_a1 _ | exact natc_0 | exact natc_1 | exact natc_2 | exact natc_s1 _ (by omega) | exact natc_a2 _ | exact natc_add _ _ | exact natc_mul _ _ | exact natc (by omega)) (by omega) (hsl.ao (by rw [kcs_len]; omega)) ?_) | refine RL_skip rfl rfl rfl rfl ?_ | refine RL_skipU rfl rfl rfl ?_
     first | (refine RL_want rfl rfl ?_; refine L_fieldAddr rfl (off := 2) Try.underlying109 rfl rfl Try.ti4 rfl ?_) | refine RL_skip rfl rfl rfl rfl ?_ | refine RL_skipU rfl rfl rfl ?_
     first | (refine RL_want rfl rfl ?_; refine L_load rfl Try.one4 rfl (by exact hat 2 _ rfl) ?_) | refine RL_skip rfl rfl rfl rfl ?_ | refine RL_skipU rfl rfl rfl ?_
     refine RL_set 36 (v' := .bool false) rfl ((by rw [hkin])) ?_
     first | refine L_pick_t rfl rfl rfl ?_ | refine L_pick_f rfl rfl rfl ?_
     refine RL_then ?_
     refine W_if_false rfl ?_
     refine W_skip' ?_
     refine Nx_block ?_
     refine Nx_then ?_
     refine W_region ?_
     refine L_move rfl rfl ?_
     first | refine L_add rfl rfl rfl (wrp_i64 (by omega)) ?_ | refine L_add rfl rfl rfl rfl ?_
     refine L_assign rfl rfl ?_
     refine RL_nil' ?_
     refine Nx_loopP (i + 1, v, M, _) (is := [0, 1, 5, 6]) (I' := (fun (i : Nat) (v : Value) (M : Bks) (w : World) => (i ≤ ks.length) ∧ (Bl w0 3 1 v (rinL (ks.take i) q).length (il (rinL (ks.take i) q)) M) ∧ (HS w0 w (LL ++ M))) (i + 1) (v) (M) (_)) rfl rfl rfl ?_ ?_
     ·
      refine ⟨by omega, ?_, hs⟩
      rw [hst, if_neg (by rw [hkin]; simp), List.append_nil]
      exact hbo
     ·
      omega
    ·
     refine W_seq ?_
     refine W_seq ?_
     refine W_region ?_
     refine L_move rfl rfl ?_
     refine L_move rfl rfl ?_
     refine L_nilCheck rfl rfl ?_
     refine L_fieldAddr rfl (off := 2) Try.underlying107 rfl rfl Try.ti105 rfl ?_
     refine L_load rfl Try.one105 rfl (by exact HS.cellM hs (List.mem_append_left _ hrow) rfl) ?_
     refine L_len rfl Try.underlying105 rfl ?_
     first | refine L_lss rfl rfl rfl (dtrue (by omega)) ?_ | refine L_lss rfl rfl rfl (dfalse (by omega)) ?_ | refine L_lss rfl rfl rfl rfl ?_
     refine RL_then ?_
     refine W_if_true rfl ?_
     refine W_skip' ?_
     refine Nx_then ?_
     refine W_seq ?_
     refine W_block ?_
     refine W_seq ?_
     refine W_region ?_
     refine L_move rfl rfl ?_
     refine L_nilCheck rfl rfl ?_
     refine L_fieldAddr rfl (off := 2) Try.underlying107 rfl rfl Try.ti105 rfl ?_
     refine L_load rfl Try.one105 rfl (by exact HS.cellM hs (List.mem_append_left _ hrow) rfl) ?_
     refine L_move rfl rfl ?_
     refine L_idxN rfl Try.underlying105 Try.ti109 rfl rfl (by with_reducible first | exact natc_k _ | exact natc_a1 _ | exact natc_0 | exact natc_1 | exact natc_2 | exact natc_s1 _ (by omega) | exact natc_a2 _ | exact natc_add _ _ | exact natc_mul _ _ | exact natc (by omega)) (by omega) (hsl.ao (by rw [kcs_len]; omega)) ?_
     refine L_fieldAddr rfl (off := 0) Try.underlying109 rfl rfl Try.ti3 rfl ?_
     refine L_load rfl Try.one3 rfl (by exact hat 0 _ rfl) ?_
     refine L_move rfl rfl ?_
     first | refine L_eql rfl rfl rfl (dtrue (by omega)) ?_ | refine L_eql rfl rfl rfl (dfalse (by omega)) ?_ | refine L_eql rfl rfl rfl rfl ?_
     refine L_move rfl rfl ?_
     first | (refine RL_want rfl rfl ?_; refine L_move rfl rfl ?_) | refine RL_skip rfl rfl rfl rfl ?_ | refine RL_skipU rfl rfl rfl ?_
     first | (refine RL_want rfl rfl ?_; refine L_nilCheck rfl rfl ?_) | refine RL_skip rfl rfl rfl rfl ?_ | refine RL_skipU rfl rfl rfl ?_
     first | (refine RL_want rfl rfl ?_; refine L_fieldAddr rfl (off := 2) Try.underlying107 rfl rfl Try.ti105 rfl ?_) | refine RL_skip rfl rfl rfl rfl ?_ | refine RL_skipU rfl rfl rfl ?_
     first | (refine RL_want rfl rfl ?_; refine L_load rfl Try.one105 rfl (by exact HS.cellM hs (List.mem_append_left _ hrow) rfl) ?_) | refine RL_skip rfl rfl rfl rfl ?_ | refine RL_skipU rfl rfl rfl ?_
     first | (refine RL_want rfl rfl ?_; refine L_move rfl rfl ?_) | refine RL_skip rfl rfl rfl rfl ?_ | refine RL_skipU rfl rfl rfl ?_
     first | (refine RL_want rfl rfl ?_; refine L_idxN rfl Try.underlying105 Try.ti109 rfl rfl (by with_reducible first | exact natc_k _ | exact natc_a1 _ | exact natc_0 | exact natc_1 | exact natc_2 | exact natc_s1 _ (by omega) | exact natc_a2 _ | exact natc_add _ _ | exact natc_mul _ _ | exact natc (by omega)) (by omega) (hsl.ao (by rw [kcs_len]; omega)) ?_) | refine RL_skip rfl rfl rfl rfl ?_ | refine RL_skipU rfl rfl rfl ?_
     first | (refine RL_want rfl rfl ?_; refine L_fieldAddr rfl (off := 2) Try.underlying109 rfl rfl Try.ti4 rfl ?_) | refine RL_skip rfl rfl rfl rfl ?_ | refine RL_skipU rfl rfl rfl ?_
     first | (refine RL_want rfl rfl ?_; refine L_load rfl Try.one4 rfl (by exact hat 2 _ rfl) ?_) | refine RL_skip rfl rfl rfl rfl ?_ | refine RL_skipU rfl rfl rfl ?_
     refine RL_set 36 (v' := .bool true) rfl ((by rw [hkin])) ?_
     first | refine L_pick_t rfl rfl rfl ?_ | refine L_pick_f rfl rfl rfl ?_
     refine RL_then ?_
     refine W_if_true rfl ?_
     refine W_region ?_
     refine L_move rfl rfl ?_
     refine L_move rfl rfl ?_
     refine L_nilCheck rfl rfl ?_
     refine L_fieldAddr rfl (off := 2) Try.underlying107 rfl rfl Try.ti105 rfl ?_
     refine L_load rfl Try.one105 rfl (by exact HS.cellM hs (List.mem_append_left _ hrow) rfl) ?_
     refine L_move rfl rfl ?_
     refine L_idxN rfl Try.underlying105 Try.ti109 rfl rfl (by with_reducible first | exact natc_k _ | exact natc_a1 _ | exact natc_0 | exact natc_1 | exact natc_2 | exact natc_s1 _ (by omega) | exact natc_a2 _ | exact natc_add _ _ | exact natc_mul _ _ | exact natc (by omega)) (by omega) (hsl.ao (by rw [kcs_len]; omega)) ?_
     refine L_fieldAddr rfl (off := 1) Try.underlying109 rfl rfl Try.ti3 rfl ?_
     refine L_load rfl Try.one3 rfl (by exact hat 1 _ rfl) ?_
     refine L_buildSlice1 rfl hs Try.underlying38 Try.ti3 rfl (by decide) rfl rfl ?_
     intro b47 w hb47 hnb47 hs
     simp only [List.map_cons, List.map_nil] at hs
     try dsimp only [List.set_cons_succ, List.set_cons_zero, List.cons_append, List.nil_append] at hs
     refine L_appendT (L := LL) (M := M) rfl Try.underlying38 Try.ti3 rfl hs hb47 hbo rfl rfl rfl (by simp [Value.oneCell']) (by omega) (by omega) ?_
     intro v48 w M48 hs hb48
     refine L_assign rfl rfl ?_
     refine RL_nil' ?_
     refine Nx_block ?_
     refine Nx_then ?_
     refine W_region ?_
     refine L_move rfl rfl ?_
     first | refine L_add rfl rfl rfl (wrp_i64 (by omega)) ?_ | refine L_add rfl rfl rfl rfl ?_
     refine L_assign rfl rfl ?_
     refine RL_nil' ?_
     refine Nx_loopP (i + 1, v48, M48, _) (is := [0, 1, 5, 6]) (I' := (fun (i : Nat) (v : Value) (M : Bks) (w : World) => (i ≤ ks.length) ∧ (Bl w0 3 1 v (rinL (ks.take i) q).length (il (rinL (ks.take i) q)) M) ∧ (HS w0 w (LL ++ M))) (i + 1) (v48) (M48) (_)) rfl rfl rfl ?_ ?_
     ·
      refine ⟨by omega, ?_, hs⟩
      rw [hst, if_pos ⟨h1, hkin⟩, List.length_append, il_app]
      exact hb48
     ·
      omega
   ·
    refine W_seq ?_
    refine W_seq ?_
    refine W_region ?_
    refine L_move rfl rfl ?_
    refine L_move rfl rfl ?_
    refine L_nilCheck rfl rfl ?_
    refine L_fieldAddr rfl (off := 2) Try.underlying107 rfl rfl Try.ti105 rfl ?_
    refine L_load rfl Try.one105 rfl (by exact HS.cellM hs (List.mem_append_left _ hrow) rfl) ?_
    refine L_len rfl Try.underlying105 rfl ?_
    first | refine L_lss rfl rfl rfl (dtrue (by omega)) ?_ | refine L_lss rfl rfl rfl (dfalse (by omega)) ?_ | refine L_lss rfl rfl rfl rfl ?_
    refine RL_then ?_
    refine W_if_true rfl ?_
    refine W_skip' ?_
    refine Nx_then ?_
    refine W_seq ?_
    refine W_block ?_
    refine W_seq ?_
    refine W_region ?_
    refine L_move rfl rfl ?_
    refine L_nilCheck rfl rfl ?_
    refine L_fieldAddr rfl (off := 2) Try.underlying107 rfl rfl Try.ti105 rfl ?_
    refine L_load rfl Try.one105 rfl (by exact HS.cellM hs (List.mem_append_left _ hrow) rfl) ?_
    refine L_move rfl rfl ?_
    refine L_idxN rfl Try.underlying105 Try.ti109 rfl rfl (by with_reducible first | exact natc_k _ | exact natc_a1 _ | exact natc_0 | exact natc_1 | exact natc_2 | exact natc_s1 _ (by omega) | exact natc_a2 _ | exact natc_add _ _ | exact natc_mul _ _ | exact natc (by omega)) (by omega) (hsl.ao (by rw [kcs_len]; omega)) ?_
    refine L_fieldAddr rfl (off := 0) Try.underlying109 rfl rfl Try.ti3 rfl ?_
    refine L_load rfl Try.one3 rfl (by exact hat 0 _ rfl) ?_
    refine L_move rfl rfl ?_
    first | refine L_eql rfl rfl rfl (dtrue (by omega)) ?_ | refine L_eql rfl rfl rfl (dfalse (by omega)) ?_ | refine L_eql rfl rfl rfl rfl ?_
    refine L_move rfl rfl ?_
    first | (refine RL_want rfl rfl ?_; refine L_move rfl rfl ?_) | refine RL_skip rfl rfl rfl rfl ?_ | refine RL_skipU rfl rfl rfl ?_
    first | (refine RL_want rfl rfl ?_; refine L_nilCheck rfl rfl ?_) | refine RL_skip rfl rfl rfl rfl ?_ | refine RL_skipU rfl rfl rfl ?_
    first | (refine RL_want rfl rfl ?_; refine L_fieldAddr rfl (off := 2) Try.underlying107 rfl rfl Try.ti105 rfl ?_) | refine RL_skip rfl rfl rfl rfl ?_ | refine RL_skipU rfl rfl rfl ?_
    first | (refine RL_want rfl rfl ?_; refine L_load rfl Try.one105 rfl (by exact HS.cellM hs (List.mem_append_left _ hrow) rfl) ?_) | refine RL_skip rfl rfl rfl rfl ?_ | refine RL_skipU rfl rfl rfl ?_
    first | (refine RL_want rfl rfl ?_; refine L_move rfl rfl ?_) | refine RL_skip rfl rfl rfl rfl ?_ | refine RL_skipU rfl rfl rfl ?_
    first | (refine RL_want rfl rfl ?_; refine L_idxN rfl Try.underlying105 Try.ti109 rfl rfl (by with_reducible first | exact natc_k _ | exact natc_a1 _ | exact natc_0 | exact natc_1 | exact natc_2 | exact natc_s1 _ (by omega) | exact natc_a2 _ | exact natc_add _ _ | exact natc_mul _ _ | exact natc (by omega)) (by omega) (hsl.ao (by rw [kcs_len]; omega)) ?_) | refine RL_skip rfl rfl rfl rfl ?_ | refine RL_skipU rfl rfl rfl ?_
    first | (refine RL_want rfl rfl ?_; refine L_fieldAddr rfl (off := 2) Try.underlying109 rfl rfl Try.ti4 rfl ?_) | refine RL_skip rfl rfl rfl rfl ?_ | refine RL_skipU rfl rfl rfl ?_
    first | (refine RL_want rfl rfl ?_; refine L_load rfl Try.one4 rfl (by exact hat 2 _ rfl) ?_) | refine RL_skip rfl rfl rfl rfl ?_ | refine RL_skipU rfl rfl rfl ?_
    first | refine L_pick_t rfl rfl rfl ?_ | refine L_pick_f rfl rfl rfl ?_
    refine RL_then ?_
    refine W_if_false rfl ?_
    refine W_skip' ?_
    refine Nx_block ?_
    refine Nx_then ?_
    refine W_region ?_
    refine L_move rfl rfl ?_
    first | refine L_add rfl rfl rfl (wrp_i64 (by omega)) ?_ | refine L_add rfl rfl rfl rfl ?_
    refine L_assign rfl rfl ?_
    refine RL_nil' ?_
    refine Nx_loopP (i + 1, v, M, _) (is := [0, 1, 5, 6]) (I' := (fun (i : Nat) (v : Value) (M : Bks) (w : World) => (i ≤ ks.length) ∧ (Bl w0 3 1 v (rinL (ks.take i) q).length (il (rinL (ks.take i) q)) M) ∧ (HS w0 w (LL ++ M))) (i + 1) (v) (M) (_)) rfl rfl rfl ?_ ?_
    ·
     refine ⟨by omega, ?_, hs⟩
     rw [hst, if_neg (fun h => h1 h.1), List.append_nil]
     exact hbo
    ·
     omega
  ·
   obtain hin : i = ks.length := by omega
   rw [List.take_of_length_le (by omega)] at hbo
   refine W_seq ?_
   refine W_seq ?_
   refine W_region ?_
   refine L_move rfl rfl ?_
   refine L_move rfl rfl ?_
   refine L_nilCheck rfl rfl ?_
   refine L_fieldAddr rfl (off := 2) Try.underlying107 rfl rfl Try.ti105 rfl ?_
   refine L_load rfl Try.one105 rfl (by exact HS.cellM hs (List.mem_append_left _ hrow) rfl) ?_
   refine L_len rfl Try.underlying105 rfl ?_
   first | refine L_lss rfl rfl rfl (dtrue (by omega)) ?_ | refine L_lss rfl rfl rfl (dfalse (by omega)) ?_ | refine L_lss rfl rfl rfl rfl ?_
   refine RL_then ?_
   refine W_if_false rfl ?_
   refine W_exit' ?_
   refine Ex_then_exit ?_
   refine Ex_loop_exit ?_
   refine Ex_block_hit ?_
   refine Nx_then ?_
   refine W_seq ?_
   refine W_region ?_
   refine L_move rfl rfl ?_
   refine L_assign rfl rfl ?_
   refine RL_then ?_
   refine W_ret' ?_
   refine Ex_done1 rfl rfl ?_
   exact ⟨_, rfl, M, hs, hbo⟩
theorem rdrop_nil (q : Int) (w0 : World) : Ret Try.prog 43 [.pointer none, .int .i64 q] w0 fun v w' => v = .int .i64 1 ∧ HS w0 w' [] := by
 refine Ret.start fun w hs => ?_
 refine calls_of_W Try.func43 rfl rfl rfl ?_
 refine W_seq ?_
 refine W_region ?_
 refine L_assign rfl rfl ?_
 refine RL_then ?_
 refine W_seq ?_
 refine W_seq ?_
 refine W_region ?_
 refine L_move rfl rfl ?_
 refine L_ptrNil rfl Try.underlying71 rfl rfl ?_
 refine RL_then ?_
 refine W_if_true rfl ?_
 refine W_seq ?_
 refine W_region ?_
 refine L_assign rfl rfl ?_
 refine RL_then ?_
 refine W_ret' ?_
 refine Ex_then_ret ?_
 refine Ex_done1 rfl rfl ?_
 exact ⟨_, rfl, rfl, hs⟩
def dropK (ks : List Kn) (q : Int) : List Kn := ks.filter fun k => !decide (k.zone = q)
theorem dropK_snoc (ks : List Kn) (k : Kn) (q : Int) : dropK (ks ++ [k]) q = dropK ks q ++ (if k.zone = q then [] else [k]) := by
 unfold dropK
 rw [List.filter_append]
 congr 1
 by_cases h : k.zone = q <;> simp [h]
theorem dropK_len (ks : List Kn) (q : Int) : (dropK ks q).length ≤ ks.length := List.length_filter_le ..
/-- what of the zones is kept, so far -/
def keepZ (zs : List Zn) (at' i : Nat) : List Zn := (zs.eraseIdx at').take (if i ≤ at' then i else i - 1)
theorem erase_get {zs : List Zn} {at' j : Nat} : (zs.eraseIdx at')[j]? = if j < at' then zs[j]? else zs[j + 1]? := List.getElem?_eraseIdx ..
theorem keepZ_at {zs : List Zn} {at' : Nat} : keepZ zs at' (at' + 1) = keepZ zs at' at' := by
 unfold keepZ
 rw [if_neg (by omega), if_pos (Nat.le_refl _), Nat.add_sub_cancel]
theorem keepZ_ne {zs : List Zn} {at' i : Nat} (h : i ≠ at') (hi : i < zs.length) : keepZ zs at' (i + 1) = keepZ zs at' i ++ [zs.getD i zn0] := by
 unfold keepZ
 by_cases hlt : i < at'
 ·
  rw [if_pos (by omega), if_pos (by omega), List.take_add_one, erase_get, if_pos hlt, List.getElem?_eq_getElem hi, List.getD_eq_getElem?_getD, List.getElem?_eq_getElem hi]; rfl
 ·
  rw [if_neg (by omega), if_neg (by omega), show i + 1 - 1 = (i - 1) + 1 by omega, List.take_add_one, erase_get, if_neg (by omega), show i - 1 + 1 = i by omega, List.getElem?_eq_getElem hi, List.getD_eq_getElem?_getD, List.getElem?_eq_getElem hi]; rfl
theorem keepZ_len {zs : List Zn} {at' i : Nat} : (keepZ zs at' i).length ≤ i := by unfold keepZ; rw [List.length_take]; split <;> omega
theorem keepZ_all {zs : List Zn} {at' : Nat} (h : at' < zs.length) : keepZ zs at' zs.length = zs.eraseIdx at' := by
 unfold keepZ
 rw [if_neg (by omega), List.take_of_length_le (by rw [List.length_eraseIdx_of_lt h]; exact Nat.le_refl _)]
theorem zn_one {w0 : World} {z : Zn} (h : z.ok w0) : ∀ v ∈ z.cells, v.oneCell' = true := by
 intro v hv
 obtain ⟨ac, cc, hzv, _⟩ := h.bl.slice
 unfold Zn.cells at hv
 rw [hzv] at hv
 simp only [List.mem_cons, List.not_mem_nil, or_false] at hv
 rcases hv with rfl | rfl | rfl <;> rfl
set_option maxHeartbeats 2000000 in
theorem rdrop_ok (w0 w : World) (BR far : Nat) (vZ : Value) (MZ : Bks) (vK : Value) (MK : Bks) (ever : Int) (zs : List Zn) (ks : List Kn) (R : Bks) (q : Int) (hs : HS w0 w (rbs BR far vZ MZ vK MK ever zs ++ R)) (hN : ROk w0 BR vZ MZ vK MK zs ks) (hkl : ks.length ≤ 1000000000) :
  Ret Try.prog 43 [.pointer (some ⟨BR, 0, none⟩), .int .i64 q] w fun r w' =>
   ((∀ i, i < zs.length → (zs.getD i zn0).num ≠ q) ∧ r = .int .i64 290 ∧ HS w0 w' (rbs BR far vZ MZ vK MK ever zs ++ R)) ∨
   (∃ i, i < zs.length ∧ (zs.getD i zn0).num = q ∧ (∀ j, j < i → (zs.getD j zn0).num ≠ q) ∧ ∃ vZ' MZ' vK' MK', r = .int .i64 0 ∧ HS w0 w' (rbs BR far vZ' MZ' vK' MK' ever (zs.eraseIdx i) ++ R) ∧ ROk w0 BR vZ' MZ' vK' MK' (zs.eraseIdx i) (dropK ks q)) := by
 have hlen := hN.len
 have hbZ := hN.zones
 have hbK := hN.known
 obtain ⟨aZ, cZ, rfl, _⟩ := hbZ.slice
 obtain ⟨aK, cK, rfl, _⟩ := hbK.slice
 refine calls_of_W Try.func43 rfl rfl rfl ?_
 refine W_seq ?_
 refine W_region ?_
 refine L_assign rfl rfl ?_
 refine RL_then ?_
 refine W_seq ?_
 refine W_seq ?_
 refine W_region ?_
 refine L_move rfl rfl ?_
 refine L_ptrNil rfl Try.underlying71 rfl rfl ?_
 refine RL_then ?_
 refine W_if_false rfl ?_
 refine W_skip' ?_
 refine Nx_then ?_
 refine W_seq ?_
 refine W_region ?_
 refine L_move rfl rfl ?_
 refine L_move rfl rfl ?_
 refine L_call rfl Try.fun52 rfl (rat_ok w0 w BR far (.slice aZ zs.length cZ) MZ (.slice aK ks.length cK) MK ever zs ks R q hs hN) ?_
 rintro _ w1 ⟨j, rfl, hs', hF⟩
 clear hs
 have hs := hs'
 clear hs'
 rcases hF with ⟨at', hat, rfl, hp, hq⟩ | ⟨rfl, hq⟩
 ·
  refine L_assign rfl rfl ?_
  refine RL_then ?_
  refine W_seq ?_
  refine W_seq ?_
  refine W_region ?_
  refine L_move rfl rfl ?_
  first | refine L_lss rfl rfl rfl (dtrue (by omega)) ?_ | refine L_lss rfl rfl rfl (dfalse (by omega)) ?_ | refine L_lss rfl rfl rfl rfl ?_
  refine RL_then ?_
  refine W_if_false rfl ?_
  refine W_skip' ?_
  refine Nx_then ?_
  refine W_seq ?_
  refine W_region ?_
  refine L_assign rfl rfl ?_
  refine RL_then ?_
  refine W_seq ?_
  refine W_seq ?_
  refine W_region ?_
  refine L_assign rfl rfl ?_
  refine RL_then ?_
  refine W_cut3 (fun (v : Value) (M : Bks) (w : World) => [(0, .pointer (some ⟨BR, 0, none⟩)), (1, .int .i64 q), (6, v)]) (fun (v : Value) (M : Bks) (w : World) => w) (fun (v : Value) (M : Bks) (w : World) => (Bl w0 118 3 v (zs.eraseIdx at').length (zcs (zs.eraseIdx at')) M) ∧ (HS w0 w ((rbs BR far (.slice aZ zs.length cZ) MZ (.slice aK ks.length cK) MK ever zs ++ R) ++ M))) ?_ ?_
  ·
   replace hs : HS w0 w1 ((rbs BR far (.slice aZ zs.length cZ) MZ (.slice aK ks.length cK) MK ever zs ++ R) ++ []) := by rw [List.append_nil]; exact hs
   refine W_block ?_
   refine W_loop4 (fun (i : Nat) (v : Value) (M : Bks) (w : World) => [(0, .pointer (some ⟨BR, 0, none⟩)), (1, .int .i64 q), (5, .int .i64 at'), (6, v), (7, .int .i64 i)]) (fun (i : Nat) (v : Value) (M : Bks) (w : World) => w) (fun (i : Nat) (v : Value) (M : Bks) (w : World) => (i ≤ zs.length) ∧ (Bl w0 118 3 v (keepZ zs at' i).length (zcs (keepZ zs at' i)) M) ∧ (HS w0 w ((rbs BR far (.slice aZ zs.length cZ) MZ (.slice aK ks.length cK) MK ever zs ++ R) ++ M))) (fun (i : Nat) (v : Value) (M : Bks) (w : World) => zs.length - i) (0) (.slice none 0 0) ([]) (w1) (is := [0, 1, 5, 6, 7]) rfl rfl ?_ ?_
   ·
    refine ⟨Nat.zero_le _, ?_, hs⟩
    rw [show keepZ zs at' 0 = [] by unfold keepZ; rw [if_pos (Nat.zero_le _)]; rfl]
    exact Bl.nil
   ·
    clear hs
    intro i v M w hI
    show W _ _ _ _ [(0, .pointer (some ⟨BR, 0, none⟩)), (1, .int .i64 q), (5, .int .i64 at'), (6, v), (7, .int .i64 i)] w
    obtain ⟨hi, hb, hs⟩ := hI
    have hsl := hbZ.slm hs (fun p hp => List.mem_append_left _ (rbs_Z hp))
    by_cases hlt : i < zs.length
    ·
     obtain ⟨z, hzd⟩ : ∃ z, z = zs.getD i zn0 := ⟨_, rfl⟩
     have hzat : CellsAt w ((aD aZ).add (i * 3)) z.cells := by rw [hzd]; exact zn_at hsl hlt
     have hzok : z.ok w0 := hN.each _ (by rw [hzd]; exact getD_mem hlt)
     have hkz := keepZ_len (zs := zs) (at' := at') (i := i)
     by_cases hia : i = at'
     ·
      refine W_seq ?_
      refine W_seq ?_
      refine W_region ?_
      refine L_move rfl rfl ?_
      refine L_move rfl rfl ?_
      refine L_nilCheck rfl rfl ?_
      refine L_fieldAddr rfl (off := 1) Try.underlying107 rfl rfl Try.ti104 rfl ?_
      refine L_load rfl Try.one104 rfl (by exact HS.cellM hs (List.mem_append_left _ rbs_row) rfl) ?_
      refine L_len rfl Try.underlying104 rfl ?_
      first | refine L_lss rfl rfl rfl (dtrue (by omega)) ?_ | refine L_lss rfl rfl rfl (dfalse (by omega)) ?_ | refine L_lss rfl rfl rfl rfl ?_
      refine RL_then ?_
      refine W_if_true rfl ?_
      refine W_skip' ?_
      refine Nx_then ?_
      refine W_seq ?_
      refine W_block ?_
      refine W_seq ?_
      refine W_region ?_
      refine L_move rfl rfl ?_
      refine L_move rfl rfl ?_
      first | refine L_neq rfl rfl rfl (dtrue (by omega)) ?_ | refine L_neq rfl rfl rfl (dfalse (by omega)) ?_ | refine L_neq rfl rfl rfl rfl ?_
      refine RL_then ?_
      refine W_if_false rfl ?_
      refine W_skip' ?_
      refine Nx_block ?_
      refine Nx_then ?_
      refine W_region ?_
      refine L_move rfl rfl ?_
      first | refine L_add rfl rfl rfl (wrp_i64 (by omega)) ?_ | refine L_add rfl rfl rfl rfl ?_
      refine L_assign rfl rfl ?_
      refine RL_nil' ?_
      refine Nx_loopP (i + 1, v, M, _) (is := [0, 1, 5, 6, 7]) (I' := (fun (i : Nat) (v : Value) (M : Bks) (w : World) => (i ≤ zs.length) ∧ (Bl w0 118 3 v (keepZ zs at' i).length (zcs (keepZ zs at' i)) M) ∧ (HS w0 w ((rbs BR far (.slice aZ zs.length cZ) MZ (.slice aK ks.length cK) MK ever zs ++ R) ++ M))) (i + 1) (v) (M) (_)) rfl rfl rfl ?_ ?_
      ·
       refine ⟨by omega, ?_, hs⟩
       have hb' := hb
       rw [hia] at hb'
       rw [hia, keepZ_at]; exact hb'
      ·
       omega
     ·
      refine W_seq ?_
      refine W_seq ?_
      refine W_region ?_
      refine L_move rfl rfl ?_
      refine L_move rfl rfl ?_
      refine L_nilCheck rfl rfl ?_
      refine L_fieldAddr rfl (off := 1) Try.underlying107 rfl rfl Try.ti104 rfl ?_
      refine L_load rfl Try.one104 rfl (by exact HS.cellM hs (List.mem_append_left _ rbs_row) rfl) ?_
      refine L_len rfl Try.underlying104 rfl ?_
      first | refine L_lss rfl rfl rfl (dtrue (by omega)) ?_ | refine L_lss rfl rfl rfl (dfalse (by omega)) ?_ | refine L_lss rfl rfl rfl rfl ?_
      refine RL_then ?_
      refine W_if_true rfl ?_
      refine W_skip' ?_
      refine Nx_then ?_
      refine W_seq ?_
      refine W_block ?_
      refine W_seq ?_
      refine W_region ?_
      refine L_move rfl rfl ?_
      refine L_move rfl rfl ?_
      first | refine L_neq rfl rfl rfl (dtrue (by omega)) ?_ | refine L_neq rfl rfl rfl (dfalse (by omega)) ?_ | refine L_neq rfl rfl rfl rfl ?_
      refine RL_then ?_
      refine W_if_true rfl ?_
      obtain ⟨az9, cz9, hzv, _⟩ := hzok.bl.slice
      refine W_region ?_
      refine L_move rfl rfl ?_
      refine L_move rfl rfl ?_
      refine L_nilCheck rfl rfl ?_
      refine L_fieldAddr rfl (off := 1) Try.underlying107 rfl rfl Try.ti104 rfl ?_
      refine L_load rfl Try.one104 rfl (by exact HS.cellM hs (List.mem_append_left _ rbs_row) rfl) ?_
      refine L_move rfl rfl ?_
      refine L_idxN rfl Try.underlying104 Try.ti118 rfl rfl (by with_reducible first | exact natc_k _ | exact natc_a1 _ | exact natc_0 | exact natc_1 | exact natc_2 | exact natc_s1 _ (by omega) | exact natc_a2 _ | exact natc_add _ _ | exact natc_mul _ _ | exact natc (by omega)) (by omega) (hsl.ao (by rw [zcs_len]; omega)) ?_
      refine L_loadA rfl Try.agg118 Try.ti118 rfl (by exact hzat) ?_
      refine L_buildSlice rfl hs Try.underlying104 Try.ti118 rfl (by decide) rfl (by first | simp [Value.cells, Zn.cells] | (rw [hzv]; simp [Value.cells, Zn.cells])) ?_
      intro b37 w hb37 hnb37 hs
      skip
      have h0 : HS w0 w (((rbs BR far (.slice aZ zs.length cZ) MZ (.slice aK ks.length cK) MK ever zs ++ R) ++ M) ++ [(b37, Row 118 z.cells)]) := hs
      clear hs
      refine L_appendT (L := rbs BR far (.slice aZ zs.length cZ) MZ (.slice aK ks.length cK) MK ever zs ++ R) (M := M) rfl Try.underlying104 Try.ti118 rfl h0 hb37 hb rfl rfl rfl (zn_one hzok) (by omega) (by omega) ?_
      intro v38 w M38 hs hb38
      refine L_assign rfl rfl ?_
      refine RL_nil' ?_
      refine Nx_block ?_
      refine Nx_then ?_
      refine W_region ?_
      refine L_move rfl rfl ?_
      first | refine L_add rfl rfl rfl (wrp_i64 (by omega)) ?_ | refine L_add rfl rfl rfl rfl ?_
      refine L_assign rfl rfl ?_
      refine RL_nil' ?_
      refine Nx_loopP (i + 1, v38, M38, _) (is := [0, 1, 5, 6, 7]) (I' := (fun (i : Nat) (v : Value) (M : Bks) (w : World) => (i ≤ zs.length) ∧ (Bl w0 118 3 v (keepZ zs at' i).length (zcs (keepZ zs at' i)) M) ∧ (HS w0 w ((rbs BR far (.slice aZ zs.length cZ) MZ (.slice aK ks.length cK) MK ever zs ++ R) ++ M))) (i + 1) (v38) (M38) (_)) rfl rfl rfl ?_ ?_
      ·
       refine ⟨by omega, ?_, hs⟩
       rw [keepZ_ne hia hlt, ← hzd, List.length_append, zcs_app, show zcs [z] = z.cells by simp [zcs]]
       exact hb38
      ·
       omega
    ·
     obtain hin : i = zs.length := by omega
     rw [hin, keepZ_all hat] at hb
     refine W_seq ?_
     refine W_seq ?_
     refine W_region ?_
     refine L_move rfl rfl ?_
     refine L_move rfl rfl ?_
     refine L_nilCheck rfl rfl ?_
     refine L_fieldAddr rfl (off := 1) Try.underlying107 rfl rfl Try.ti104 rfl ?_
     refine L_load rfl Try.one104 rfl (by exact HS.cellM hs (List.mem_append_left _ rbs_row) rfl) ?_
     refine L_len rfl Try.underlying104 rfl ?_
     first | refine L_lss rfl rfl rfl (dtrue (by omega)) ?_ | refine L_lss rfl rfl rfl (dfalse (by omega)) ?_ | refine L_lss rfl rfl rfl rfl ?_
     refine RL_then ?_
     refine W_if_false rfl ?_
     refine W_exit' ?_
     refine Ex_then_exit ?_
     refine Ex_loop_exit ?_
     refine Ex_block_hit ?_
     refine Nx_cutP (v, M, w) (is := [0, 1, 6]) (I' := (fun (v : Value) (M : Bks) (w : World) => (Bl w0 118 3 v (zs.eraseIdx at').length (zcs (zs.eraseIdx at')) M) ∧ (HS w0 w ((rbs BR far (.slice aZ zs.length cZ) MZ (.slice aK ks.length cK) MK ever zs ++ R) ++ M))) (v) (M) (w)) rfl rfl rfl ?_
     exact ⟨hb, hs⟩
  ·
   clear hs
   intro v M w hI
   show W _ _ _ _ [(0, .pointer (some ⟨BR, 0, none⟩)), (1, .int .i64 q), (6, v)] w
   obtain ⟨hbn, hs⟩ := hI
   have hzi : (zs.getD at' zn0).ok w0 := hN.each _ (getD_mem hat)
   have hze : ∀ z ∈ zs.eraseIdx at', z.ok w0 := fun z hz => hN.each z (List.mem_of_mem_eraseIdx hz)
   have hel : (zs.eraseIdx at').length = zs.length - 1 := List.length_eraseIdx_of_lt hat
   obtain ⟨an, cn, rfl, _⟩ := hbn.slice
   refine W_seq ?_
   refine W_region ?_
   refine L_move rfl rfl ?_
   refine L_move rfl rfl ?_
   refine L_nilCheck rfl rfl ?_
   refine L_fieldAddr rfl (off := 1) Try.underlying107 rfl rfl Try.ti104 rfl ?_
   refine L_store hs (i := 0) rfl Try.ti104 rfl rfl (by first | rfl | exact add_lit0 _ _ | exact Addr.add_lit .. | (rw [add_add]; exact add_lit0 _ _)) (by simp) rfl ?_
   intro w hs
   try dsimp only [List.set_cons_succ, List.set_cons_zero, List.cons_append, List.nil_append] at hs
   refine RL_then ?_
   refine W_seq ?_
   have h1 : HS w0 w (((BR, Row 107 [.float .f64 far, .slice an (zs.eraseIdx at').length cn, .slice aK ks.length cK, .int .i64 ever]) :: ((MZ ++ (MK ++ zms zs)) ++ R)) ++ M) := hs
   clear hs
   have hs : HS w0 w (rbs BR far (.slice an (zs.eraseIdx at').length cn) M (.slice aK ks.length cK) MK ever (zs.eraseIdx at') ++ R) := by
    refine HS.dropR (M := MZ ++ (zs.getD at' zn0).M) (h1.mem_perm (perm_by fun c => ?_)) (hbZ.own.app hzi.bl.own)
    have hsum := ((zms_erase hat).map c).sum_nat
    simp only [List.map_append, List.map_cons, List.map_nil, List.sum_append, List.sum_cons, List.sum_nil] at hsum ⊢
    omega
   clear h1
   have hzs : ∀ (vK' : Value) (MK' : Bks) (ks' : List Kn), Bl w0 109 4 vK' ks'.length (kcs ks') MK' → ROk w0 BR (.slice an (zs.eraseIdx at').length cn) M vK' MK' (zs.eraseIdx at') ks' := fun vK' MK' ks' h => ⟨hN.ownB, hbn, h, hze, by omega⟩
   have hfirst : ∀ j, j < at' → (zs.getD j zn0).num ≠ q := hq
   obtain ⟨ze, hzed⟩ : ∃ ze, ze = zs.eraseIdx at' := ⟨_, rfl⟩
   rw [← hzed] at hs hzs
   replace hs : HS w0 w ((rbs BR far (.slice an ze.length cn) M (.slice aK ks.length cK) MK ever ze ++ R) ++ []) := by rw [List.append_nil]; exact hs
   refine W_region ?_
   refine L_assign rfl rfl ?_
   refine RL_then ?_
   refine W_seq ?_
   refine W_seq ?_
   refine W_region ?_
   refine L_assign rfl rfl ?_
   refine RL_then ?_
   refine W_block ?_
   refine W_loop4 (fun (i : Nat) (v : Value) (M9 : Bks) (w : World) => [(0, .pointer (some ⟨BR, 0, none⟩)), (1, .int .i64 q), (8, v), (9, .int .i64 i)]) (fun (i : Nat) (v : Value) (M9 : Bks) (w : World) => w) (fun (i : Nat) (v : Value) (M9 : Bks) (w : World) => (i ≤ ks.length) ∧ (Bl w0 109 4 v (dropK (ks.take i) q).length (kcs (dropK (ks.take i) q)) M9) ∧ (HS w0 w ((rbs BR far (.slice an ze.length cn) M (.slice aK ks.length cK) MK ever ze ++ R) ++ M9))) (fun (i : Nat) (v : Value) (M9 : Bks) (w : World) => ks.length - i) (0) (.slice none 0 0) ([]) (w) (is := [0, 1, 8, 9]) rfl rfl ?_ ?_
   ·
    exact ⟨Nat.zero_le _, Bl.nil, hs⟩
   ·
    clear hs
    intro i v M9 w hI
    show W _ _ _ _ [(0, .pointer (some ⟨BR, 0, none⟩)), (1, .int .i64 q), (8, v), (9, .int .i64 i)] w
    obtain ⟨hi, hb, hs⟩ := hI
    have hsl := hbK.slm hs (fun p hp => List.mem_append_left _ (rbs_K hp))
    by_cases hlt : i < ks.length
    ·
     obtain ⟨k, hkd⟩ : ∃ k, k = ks.getD i kn0 := ⟨_, rfl⟩
     have hkat : CellsAt w ((aD aK).add (i * 4)) k.cells := by rw [hkd]; exact kcs_at hsl hlt
     have hst : dropK (ks.take (i + 1)) q = dropK (ks.take i) q ++ (if k.zone = q then [] else [k]) := by rw [take_kn hlt, dropK_snoc, ← hkd]
     have hol : (dropK (ks.take i) q).length ≤ i := Nat.le_trans (dropK_len ..) (by rw [List.length_take]; omega)
     by_cases hz : k.zone = q
     ·
      refine W_seq ?_
      refine W_seq ?_
      refine W_region ?_
      refine L_move rfl rfl ?_
      refine L_move rfl rfl ?_
      refine L_nilCheck rfl rfl ?_
      refine L_fieldAddr rfl (off := 2) Try.underlying107 rfl rfl Try.ti105 rfl ?_
      refine L_load rfl Try.one105 rfl (by exact HS.cellM hs (List.mem_append_left _ rbs_row) rfl) ?_
      refine L_len rfl Try.underlying105 rfl ?_
      first | refine L_lss rfl rfl rfl (dtrue (by omega)) ?_ | refine L_lss rfl rfl rfl (dfalse (by omega)) ?_ | refine L_lss rfl rfl rfl rfl ?_
      refine RL_then ?_
      refine W_if_true rfl ?_
      refine W_skip' ?_
      refine Nx_then ?_
      refine W_seq ?_
      refine W_block ?_
      refine W_seq ?_
      refine W_region ?_
      refine L_move rfl rfl ?_
      refine L_nilCheck rfl rfl ?_
      refine L_fieldAddr rfl (off := 2) Try.underlying107 rfl rfl Try.ti105 rfl ?_
      refine L_load rfl Try.one105 rfl (by exact HS.cellM hs (List.mem_append_left _ rbs_row) rfl) ?_
      refine L_move rfl rfl ?_
      refine L_idxN rfl Try.underlying105 Try.ti109 rfl rfl (by with_reducible first | exact natc_k _ | exact natc_a1 _ | exact natc_0 | exact natc_1 | exact natc_2 | exact natc_s1 _ (by omega) | exact natc_a2 _ | exact natc_add _ _ | exact natc_mul _ _ | exact natc (by omega)) (by omega) (hsl.ao (by rw [kcs_len]; omega)) ?_
      refine L_fieldAddr rfl (off := 0) Try.underlying109 rfl rfl Try.ti3 rfl ?_
      refine L_load rfl Try.one3 rfl (by exact hkat 0 _ rfl) ?_
      refine L_move rfl rfl ?_
      first | refine L_neq rfl rfl rfl (dtrue (by omega)) ?_ | refine L_neq rfl rfl rfl (dfalse (by omega)) ?_ | refine L_neq rfl rfl rfl rfl ?_
      refine RL_then ?_
      refine W_if_false rfl ?_
      refine W_skip' ?_
      refine Nx_block ?_
      refine Nx_then ?_
      refine W_region ?_
      refine L_move rfl rfl ?_
      first | refine L_add rfl rfl rfl (wrp_i64 (by omega)) ?_ | refine L_add rfl rfl rfl rfl ?_
      refine L_assign rfl rfl ?_
      refine RL_nil' ?_
      refine Nx_loopP (i + 1, v, M9, _) (is := [0, 1, 8, 9]) (I' := (fun (i : Nat) (v : Value) (M9 : Bks) (w : World) => (i ≤ ks.length) ∧ (Bl w0 109 4 v (dropK (ks.take i) q).length (kcs (dropK (ks.take i) q)) M9) ∧ (HS w0 w ((rbs BR far (.slice an ze.length cn) M (.slice aK ks.length cK) MK ever ze ++ R) ++ M9))) (i + 1) (v) (M9) (_)) rfl rfl rfl ?_ ?_
      ·
       refine ⟨by omega, ?_, hs⟩
       rw [hst, if_pos hz, List.append_nil]; exact hb
      ·
       omega
     ·
      skip
      refine W_seq ?_
      refine W_seq ?_
      refine W_region ?_
      refine L_move rfl rfl ?_
      refine L_move rfl rfl ?_
      refine L_nilCheck rfl rfl ?_
      refine L_fieldAddr rfl (off := 2) Try.underlying107 rfl rfl Try.ti105 rfl ?_
      refine L_load rfl Try.one105 rfl (by exact HS.cellM hs (List.mem_append_left _ rbs_row) rfl) ?_
      refine L_len rfl Try.underlying105 rfl ?_
      first | refine L_lss rfl rfl rfl (dtrue (by omega)) ?_ | refine L_lss rfl rfl rfl (dfalse (by omega)) ?_ | refine L_lss rfl rfl rfl rfl ?_
      refine RL_then ?_
      refine W_if_true rfl ?_
      refine W_skip' ?_
      refine Nx_then ?_
      refine W_seq ?_
      refine W_block ?_
      refine W_seq ?_
      refine W_region ?_
      refine L_move rfl rfl ?_
      refine L_nilCheck rfl rfl ?_
      refine L_fieldAddr rfl (off := 2) Try.underlying107 rfl rfl Try.ti105 rfl ?_
      refine L_load rfl Try.one105 rfl (by exact HS.cellM hs (List.mem_append_left _ rbs_row) rfl) ?_
      refine L_move rfl rfl ?_
      refine L_idxN rfl Try.underlying105 Try.ti109 rfl rfl (by with_reducible first | exact natc_k _ | exact natc_a1 _ | exact natc_0 | exact natc_1 | exact natc_2 | exact natc_s1 _ (by omega) | exact natc_a2 _ | exact natc_add _ _ | exact natc_mul _ _ | exact natc (by omega)) (by omega) (hsl.ao (by rw [kcs_len]; omega)) ?_
      refine L_fieldAddr rfl (off := 0) Try.underlying109 rfl rfl Try.ti3 rfl ?_
      refine L_load rfl Try.one3 rfl (by exact hkat 0 _ rfl) ?_
      refine L_move rfl rfl ?_
      first | refine L_neq rfl rfl rfl (dtrue (by omega)) ?_ | refine L_neq rfl rfl rfl (dfalse (by omega)) ?_ | refine L_neq rfl rfl rfl rfl ?_
      refine RL_then ?_
      refine W_if_true rfl ?_
      refine W_region ?_
      refine L_move rfl rfl ?_
      refine L_move rfl rfl ?_
      refine L_nilCheck rfl rfl ?_
      refine L_fieldAddr rfl (off := 2) Try.underlying107 rfl rfl Try.ti105 rfl ?_
      refine L_load rfl Try.one105 rfl (by exact HS.cellM hs (List.mem_append_left _ rbs_row) rfl) ?_
      refine L_move rfl rfl ?_
      refine L_idxN rfl Try.underlying105 Try.ti109 rfl rfl (by with_reducible first | exact natc_k _ | exact natc_a1 _ | exact natc_0 | exact natc_1 | exact natc_2 | exact natc_s1 _ (by omega) | exact natc_a2 _ | exact natc_add _ _ | exact natc_mul _ _ | exact natc (by omega)) (by omega) (hsl.ao (by rw [kcs_len]; omega)) ?_
      refine L_loadA rfl Try.agg109 Try.ti109 rfl (by exact hkat) ?_
      refine L_buildSlice rfl hs Try.underlying105 Try.ti109 rfl (by decide) rfl (by simp [Value.cells, Kn.cells]) ?_
      intro b70 w hb70 hnb70 hs
      skip
      have h0 : HS w0 w (((rbs BR far (.slice an ze.length cn) M (.slice aK ks.length cK) MK ever ze ++ R) ++ M9) ++ [(b70, Row 109 k.cells)]) := hs
      clear hs
      refine L_appendT (L := rbs BR far (.slice an ze.length cn) M (.slice aK ks.length cK) MK ever ze ++ R) (M := M9) rfl Try.underlying105 Try.ti109 rfl h0 hb70 hb rfl rfl rfl (Kn.one k) (by omega) (by omega) ?_
      intro v71 w M71 hs hb71
      refine L_assign rfl rfl ?_
      refine RL_nil' ?_
      refine Nx_block ?_
      refine Nx_then ?_
      refine W_region ?_
      refine L_move rfl rfl ?_
      first | refine L_add rfl rfl rfl (wrp_i64 (by omega)) ?_ | refine L_add rfl rfl rfl rfl ?_
      refine L_assign rfl rfl ?_
      refine RL_nil' ?_
      refine Nx_loopP (i + 1, v71, M71, _) (is := [0, 1, 8, 9]) (I' := (fun (i : Nat) (v : Value) (M9 : Bks) (w : World) => (i ≤ ks.length) ∧ (Bl w0 109 4 v (dropK (ks.take i) q).length (kcs (dropK (ks.take i) q)) M9) ∧ (HS w0 w ((rbs BR far (.slice an ze.length cn) M (.slice aK ks.length cK) MK ever ze ++ R) ++ M9))) (i + 1) (v71) (M71) (_)) rfl rfl rfl ?_ ?_
      ·
       refine ⟨by omega, ?_, hs⟩
       rw [hst, if_neg hz, List.length_append, kcs_app, show kcs [k] = k.cells by simp [kcs]]
       exact hb71
      ·
       omega
    ·
     obtain hin : i = ks.length := by omega
     rw [hin, List.take_of_length_le (Nat.le_refl _)] at hb
     obtain ⟨ak, ck, rfl, _⟩ := hb.slice
     refine W_seq ?_
     refine W_seq ?_
     refine W_region ?_
     refine L_move rfl rfl ?_
     refine L_move rfl rfl ?_
     refine L_nilCheck rfl rfl ?_
     refine L_fieldAddr rfl (off := 2) Try.underlying107 rfl rfl Try.ti105 rfl ?_
     refine L_load rfl Try.one105 rfl (by exact HS.cellM hs (List.mem_append_left _ rbs_row) rfl) ?_
     refine L_len rfl Try.underlying105 rfl ?_
     first | refine L_lss rfl rfl rfl (dtrue (by omega)) ?_ | refine L_lss rfl rfl rfl (dfalse (by omega)) ?_ | refine L_lss rfl rfl rfl rfl ?_
     refine RL_then ?_
     refine W_if_false rfl ?_
     refine W_exit' ?_
     refine Ex_then_exit ?_
     refine Ex_loop_exit ?_
     refine Ex_block_hit ?_
     refine Nx_then ?_
     refine W_seq ?_
     refine W_region ?_
     refine L_move rfl rfl ?_
     refine L_move rfl rfl ?_
     refine L_nilCheck rfl rfl ?_
     refine L_fieldAddr rfl (off := 2) Try.underlying107 rfl rfl Try.ti105 rfl ?_
     refine L_store hs (i := 0) rfl Try.ti105 rfl rfl (by first | rfl | exact add_lit0 _ _ | exact Addr.add_lit .. | (rw [add_add]; exact add_lit0 _ _)) (by simp) rfl ?_
     intro w hs
     try dsimp only [List.set_cons_succ, List.set_cons_zero, List.cons_append, List.nil_append] at hs
     refine RL_then ?_
     refine W_seq ?_
     refine W_region ?_
     refine L_assign rfl rfl ?_
     refine RL_then ?_
     refine W_ret' ?_
     refine Ex_done1 rfl rfl ?_
     have h1 : HS w0 w (((BR, Row 107 [.float .f64 far, .slice an ze.length cn, .slice ak (dropK ks q).length ck, .int .i64 ever]) :: ((M ++ (MK ++ zms ze)) ++ R)) ++ M9) := hs
     refine ⟨_, rfl, .inr ⟨at', hat, hp, hfirst, .slice an ze.length cn, M, .slice ak (dropK ks q).length ck, M9, rfl, ?_, ?_⟩⟩
     ·
      rw [← hzed]
      exact HS.dropR (M := MK) (HS.re h1 (fun c => by simp only [List.map_append, List.map_cons, List.map_nil, List.sum_append, List.sum_cons, List.sum_nil]; omega)) hbK.own
     ·
      rw [← hzed]
      exact hzs _ _ _ hb
 ·
  refine L_assign rfl rfl ?_
  refine RL_then ?_
  refine W_seq ?_
  refine W_seq ?_
  refine W_region ?_
  refine L_move rfl rfl ?_
  first | refine L_lss rfl rfl rfl (dtrue (by omega)) ?_ | refine L_lss rfl rfl rfl (dfalse (by omega)) ?_ | refine L_lss rfl rfl rfl rfl ?_
  refine RL_then ?_
  refine W_if_true rfl ?_
  refine W_seq ?_
  refine W_region ?_
  refine L_assign rfl rfl ?_
  refine RL_then ?_
  refine W_ret' ?_
  refine Ex_then_ret ?_
  refine Ex_done1 rfl rfl ?_
  exact ⟨_, rfl, .inl ⟨hq, rfl, hs⟩⟩
end Go.Proofs.Ytoiobncojfeoiaa
