/-
  A part of the proof: what functions that the statement reaches do, or a plain law on what they do. Each theorem holds under its own premises alone.
-/
import Derived.Test.YtihhloeakenfgaaTD8
namespace Go.Proofs.Ytihhloeakenfgaa
open Go Go.Lk
def SP3 (f : FuncId) (args : Array Value) (v : Value) : Prop := match f, args.toList with
  | 34, [.complex .f64 a b] => ∃ r, v = .float .f64 r ∧ cn r = fop .add (fop .mul a a) (fop .mul b b)
  | _, _ => False
theorem abs2H {w0 w : World} {L : List (Nat × Obj)} (hs : HS w0 w L) (a b : Nat) : Ret Try.prog 34 [.complex .f64 a b] w fun v w' => SP3 34 [.complex .f64 a b].toArray v ∧ HS w0 w' L :=
  Calls.mono (abs2_ok a b w) fun e w' => by
    rintro ⟨v, rfl, r, rfl, hs', h1⟩
    exact ⟨_, rfl, ⟨r, rfl, h1⟩, hs.nil hs'⟩
def PowR (zs : CL) (ps : List Nat) (q : Nat) : Prop := cn (ps.getD q 0) = fop .add (fop .mul (zs.getD q (0, 0)).1 (zs.getD q (0, 0)).1) (fop .mul (zs.getD q (0, 0)).2 (zs.getD q (0, 0)).2)
theorem powers_of (a : Option Addr) (k cp : Nat) (rows : List CL) (rvs : List Value) (w0 : World) (hr : RowsC w0 a rows rvs) (hk : rows.length = k) (hk2 : k ≤ 1000000) (hl : ∀ i, i < k → (rows.getD i []).length ≤ 1000000) :
    Ret Try.prog 25 [.slice a k cp] w0 fun v w' => ∃ Bo vs Ms, v = .slice (some ⟨Bo, 0, none⟩) k k ∧ HS w0 w' ((Bo, Row 44 vs) :: Ms) ∧ w0.heap.size ≤ Bo ∧ Own w0 Ms ∧ vs.length = k ∧ ∀ q, q < k → ∃ g ps, vs[q]? = some (.slice (some ⟨g, 0, none⟩) (rows.getD q []).length (rows.getD q []).length) ∧ (g, Row 25 (fl ps)) ∈ Ms ∧ ps.length = (rows.getD q []).length ∧ ∀ d, d < (rows.getD q []).length → PowR (rows.getD q []) ps d := by
  refine Ret.start fun w hs => ?_
  refine calls_of_W Try.func25 rfl rfl rfl ?_
  refine W_seq ?_
  refine W_region ?_
  refine L_assign rfl rfl ?_
  refine RL_then ?_
  refine W_seq ?_
  refine W_region ?_
  refine L_move rfl rfl ?_
  refine L_len rfl Try.underlying39 rfl ?_
  refine L_make1 (l := k) (c := k) rfl hs Try.underlying64 Try.ti44 rfl rfl rfl rfl (Nat.le_refl _) (by omega) (by omega) rfl ?_
  intro Bo w hBo hnBo hs
  replace hs : HS w0 w [(Bo, Row 44 (List.replicate k (.slice none 0 0)))] := hs
  refine L_assign rfl rfl ?_
  refine RL_then ?_
  refine W_seq ?_
  refine W_seq ?_
  refine W_region ?_
  refine L_move rfl rfl ?_
  refine L_len rfl Try.underlying39 rfl ?_
  refine L_move rfl rfl ?_
  refine RL_then ?_
  refine W_block ?_
  refine W_loop4 (fun (i : Nat) (vs : List Value) (Ms : List (Nat × Obj)) (w : World) => [(3, .slice (some ⟨Bo, 0, none⟩) k k), (11, .slice a k cp), (12, .int .i64 k), (13, .int .i64 i)]) (fun (i : Nat) (vs : List Value) (Ms : List (Nat × Obj)) (w : World) => w) (fun (i : Nat) (vs : List Value) (Ms : List (Nat × Obj)) (w : World) => (i ≤ k) ∧ (vs.length = k) ∧ (Own w0 Ms) ∧ (∀ q, q < i → ∃ g ps, vs[q]? = some (.slice (some ⟨g, 0, none⟩) (rows.getD q []).length (rows.getD q []).length) ∧ (g, Row 25 (fl ps)) ∈ Ms ∧ ps.length = (rows.getD q []).length ∧ ∀ d, d < (rows.getD q []).length → PowR (rows.getD q []) ps d) ∧ (HS w0 w ((Bo, Row 44 vs) :: Ms))) (fun (i : Nat) (vs : List Value) (Ms : List (Nat × Obj)) (w : World) => k - i) (0) (List.replicate k (.slice none 0 0)) ([]) (w) (is := [3, 11, 12, 13]) rfl rfl ?_ ?_
  · exact ⟨Nat.zero_le _, by simp, Own.nil, fun _ h => absurd h (Nat.not_lt_zero _), hs⟩
  · clear hs
    intro i vs Ms w hI
    show W _ _ _ _ [(3, .slice (some ⟨Bo, 0, none⟩) k k), (11, .slice a k cp), (12, .int .i64 k), (13, .int .i64 i)] w
    obtain ⟨hi, hvl, hOM, hv, hs⟩ := hI
    have hO : Own w0 ((Bo, Row 44 vs) :: Ms) := Own.cons hBo hOM
    by_cases hlt : i < k
    · obtain ⟨ai, ci, g1, g2, g3⟩ := hr.row i (by omega)
      have hli := hl i hlt
      obtain ⟨zs, hzs⟩ : ∃ zs, zs = rows.getD i [] := ⟨_, rfl⟩
      rw [← hzs] at g1 g2 g3 hli
      obtain ⟨n, hn⟩ : ∃ n, n = zs.length := ⟨_, rfl⟩
      rw [← hn] at g1 g2 hli
      have ha1 := hr.sl.ao (by rw [hr.len]; omega)
      refine W_seq ?_
      refine W_region ?_
      first | refine L_lss rfl rfl rfl (dtrue (by omega)) ?_ | refine L_lss rfl rfl rfl (dfalse (by omega)) ?_ | refine L_lss rfl rfl rfl rfl ?_
      refine RL_then ?_
      refine W_seq ?_
      refine W_if_true rfl ?_
      refine W_skip' ?_
      refine Nx_then ?_
      refine W_seq ?_
      refine W_block ?_
      refine W_seq ?_
      refine W_region ?_
      refine L_move rfl rfl ?_
      refine L_idx1 rfl Try.underlying39 Try.ti27 rfl rfl (by with_reducible first | exact natc_k _ | exact natc_a1 _ | exact natc_0 | exact natc_1 | exact natc_2 | exact natc_s1 _ (by omega) | exact natc_a2 _ | exact natc_add _ _ | exact natc_mul _ _ | exact natc (by omega)) (by omega) ha1 ?_
      refine L_load rfl Try.one27 rfl (by exact (hr.sl.old hs hO).get g1) ?_
      refine L_assign rfl rfl ?_
      refine L_assign rfl rfl ?_
      refine RL_then ?_
      refine W_seq ?_
      refine W_region ?_
      refine L_move rfl rfl ?_
      refine L_move rfl rfl ?_
      refine L_move rfl rfl ?_
      refine L_len rfl Try.underlying27 rfl ?_
      refine L_make1 (l := n) (c := n) rfl hs Try.underlying44 Try.ti25 rfl rfl rfl rfl (Nat.le_refl _) (by omega) (by omega) rfl ?_
      intro g w hg hng hs
      replace hs : HS w0 w ((Bo, Row 44 vs) :: (g, Row 25 (fl (List.replicate n 0))) :: Ms) := by
        refine HS.mem_perm (L := ((Bo, Row 44 vs) :: Ms) ++ [(g, Row 25 (fl (List.replicate n 0)))]) (by simpa [fl] using hs) (List.Perm.cons _ (List.perm_append_comm (l₂ := [_])))
      refine L_idx1 rfl Try.underlying64 Try.ti44 rfl rfl (by with_reducible first | exact natc_k _ | exact natc_a1 _ | exact natc_0 | exact natc_1 | exact natc_2 | exact natc_s1 _ (by omega) | exact natc_a2 _ | exact natc_add _ _ | exact natc_mul _ _ | exact natc (by omega)) (by omega) rfl ?_
      refine L_store hs (i := 0) rfl Try.ti44 rfl rfl (by first | rfl | exact add_lit0 _ _ | exact Addr.add_lit ..) (by omega) rfl ?_
      intro w hs
      try dsimp only [List.set_cons_succ, List.set_cons_zero, List.cons_append, List.nil_append] at hs
      refine RL_then ?_
      refine W_seq ?_
      refine W_region ?_
      refine L_move rfl rfl ?_
      refine L_len rfl Try.underlying27 rfl ?_
      refine L_move rfl rfl ?_
      refine RL_then ?_
      refine W_block ?_
      have hvi : (vs.set i (.slice (some ⟨g, 0, none⟩) n n))[i]? = some (.slice (some ⟨g, 0, none⟩) n n) := List.getElem?_set_self (by omega)
      refine W_loop3 (fun (q : Nat) (ps : List Nat) (w : World) => [(3, .slice (some ⟨Bo, 0, none⟩) k k), (4, .int .i64 i), (11, .slice a k cp), (12, .int .i64 k), (13, .int .i64 i), (24, .slice ai n ci), (25, .int .i64 n), (26, .int .i64 q)]) (fun (q : Nat) (ps : List Nat) (w : World) => w) (fun (q : Nat) (ps : List Nat) (w : World) => (q ≤ n) ∧ (ps.length = n) ∧ (∀ d, d < q → PowR zs ps d) ∧ (HS w0 w ((Bo, Row 44 (vs.set i (.slice (some ⟨g, 0, none⟩) n n))) :: (g, Row 25 (fl ps)) :: Ms))) (fun (q : Nat) (ps : List Nat) (w : World) => n - q) (0) (List.replicate n 0) (w) (is := [3, 4, 11, 12, 13, 24, 25, 26]) rfl rfl ?_ ?_
      · exact ⟨Nat.zero_le _, by simp, fun _ h => absurd h (Nat.not_lt_zero _), hs⟩
      · clear hs
        intro q ps w hI
        show W _ _ _ _ [(3, .slice (some ⟨Bo, 0, none⟩) k k), (4, .int .i64 i), (11, .slice a k cp), (12, .int .i64 k), (13, .int .i64 i), (24, .slice ai n ci), (25, .int .i64 n), (26, .int .i64 q)] w
        obtain ⟨hq, hpl, hp, hs⟩ := hI
        have hO2 : Own w0 ((Bo, Row 44 (vs.set i (.slice (some ⟨g, 0, none⟩) n n))) :: (g, Row 25 (fl ps)) :: Ms) := Own.cons hBo (Own.cons hg hOM)
        by_cases hlt2 : q < n
        · have ha2 := g3.ao (by rw [cl_length]; omega)
          refine W_seq ?_
          refine W_region ?_
          first | refine L_lss rfl rfl rfl (dtrue (by omega)) ?_ | refine L_lss rfl rfl rfl (dfalse (by omega)) ?_ | refine L_lss rfl rfl rfl rfl ?_
          refine RL_then ?_
          refine W_seq ?_
          refine W_if_true rfl ?_
          refine W_skip' ?_
          refine Nx_then ?_
          refine W_seq ?_
          refine W_block ?_
          refine W_seq ?_
          refine W_region ?_
          refine L_move rfl rfl ?_
          refine L_idx1 rfl Try.underlying27 Try.ti28 rfl rfl (by with_reducible first | exact natc_k _ | exact natc_a1 _ | exact natc_0 | exact natc_1 | exact natc_2 | exact natc_s1 _ (by omega) | exact natc_a2 _ | exact natc_add _ _ | exact natc_mul _ _ | exact natc (by omega)) (by omega) ha2 ?_
          refine L_load rfl Try.one28 rfl (by exact (g3.old hs hO2).get (cl_get (by omega))) ?_
          refine L_assign rfl rfl ?_
          refine L_assign rfl rfl ?_
          refine RL_then ?_
          refine W_pht [0, 1, 2, 4, 5] [3, 6] [7, 8] SP3 Try.mixed (by kernel_rfl) (fun _ _ _ _ _ h => h) hs ?_
          refine PL_val rfl (fun w => R_move rfl) ?_
          refine PL_val rfl (fun w => R_move rfl) ?_
          refine PL_val rfl (fun w => R_idx1 Try.underlying64 Try.ti44 rfl rfl (by with_reducible first | exact natc_k _ | exact natc_a1 _ | exact natc_0 | exact natc_1 | exact natc_2 | exact natc_s1 _ (by omega) | exact natc_a2 _ | exact natc_add _ _ | exact natc_mul _ _ | exact natc (by omega)) (by omega) rfl) ?_
          refine PL_val rfl (fun w => R_move rfl) ?_
          refine PL_val rfl (fun w => R_move rfl) ?_
          refine PL_end ?_
          refine HL_val rfl (fun w hs => R_load Try.one44 rfl (by exact hs.cellA (i := 0) rfl hvi)) ?_
          refine HL_call rfl Try.fun34 rfl (fun w hs => abs2H hs _ _) ?_
          rintro _ ⟨r, rfl, hr37⟩
          refine HL_tail ?_
          intro w hs
          refine L_idx1 rfl Try.underlying44 Try.ti25 rfl rfl (by with_reducible first | exact natc_k _ | exact natc_a1 _ | exact natc_0 | exact natc_1 | exact natc_2 | exact natc_s1 _ (by omega) | exact natc_a2 _ | exact natc_add _ _ | exact natc_mul _ _ | exact natc (by omega)) (by omega) rfl ?_
          refine L_store hs (i := 1) rfl Try.ti25 rfl rfl (by first | rfl | exact add_lit0 _ _ | exact Addr.add_lit ..) (by rw [fl_length]; omega) rfl ?_
          intro w hs
          try dsimp only [List.set_cons_succ, List.set_cons_zero, List.cons_append, List.nil_append] at hs
          refine RL_nil' ?_
          refine Nx_block ?_
          refine Nx_then ?_
          refine W_region ?_
          first | refine L_add rfl rfl rfl (wrp_i64 (by omega)) ?_ | refine L_add rfl rfl rfl rfl ?_
          refine L_move rfl rfl ?_
          refine RL_nil' ?_
          rw [fl_set1] at hs
          refine Nx_loopP (q + 1, ps.set q r, _) (is := [3, 4, 11, 12, 13, 24, 25, 26]) (I' := (fun (q : Nat) (ps : List Nat) (w : World) => (q ≤ n) ∧ (ps.length = n) ∧ (∀ d, d < q → PowR zs ps d) ∧ (HS w0 w ((Bo, Row 44 (vs.set i (.slice (some ⟨g, 0, none⟩) n n))) :: (g, Row 25 (fl ps)) :: Ms))) (q + 1) (ps.set q r) (_)) rfl rfl rfl ?_ ?_
          · refine ⟨by omega, by simp [hpl], fun d hd => ?_, hs⟩
            unfold PowR
            rw [ngset (by omega)]
            by_cases hdq : d = q
            · rw [if_pos hdq, hdq]; exact hr37
            · rw [if_neg hdq]; exact hp d (by omega)
          · omega
        · obtain rfl : n = q := by omega
          refine W_seq ?_
          refine W_region ?_
          first | refine L_lss rfl rfl rfl (dtrue (by omega)) ?_ | refine L_lss rfl rfl rfl (dfalse (by omega)) ?_ | refine L_lss rfl rfl rfl rfl ?_
          refine RL_then ?_
          refine W_seq ?_
          refine W_if_false rfl ?_
          refine W_exit' ?_
          refine Ex_then_exit ?_
          refine Ex_loop_exit ?_
          refine Ex_block_hit ?_
          refine Nx_block ?_
          refine Nx_then ?_
          refine W_region ?_
          first | refine L_add rfl rfl rfl (wrp_i64 (by omega)) ?_ | refine L_add rfl rfl rfl rfl ?_
          refine L_move rfl rfl ?_
          refine RL_nil' ?_
          refine Nx_loopP (i + 1, vs.set i (.slice (some ⟨g, 0, none⟩) n n), (g, Row 25 (fl ps)) :: Ms, _) (is := [3, 11, 12, 13]) (I' := (fun (i : Nat) (vs : List Value) (Ms : List (Nat × Obj)) (w : World) => (i ≤ k) ∧ (vs.length = k) ∧ (Own w0 Ms) ∧ (∀ q, q < i → ∃ g ps, vs[q]? = some (.slice (some ⟨g, 0, none⟩) (rows.getD q []).length (rows.getD q []).length) ∧ (g, Row 25 (fl ps)) ∈ Ms ∧ ps.length = (rows.getD q []).length ∧ ∀ d, d < (rows.getD q []).length → PowR (rows.getD q []) ps d) ∧ (HS w0 w ((Bo, Row 44 vs) :: Ms))) (i + 1) (vs.set i (.slice (some ⟨g, 0, none⟩) n n)) ((g, Row 25 (fl ps)) :: Ms) (_)) rfl rfl rfl ?_ ?_
          · refine ⟨by omega, by simp [hvl], Own.cons hg hOM, fun q hq => ?_, hs⟩
            by_cases hqi : q = i
            · subst hqi
              rw [← hzs, ← hn]
              exact ⟨g, ps, hvi, List.mem_cons_self .., hpl, hp⟩
            · obtain ⟨g', ps', e1, e2, e3, e4⟩ := hv q (by omega)
              exact ⟨g', ps', by rw [List.getElem?_set_ne (Ne.symm hqi)]; exact e1, List.mem_cons_of_mem _ e2, e3, e4⟩
          · omega
    · obtain rfl : k = i := by omega
      refine W_seq ?_
      refine W_region ?_
      first | refine L_lss rfl rfl rfl (dtrue (by omega)) ?_ | refine L_lss rfl rfl rfl (dfalse (by omega)) ?_ | refine L_lss rfl rfl rfl rfl ?_
      refine RL_then ?_
      refine W_seq ?_
      refine W_if_false rfl ?_
      refine W_exit' ?_
      refine Ex_then_exit ?_
      refine Ex_loop_exit ?_
      refine Ex_block_hit ?_
      refine Nx_then ?_
      refine W_seq ?_
      refine W_region ?_
      refine L_move rfl rfl ?_
      refine L_assign rfl rfl ?_
      refine RL_then ?_
      refine W_ret' ?_
      refine Ex_done1 rfl rfl ?_
      exact ⟨_, rfl, Bo, vs, Ms, rfl, hs, hBo, hOM, hvl, hv⟩
end Go.Proofs.Ytihhloeakenfgaa
