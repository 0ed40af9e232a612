/-
  A part of the proof: what functions that the statement reaches do, or a plain law on what they do. Each theorem holds under its own premises alone.
-/
import Derived.Test.YtcfdmenmlemahaaTRH
namespace Go.Proofs.Ytcfdmenmlemahaa
open Go Go.Lk Go.Pr
theorem perm_of {α : Type} {l m : List α} (h : ∀ c : α → Nat, (l.map c).sum = (m.map c).sum) : l.Perm m := by
  haveI : DecidableEq α := fun a b => Classical.propDecidable (a = b)
  refine List.perm_iff_count.2 fun a => ?_
  have e : ∀ l : List α, l.count a = (l.map fun x => if x = a then 1 else 0).sum := fun l => by
    induction l with
    | nil => rfl
    | cons x l ih => rw [List.count_cons, ih, List.map_cons, List.sum_cons, Nat.add_comm]; simp
  rw [e, e]
  exact h _
theorem nodup_sep {A B : List (Nat × Obj)} (h : ((A ++ B).map (·.1)).Nodup) {b : Nat} {o : Obj} (hb : (b, o) ∈ B) : b ∉ A.map (·.1) := fun hm => by
  rw [List.map_append, List.nodup_append] at h
  exact h.2.2 b hm b (List.mem_map.2 ⟨_, hb, rfl⟩) rfl
/-- a square's costs: rows that are told, then noughts -/
def sqC (rows : List (List Int)) (r j : Nat) : Int := if r < rows.length then el rows r j else 0
theorem rep_snoc {n : Nat} {x : Int} : il (List.replicate n x) ++ [.int .i64 x] = il (List.replicate (n + 1) x) := by rw [il_snoc, ← List.replicate_succ']
structure SqSt where
  vC : Value
  vU : Value
  vV : Value
  vM : Value
  vR : Value
  vs : List Value
  rs : List (List Int)
  Mo : List (Nat × Obj)
  Ms : List (Nat × Obj)
  MU : List (Nat × Obj)
  MV : List (Nat × Obj)
  MM : List (Nat × Obj)
  MR : List (Nat × Obj)
set_option maxHeartbeats 16000000 in
theorem square_ok (a : Option Addr) (k cp n : Nat) (rows : List (List Int)) (rvs : List Value) (w0 : World) (hr : RowsI w0 a rows rvs) (hk : rows.length = k) (h1 : 1 ≤ n) (hn2 : n ≤ 512) (hw : ∀ i, i < k → (rows.getD i []).length = n)
    (hC : ∀ r j, r < n → j < n → 0 ≤ sqC rows r j ∧ sqC rows r j ≤ 4503599627370496) :
    Ret Try.prog 28 [.slice a k cp, .int .i64 n] w0 fun v w' => ∃ (y : Ly) (U V M R : List Int), v = .pointer (some ⟨y.B, 0, none⟩) ∧ HS w0 w' (y.L U V M R) ∧ Own w0 (y.L U V M R) ∧ RdS w' y n (sqC rows) ∧ U.length = n ∧ V.length = n ∧ M.length = n ∧ R.length = n ∧ Sq n (sqC rows) n (gi R) (gi U) (gi V) ∧ SqM n n (gi R) (gi M) ∧ (∀ r, r < n → 0 ≤ gi U r ∧ gi U r ≤ BB) ∧ ∀ j, j < n → -BB ≤ gi V j ∧ gi V j ≤ 0 := by
  refine Ret.start fun w hs => ?_
  have hrl := hr.len
  refine calls_of_W Try.func28 rfl rfl rfl ?_
  refine W_seq ?_
  refine W_region ?_
  refine L_assign rfl rfl ?_
  refine RL_then ?_
  refine W_seq ?_
  refine W_region ?_
  refine L_move rfl rfl ?_
  refine L_build rfl rfl (Pl.built Try.pl56 rfl) ?_
  refine L_box rfl hs rfl ?_
  intro b12 w hb12 hnb12 hs
  try dsimp only [List.set_cons_succ, List.set_cons_zero, List.cons_append, List.nil_append] at hs
  refine L_assign rfl rfl ?_
  refine RL_then ?_
  refine W_seq ?_
  refine W_seq ?_
  refine W_region ?_
  refine L_assign rfl rfl ?_
  refine RL_then ?_
  refine W_block ?_
  have hOB : ∀ {o : Obj} {L : List (Nat × Obj)}, Own w0 L → Own w0 ((b12, o) :: L) := fun h => Own.cons hb12 h
  replace hs : HS w0 w [(b12, Row 56 [.int .i64 n, .slice none 0 0, .slice none 0 0, .slice none 0 0, .slice none 0 0, .slice none 0 0])] := hs
  have hlen6 : ∀ i, i < k → (rows.getD i []).length ≤ 1000000 := fun i hi => by rw [hw i hi]; omega
  refine W_loop3 (fun (i : Nat) (s : SqSt) (w : World) => [(0, .slice a k cp), (1, .int .i64 n), (5, .pointer (some ⟨b12, 0, none⟩)), (6, .int .i64 i)]) (fun (i : Nat) (s : SqSt) (w : World) => w) (fun (i : Nat) (s : SqSt) (w : World) => (i ≤ n) ∧ (HS w0 w ((b12, Row 56 [.int .i64 n, s.vC, s.vU, s.vV, s.vM, s.vR]) :: (s.Mo ++ (s.Ms ++ (s.MU ++ (s.MV ++ (s.MM ++ s.MR))))))) ∧ (Bl w0 38 1 s.vC i s.vs s.Mo) ∧ (RB (pB w0) s.vs s.rs s.Ms) ∧ (s.rs.length = i) ∧ (∀ r, r < i → (s.rs.getD r []).length = n ∧ ∀ j, j < n → el s.rs r j = sqC rows r j) ∧ (Bl w0 2 1 s.vU i (il (List.replicate i 0)) s.MU) ∧ (Bl w0 2 1 s.vV i (il (List.replicate i 0)) s.MV) ∧ (Bl w0 3 1 s.vM i (il (List.replicate i (-1))) s.MM) ∧ (Bl w0 3 1 s.vR i (il (List.replicate i (-1))) s.MR)) (fun (i : Nat) (s : SqSt) (w : World) => n - i) (0) (⟨.slice none 0 0, .slice none 0 0, .slice none 0 0, .slice none 0 0, .slice none 0 0, [], [], [], [], [], [], [], []⟩) (w) (is := [0, 1, 5, 6]) rfl rfl ?_ ?_
  · exact ⟨Nat.zero_le _, hs, Bl.nil, .nil, rfl, fun _ h => absurd h (Nat.not_lt_zero _), Bl.nil, Bl.nil, Bl.nil, Bl.nil⟩
  · clear hs
    intro i s w hI
    show W _ _ _ _ [(0, .slice a k cp), (1, .int .i64 n), (5, .pointer (some ⟨b12, 0, none⟩)), (6, .int .i64 i)] w
    obtain ⟨hi, hs, hbC, hrb, hrl2, hrs, hbU, hbV, hbM, hbR⟩ := hI
    have hOall : Own w0 ((b12, Row 56 [.int .i64 n, s.vC, s.vU, s.vV, s.vM, s.vR]) :: (s.Mo ++ (s.Ms ++ (s.MU ++ (s.MV ++ (s.MM ++ s.MR)))))) := hOB (hbC.own.app (hrb.own.app (hbU.own.app (hbV.own.app (hbM.own.app hbR.own)))))
    by_cases hlt : i < n
    · refine W_seq ?_
      refine W_seq ?_
      refine W_region ?_
      refine L_move rfl rfl ?_
      refine L_move rfl rfl ?_
      first | refine L_lss rfl rfl rfl (dtrue (by omega)) ?_ | refine L_lss rfl rfl rfl (dfalse (by omega)) ?_ | refine L_lss rfl rfl rfl rfl ?_
      refine RL_then ?_
      refine W_if_true rfl ?_
      refine W_skip' ?_
      refine Nx_then ?_
      refine W_seq ?_
      refine W_block ?_
      refine W_seq ?_
      refine W_region ?_
      refine L_move rfl rfl ?_
      refine L_make1 (c := n) rfl hs Try.underlying38 Try.ti2 rfl rfl rfl rfl (Nat.le_refl _) (by omega) (by omega) rfl ?_
      intro g w hg _ hs
      rw [il_rep] at hs
      replace hs : HS w0 w ((g, Row 2 (il (List.replicate n 0))) :: ((b12, Row 56 [.int .i64 n, s.vC, s.vU, s.vV, s.vM, s.vR]) :: (s.Mo ++ (s.Ms ++ (s.MU ++ (s.MV ++ (s.MM ++ s.MR))))))) := hs.mem_perm (List.perm_append_comm (l₂ := [_]))
      have hOg : ∀ {o : Obj}, Own w0 ((g, o) :: ((b12, Row 56 [.int .i64 n, s.vC, s.vU, s.vV, s.vM, s.vR]) :: (s.Mo ++ (s.Ms ++ (s.MU ++ (s.MV ++ (s.MM ++ s.MR))))))) := Own.cons hg hOall
      refine L_assign rfl rfl ?_
      refine RL_then ?_
      refine W_seq ?_
      refine W_seq ?_
      refine W_region ?_
      refine L_assign rfl rfl ?_
      refine RL_then ?_
      refine W_cut2 (fun (T : List Int) (w : World) => [(0, .slice a k cp), (1, .int .i64 n), (5, .pointer (some ⟨b12, 0, none⟩)), (6, .int .i64 i), (7, .slice (some ⟨g, 0, none⟩) n n)]) (fun (T : List Int) (w : World) => w) (fun (T : List Int) (w : World) => (T.length = n) ∧ (∀ j, j < n → gi T j = sqC rows i j) ∧ (HS w0 w ((g, Row 2 (il T)) :: ((b12, Row 56 [.int .i64 n, s.vC, s.vU, s.vV, s.vM, s.vR]) :: (s.Mo ++ (s.Ms ++ (s.MU ++ (s.MV ++ (s.MM ++ s.MR))))))))) ?_ ?_
      · by_cases hik : i < k
        · obtain ⟨ai, ci, g1, g2, g3, g4⟩ := hr.row i (by omega)
          rw [hw i hik] at g1 g2 g3
          have hwi := hw i hik
          refine W_block ?_
          refine W_loop3 (fun (j : Nat) (T : List Int) (w : World) => [(0, .slice a k cp), (1, .int .i64 n), (5, .pointer (some ⟨b12, 0, none⟩)), (6, .int .i64 i), (7, .slice (some ⟨g, 0, none⟩) n n), (8, .int .i64 j)]) (fun (j : Nat) (T : List Int) (w : World) => w) (fun (j : Nat) (T : List Int) (w : World) => (j ≤ n) ∧ (T.length = n) ∧ (∀ z, z < j → gi T z = sqC rows i z) ∧ (HS w0 w ((g, Row 2 (il T)) :: ((b12, Row 56 [.int .i64 n, s.vC, s.vU, s.vV, s.vM, s.vR]) :: (s.Mo ++ (s.Ms ++ (s.MU ++ (s.MV ++ (s.MM ++ s.MR))))))))) (fun (j : Nat) (T : List Int) (w : World) => n - j) (0) (List.replicate n 0) (w) (is := [0, 1, 5, 6, 7, 8]) rfl rfl ?_ ?_
          · exact ⟨Nat.zero_le _, by simp, fun _ h => absurd h (Nat.not_lt_zero _), hs⟩
          · clear hs
            intro j T w hI
            show W _ _ _ _ [(0, .slice a k cp), (1, .int .i64 n), (5, .pointer (some ⟨b12, 0, none⟩)), (6, .int .i64 i), (7, .slice (some ⟨g, 0, none⟩) n n), (8, .int .i64 j)] w
            obtain ⟨hj, hTl, hT, hs⟩ := hI
            by_cases hlt2 : j < n
            · skip
              refine W_seq ?_
              refine W_seq ?_
              refine W_region ?_
              refine L_move rfl rfl ?_
              refine L_move rfl rfl ?_
              first | refine L_lss rfl rfl rfl (dtrue (by omega)) ?_ | refine L_lss rfl rfl rfl (dfalse (by omega)) ?_ | refine L_lss rfl rfl rfl rfl ?_
              refine L_move rfl rfl ?_
              first | (refine RL_want rfl rfl ?_; refine L_move rfl rfl ?_) | refine RL_skip rfl rfl rfl rfl ?_ | refine RL_skipU rfl rfl rfl ?_
              first | (refine RL_want rfl rfl ?_; refine L_move rfl rfl ?_) | refine RL_skip rfl rfl rfl rfl ?_ | refine RL_skipU rfl rfl rfl ?_
              first | (refine RL_want rfl rfl ?_; refine L_len rfl Try.underlying22 rfl ?_) | refine RL_skip rfl rfl rfl rfl ?_ | refine RL_skipU rfl rfl rfl ?_
              first | (refine RL_want rfl rfl ?_; (first | refine L_lss rfl rfl rfl (dtrue (by omega)) ?_ | refine L_lss rfl rfl rfl (dfalse (by omega)) ?_ | refine L_lss rfl rfl rfl rfl ?_)) | refine RL_skip rfl rfl rfl rfl ?_ | refine RL_skipU rfl rfl rfl ?_
              first | refine L_pick_t rfl rfl rfl ?_ | refine L_pick_f rfl rfl rfl ?_
              refine RL_then ?_
              refine W_if_true rfl ?_
              refine W_skip' ?_
              refine Nx_then ?_
              refine W_seq ?_
              refine W_block ?_
              refine W_region ?_
              refine L_move rfl rfl ?_
              refine L_move rfl rfl ?_
              refine L_move rfl rfl ?_
              refine L_move rfl rfl ?_
              refine L_idx1 rfl Try.underlying22 Try.ti38 rfl rfl (by with_reducible first | exact natc_k _ | exact natc_a1 _ | exact natc_0 | exact natc_1 | exact natc_2 | exact natc_s1 _ (by omega) | exact natc_a2 _ | exact natc_add _ _ | exact natc_mul _ _ | exact natc (by omega)) (by omega) (hr.sl.ao (by omega)) ?_
              refine L_load rfl Try.one38 rfl (by exact (hr.sl.old hs hOg).get g1) ?_
              refine L_move rfl rfl ?_
              refine L_idx1 rfl Try.underlying38 Try.ti2 rfl rfl (by with_reducible first | exact natc_k _ | exact natc_a1 _ | exact natc_0 | exact natc_1 | exact natc_2 | exact natc_s1 _ (by omega) | exact natc_a2 _ | exact natc_add _ _ | exact natc_mul _ _ | exact natc (by omega)) (by omega) (g4.ao (by rw [il_length]; omega)) ?_
              refine L_load rfl Try.one2 rfl (by exact (g4.old hs hOg).get (il_get (by omega))) ?_
              refine L_idx1 rfl Try.underlying38 Try.ti2 rfl rfl (by with_reducible first | exact natc_k _ | exact natc_a1 _ | exact natc_0 | exact natc_1 | exact natc_2 | exact natc_s1 _ (by omega) | exact natc_a2 _ | exact natc_add _ _ | exact natc_mul _ _ | exact natc (by omega)) (by omega) rfl ?_
              refine L_store hs (i := 0) rfl Try.ti2 rfl rfl (by first | rfl | exact add_lit0 _ _ | exact Addr.add_lit ..) (by first | omega | (simp; done) | (simp; omega)) rfl ?_
              intro w hs
              try dsimp only [List.set_cons_succ, List.set_cons_zero, List.cons_append, List.nil_append] at hs
              refine RL_nil' ?_
              refine Nx_block ?_
              refine Nx_then ?_
              refine W_region ?_
              refine L_move rfl rfl ?_
              first | refine L_add rfl rfl rfl (wrp_i64 (by omega)) ?_ | refine L_add rfl rfl rfl rfl ?_
              refine L_assign rfl rfl ?_
              refine RL_nil' ?_
              rw [il_set] at hs
              refine Nx_loopP (j + 1, T.set j ((rows.getD i []).getD j 0), w) (is := [0, 1, 5, 6, 7, 8]) (I' := (fun (j : Nat) (T : List Int) (w : World) => (j ≤ n) ∧ (T.length = n) ∧ (∀ z, z < j → gi T z = sqC rows i z) ∧ (HS w0 w ((g, Row 2 (il T)) :: ((b12, Row 56 [.int .i64 n, s.vC, s.vU, s.vV, s.vM, s.vR]) :: (s.Mo ++ (s.Ms ++ (s.MU ++ (s.MV ++ (s.MM ++ s.MR))))))))) (j + 1) (T.set j ((rows.getD i []).getD j 0)) (w)) rfl rfl rfl ?_ ?_
              · refine ⟨by omega, by simp [hTl], fun z hz => ?_, hs⟩
                show (T.set j _).getD z 0 = _
                rw [gset (by omega)]
                by_cases hzj : z = j
                · rw [if_pos hzj, hzj]; unfold sqC; rw [if_pos (by omega)]
                · rw [if_neg hzj]; exact hT z (by omega)
              · omega
            · obtain rfl : n = j := by omega
              refine W_seq ?_
              refine W_seq ?_
              refine W_region ?_
              refine L_move rfl rfl ?_
              refine L_move rfl rfl ?_
              first | refine L_lss rfl rfl rfl (dtrue (by omega)) ?_ | refine L_lss rfl rfl rfl (dfalse (by omega)) ?_ | refine L_lss rfl rfl rfl rfl ?_
              refine L_move rfl rfl ?_
              first | (refine RL_want rfl rfl ?_; refine L_move rfl rfl ?_) | refine RL_skip rfl rfl rfl rfl ?_ | refine RL_skipU rfl rfl rfl ?_
              first | (refine RL_want rfl rfl ?_; refine L_move rfl rfl ?_) | refine RL_skip rfl rfl rfl rfl ?_ | refine RL_skipU rfl rfl rfl ?_
              first | (refine RL_want rfl rfl ?_; refine L_len rfl Try.underlying22 rfl ?_) | refine RL_skip rfl rfl rfl rfl ?_ | refine RL_skipU rfl rfl rfl ?_
              first | (refine RL_want rfl rfl ?_; (first | refine L_lss rfl rfl rfl (dtrue (by omega)) ?_ | refine L_lss rfl rfl rfl (dfalse (by omega)) ?_ | refine L_lss rfl rfl rfl rfl ?_)) | refine RL_skip rfl rfl rfl rfl ?_ | refine RL_skipU rfl rfl rfl ?_
              first | refine L_pick_t rfl rfl rfl ?_ | refine L_pick_f rfl rfl rfl ?_
              refine RL_then ?_
              refine W_if_false rfl ?_
              refine W_exit' ?_
              refine Ex_then_exit ?_
              refine Ex_loop_exit ?_
              refine Ex_block_hit ?_
              refine Nx_cutP (T, w) (is := [0, 1, 5, 6, 7]) (I' := (fun (T : List Int) (w : World) => (T.length = n) ∧ (∀ j, j < n → gi T j = sqC rows i j) ∧ (HS w0 w ((g, Row 2 (il T)) :: ((b12, Row 56 [.int .i64 n, s.vC, s.vU, s.vV, s.vM, s.vR]) :: (s.Mo ++ (s.Ms ++ (s.MU ++ (s.MV ++ (s.MM ++ s.MR))))))))) (T) (w)) rfl rfl rfl ?_
              exact ⟨hTl, hT, hs⟩
        · refine W_block ?_
          refine W_loop1 (fun (w : World) => [(0, .slice a k cp), (1, .int .i64 n), (5, .pointer (some ⟨b12, 0, none⟩)), (6, .int .i64 i), (7, .slice (some ⟨g, 0, none⟩) n n), (8, .int .i64 0)]) (fun (w : World) => w) (fun (w : World) => (HS w0 w ((g, Row 2 (il (List.replicate n 0))) :: ((b12, Row 56 [.int .i64 n, s.vC, s.vU, s.vV, s.vM, s.vR]) :: (s.Mo ++ (s.Ms ++ (s.MU ++ (s.MV ++ (s.MM ++ s.MR))))))))) (fun (w : World) => 0) (w) (is := [0, 1, 5, 6, 7, 8]) rfl rfl ?_ ?_
          · exact hs
          · clear hs
            intro w hI
            show W _ _ _ _ [(0, .slice a k cp), (1, .int .i64 n), (5, .pointer (some ⟨b12, 0, none⟩)), (6, .int .i64 i), (7, .slice (some ⟨g, 0, none⟩) n n), (8, .int .i64 0)] w
            have hs := hI
            refine W_seq ?_
            refine W_seq ?_
            refine W_region ?_
            refine L_move rfl rfl ?_
            refine L_move rfl rfl ?_
            first | refine L_lss rfl rfl rfl (dtrue (by omega)) ?_ | refine L_lss rfl rfl rfl (dfalse (by omega)) ?_ | refine L_lss rfl rfl rfl rfl ?_
            refine L_move rfl rfl ?_
            first | (refine RL_want rfl rfl ?_; refine L_move rfl rfl ?_) | refine RL_skip rfl rfl rfl rfl ?_ | refine RL_skipU rfl rfl rfl ?_
            first | (refine RL_want rfl rfl ?_; refine L_move rfl rfl ?_) | refine RL_skip rfl rfl rfl rfl ?_ | refine RL_skipU rfl rfl rfl ?_
            first | (refine RL_want rfl rfl ?_; refine L_len rfl Try.underlying22 rfl ?_) | refine RL_skip rfl rfl rfl rfl ?_ | refine RL_skipU rfl rfl rfl ?_
            first | (refine RL_want rfl rfl ?_; (first | refine L_lss rfl rfl rfl (dtrue (by omega)) ?_ | refine L_lss rfl rfl rfl (dfalse (by omega)) ?_ | refine L_lss rfl rfl rfl rfl ?_)) | refine RL_skip rfl rfl rfl rfl ?_ | refine RL_skipU rfl rfl rfl ?_
            first | refine L_pick_t rfl rfl rfl ?_ | refine L_pick_f rfl rfl rfl ?_
            refine RL_then ?_
            refine W_if_false rfl ?_
            refine W_exit' ?_
            refine Ex_then_exit ?_
            refine Ex_loop_exit ?_
            refine Ex_block_hit ?_
            refine Nx_cutP (List.replicate n 0, w) (is := [0, 1, 5, 6, 7]) (I' := (fun (T : List Int) (w : World) => (T.length = n) ∧ (∀ j, j < n → gi T j = sqC rows i j) ∧ (HS w0 w ((g, Row 2 (il T)) :: ((b12, Row 56 [.int .i64 n, s.vC, s.vU, s.vV, s.vM, s.vR]) :: (s.Mo ++ (s.Ms ++ (s.MU ++ (s.MV ++ (s.MM ++ s.MR))))))))) (List.replicate n 0) (w)) rfl rfl rfl ?_
            exact ⟨by simp, fun j _ => by rw [grep0]; unfold sqC; rw [if_neg (by omega)], hs⟩
      · clear hs
        intro T w hI
        show W _ _ _ _ [(0, .slice a k cp), (1, .int .i64 n), (5, .pointer (some ⟨b12, 0, none⟩)), (6, .int .i64 i), (7, .slice (some ⟨g, 0, none⟩) n n)] w
        obtain ⟨hTl, hT, hs⟩ := hI
        obtain ⟨vC, vU, vV, vM, vR, vs, rs, Mo, Ms, MU, MV, MM, MR⟩ := s
        dsimp only at hs hbC hrb hrl2 hrs hbU hbV hbM hbR
        clear hOall hOg
        -- the rows
        replace hs : HS w0 w (((b12, Row 56 [.int .i64 n, vC, vU, vV, vM, vR]) :: (Ms ++ (MU ++ (MV ++ (MM ++ (MR ++ [(g, Row 2 (il T))])))))) ++ Mo) := hs.mem_perm (perm_of fun c => by simp only [List.map_append, List.map_cons, List.map_nil, List.sum_append, List.sum_cons, List.sum_nil] <;> omega)
        refine W_seq ?_
        refine W_region ?_
        refine L_move rfl rfl ?_
        refine L_move rfl rfl ?_
        refine L_nilCheck rfl rfl ?_
        refine L_fieldAddr rfl (off := 1) Try.underlying56 rfl rfl Try.ti22 rfl ?_
        refine L_load rfl Try.one22 rfl (by exact hs.cellA (i := 0) rfl rfl) ?_
        refine L_move rfl rfl ?_
        refine L_buildSlice1 rfl hs Try.underlying22 Try.ti38 rfl (by decide) rfl rfl ?_
        intro b47 w hb47 hnb47 hs
        simp only [List.map_cons, List.map_nil] at hs
        try dsimp only [List.set_cons_succ, List.set_cons_zero, List.cons_append, List.nil_append] at hs
        refine L_appendT (L := (b12, Row 56 [.int .i64 n, vC, vU, vV, vM, vR]) :: (Ms ++ (MU ++ (MV ++ (MM ++ (MR ++ [(g, Row 2 (il T))])))))) (M := Mo) rfl Try.underlying22 Try.ti38 rfl hs (by assumption) hbC rfl rfl rfl (by simp [Value.oneCell']) (by omega) (by omega) ?_
        intro vC' w Mo' hs hbC'
        obtain ⟨aC', cC', hvC', _⟩ := hbC'.slice
        subst hvC'
        refine L_nilCheck rfl rfl ?_
        refine L_fieldAddr rfl (off := 1) Try.underlying56 rfl rfl Try.ti22 rfl ?_
        refine L_store hs (i := 0) rfl Try.ti22 rfl rfl (by first | rfl | exact add_lit0 _ _ | exact Addr.add_lit ..) (by simp) rfl ?_
        intro w hs
        try dsimp only [List.set_cons_succ, List.set_cons_zero, List.cons_append, List.nil_append] at hs
        refine RL_then ?_
        refine W_seq ?_
        refine W_region ?_
        -- prices
        replace hs : HS w0 w (((b12, Row 56 [.int .i64 n, .slice aC' (i + 1) cC', vU, vV, vM, vR]) :: (Mo' ++ (Ms ++ (MV ++ (MM ++ (MR ++ [(g, Row 2 (il T))])))))) ++ MU) := hs.mem_perm (perm_of fun c => by simp only [List.map_append, List.map_cons, List.map_nil, List.sum_append, List.sum_cons, List.sum_nil] <;> omega)
        refine L_move rfl rfl ?_
        refine L_move rfl rfl ?_
        refine L_nilCheck rfl rfl ?_
        refine L_fieldAddr rfl (off := 2) Try.underlying56 rfl rfl Try.ti38 rfl ?_
        refine L_load rfl Try.one38 rfl (by exact hs.cellA (i := 0) rfl rfl) ?_
        refine L_buildSlice1 rfl hs Try.underlying38 Try.ti2 rfl (by decide) rfl rfl ?_
        intro b56 w hb56 hnb56 hs
        simp only [List.map_cons, List.map_nil] at hs
        try dsimp only [List.set_cons_succ, List.set_cons_zero, List.cons_append, List.nil_append] at hs
        refine L_appendT (L := (b12, Row 56 [.int .i64 n, .slice aC' (i + 1) cC', vU, vV, vM, vR]) :: (Mo' ++ (Ms ++ (MV ++ (MM ++ (MR ++ [(g, Row 2 (il T))])))))) (M := MU) rfl Try.underlying38 Try.ti2 rfl hs (by assumption) hbU rfl rfl rfl (by simp [Value.oneCell']) (by omega) (by omega) ?_
        intro vU' w MU' hs hbU'
        rw [rep_snoc] at hbU'
        obtain ⟨aU', cU', hvU', _⟩ := hbU'.slice
        subst hvU'
        refine L_nilCheck rfl rfl ?_
        refine L_fieldAddr rfl (off := 2) Try.underlying56 rfl rfl Try.ti38 rfl ?_
        refine L_store hs (i := 0) rfl Try.ti38 rfl rfl (by first | rfl | exact add_lit0 _ _ | exact Addr.add_lit ..) (by simp) rfl ?_
        intro w hs
        try dsimp only [List.set_cons_succ, List.set_cons_zero, List.cons_append, List.nil_append] at hs
        refine RL_then ?_
        refine W_seq ?_
        refine W_region ?_
        replace hs : HS w0 w (((b12, Row 56 [.int .i64 n, .slice aC' (i + 1) cC', .slice aU' (i + 1) cU', vV, vM, vR]) :: (Mo' ++ (Ms ++ (MU' ++ (MM ++ (MR ++ [(g, Row 2 (il T))])))))) ++ MV) := hs.mem_perm (perm_of fun c => by simp only [List.map_append, List.map_cons, List.map_nil, List.sum_append, List.sum_cons, List.sum_nil] <;> omega)
        refine L_move rfl rfl ?_
        refine L_move rfl rfl ?_
        refine L_nilCheck rfl rfl ?_
        refine L_fieldAddr rfl (off := 3) Try.underlying56 rfl rfl Try.ti38 rfl ?_
        refine L_load rfl Try.one38 rfl (by exact hs.cellA (i := 0) rfl rfl) ?_
        refine L_buildSlice1 rfl hs Try.underlying38 Try.ti2 rfl (by decide) rfl rfl ?_
        intro b65 w hb65 hnb65 hs
        simp only [List.map_cons, List.map_nil] at hs
        try dsimp only [List.set_cons_succ, List.set_cons_zero, List.cons_append, List.nil_append] at hs
        refine L_appendT (L := (b12, Row 56 [.int .i64 n, .slice aC' (i + 1) cC', .slice aU' (i + 1) cU', vV, vM, vR]) :: (Mo' ++ (Ms ++ (MU' ++ (MM ++ (MR ++ [(g, Row 2 (il T))])))))) (M := MV) rfl Try.underlying38 Try.ti2 rfl hs (by assumption) hbV rfl rfl rfl (by simp [Value.oneCell']) (by omega) (by omega) ?_
        intro vV' w MV' hs hbV'
        rw [rep_snoc] at hbV'
        obtain ⟨aV', cV', hvV', _⟩ := hbV'.slice
        subst hvV'
        refine L_nilCheck rfl rfl ?_
        refine L_fieldAddr rfl (off := 3) Try.underlying56 rfl rfl Try.ti38 rfl ?_
        refine L_store hs (i := 0) rfl Try.ti38 rfl rfl (by first | rfl | exact add_lit0 _ _ | exact Addr.add_lit ..) (by simp) rfl ?_
        intro w hs
        try dsimp only [List.set_cons_succ, List.set_cons_zero, List.cons_append, List.nil_append] at hs
        refine RL_then ?_
        refine W_seq ?_
        refine W_region ?_
        replace hs : HS w0 w (((b12, Row 56 [.int .i64 n, .slice aC' (i + 1) cC', .slice aU' (i + 1) cU', .slice aV' (i + 1) cV', vM, vR]) :: (Mo' ++ (Ms ++ (MU' ++ (MV' ++ (MR ++ [(g, Row 2 (il T))])))))) ++ MM) := hs.mem_perm (perm_of fun c => by simp only [List.map_append, List.map_cons, List.map_nil, List.sum_append, List.sum_cons, List.sum_nil] <;> omega)
        refine L_move rfl rfl ?_
        refine L_move rfl rfl ?_
        refine L_nilCheck rfl rfl ?_
        refine L_fieldAddr rfl (off := 4) Try.underlying56 rfl rfl Try.ti25 rfl ?_
        refine L_load rfl Try.one25 rfl (by exact hs.cellA (i := 0) rfl rfl) ?_
        refine L_buildSlice1 rfl hs Try.underlying25 Try.ti3 rfl (by decide) rfl rfl ?_
        intro b74 w hb74 hnb74 hs
        simp only [List.map_cons, List.map_nil] at hs
        try dsimp only [List.set_cons_succ, List.set_cons_zero, List.cons_append, List.nil_append] at hs
        refine L_appendT (L := (b12, Row 56 [.int .i64 n, .slice aC' (i + 1) cC', .slice aU' (i + 1) cU', .slice aV' (i + 1) cV', vM, vR]) :: (Mo' ++ (Ms ++ (MU' ++ (MV' ++ (MR ++ [(g, Row 2 (il T))])))))) (M := MM) rfl Try.underlying25 Try.ti3 rfl hs (by assumption) hbM rfl rfl rfl (by simp [Value.oneCell']) (by omega) (by omega) ?_
        intro vM' w MM' hs hbM'
        rw [rep_snoc] at hbM'
        obtain ⟨aM', cM', hvM', _⟩ := hbM'.slice
        subst hvM'
        refine L_nilCheck rfl rfl ?_
        refine L_fieldAddr rfl (off := 4) Try.underlying56 rfl rfl Try.ti25 rfl ?_
        refine L_store hs (i := 0) rfl Try.ti25 rfl rfl (by first | rfl | exact add_lit0 _ _ | exact Addr.add_lit ..) (by simp) rfl ?_
        intro w hs
        try dsimp only [List.set_cons_succ, List.set_cons_zero, List.cons_append, List.nil_append] at hs
        refine RL_then ?_
        refine W_region ?_
        replace hs : HS w0 w (((b12, Row 56 [.int .i64 n, .slice aC' (i + 1) cC', .slice aU' (i + 1) cU', .slice aV' (i + 1) cV', .slice aM' (i + 1) cM', vR]) :: (Mo' ++ (Ms ++ (MU' ++ (MV' ++ (MM' ++ [(g, Row 2 (il T))])))))) ++ MR) := hs.mem_perm (perm_of fun c => by simp only [List.map_append, List.map_cons, List.map_nil, List.sum_append, List.sum_cons, List.sum_nil] <;> omega)
        refine L_move rfl rfl ?_
        refine L_move rfl rfl ?_
        refine L_nilCheck rfl rfl ?_
        refine L_fieldAddr rfl (off := 5) Try.underlying56 rfl rfl Try.ti25 rfl ?_
        refine L_load rfl Try.one25 rfl (by exact hs.cellA (i := 0) rfl rfl) ?_
        refine L_buildSlice1 rfl hs Try.underlying25 Try.ti3 rfl (by decide) rfl rfl ?_
        intro b83 w hb83 hnb83 hs
        simp only [List.map_cons, List.map_nil] at hs
        try dsimp only [List.set_cons_succ, List.set_cons_zero, List.cons_append, List.nil_append] at hs
        refine L_appendT (L := (b12, Row 56 [.int .i64 n, .slice aC' (i + 1) cC', .slice aU' (i + 1) cU', .slice aV' (i + 1) cV', .slice aM' (i + 1) cM', vR]) :: (Mo' ++ (Ms ++ (MU' ++ (MV' ++ (MM' ++ [(g, Row 2 (il T))])))))) (M := MR) rfl Try.underlying25 Try.ti3 rfl hs (by assumption) hbR rfl rfl rfl (by simp [Value.oneCell']) (by omega) (by omega) ?_
        intro vR' w MR' hs hbR'
        rw [rep_snoc] at hbR'
        obtain ⟨aR', cR', hvR', _⟩ := hbR'.slice
        subst hvR'
        refine L_nilCheck rfl rfl ?_
        refine L_fieldAddr rfl (off := 5) Try.underlying56 rfl rfl Try.ti25 rfl ?_
        refine L_store hs (i := 0) rfl Try.ti25 rfl rfl (by first | rfl | exact add_lit0 _ _ | exact Addr.add_lit ..) (by simp) rfl ?_
        intro w hs
        try dsimp only [List.set_cons_succ, List.set_cons_zero, List.cons_append, List.nil_append] at hs
        refine RL_nil' ?_
        refine Nx_block ?_
        refine Nx_then ?_
        refine W_region ?_
        refine L_move rfl rfl ?_
        first | refine L_add rfl rfl rfl (wrp_i64 (by omega)) ?_ | refine L_add rfl rfl rfl rfl ?_
        refine L_assign rfl rfl ?_
        refine RL_nil' ?_
        have hrow : pB w0 (.slice (some ⟨g, 0, none⟩) n n) T [(g, Row 2 (il T))] := by
          show Bl _ _ _ _ _ _ _
          have := Bl.row (w0 := w0) (E := 2) (sz := 1) (n := n) (cap := n) (xs := il T) (sp := []) hg (by simp [hTl]) (by simp [hTl]) (Nat.le_refl _)
          rw [hTl]
          rw [List.append_nil] at this
          exact this
        refine Nx_loopP (i + 1, ⟨.slice aC' (i + 1) cC', .slice aU' (i + 1) cU', .slice aV' (i + 1) cV', .slice aM' (i + 1) cM', .slice aR' (i + 1) cR', vs ++ [.slice (some ⟨g, 0, none⟩) n n], rs ++ [T], Mo', Ms ++ [(g, Row 2 (il T))], MU', MV', MM', MR'⟩, w) (is := [0, 1, 5, 6]) (I' := (fun (i : Nat) (s : SqSt) (w : World) => (i ≤ n) ∧ (HS w0 w ((b12, Row 56 [.int .i64 n, s.vC, s.vU, s.vV, s.vM, s.vR]) :: (s.Mo ++ (s.Ms ++ (s.MU ++ (s.MV ++ (s.MM ++ s.MR))))))) ∧ (Bl w0 38 1 s.vC i s.vs s.Mo) ∧ (RB (pB w0) s.vs s.rs s.Ms) ∧ (s.rs.length = i) ∧ (∀ r, r < i → (s.rs.getD r []).length = n ∧ ∀ j, j < n → el s.rs r j = sqC rows r j) ∧ (Bl w0 2 1 s.vU i (il (List.replicate i 0)) s.MU) ∧ (Bl w0 2 1 s.vV i (il (List.replicate i 0)) s.MV) ∧ (Bl w0 3 1 s.vM i (il (List.replicate i (-1))) s.MM) ∧ (Bl w0 3 1 s.vR i (il (List.replicate i (-1))) s.MR)) (i + 1) (⟨.slice aC' (i + 1) cC', .slice aU' (i + 1) cU', .slice aV' (i + 1) cV', .slice aM' (i + 1) cM', .slice aR' (i + 1) cR', vs ++ [.slice (some ⟨g, 0, none⟩) n n], rs ++ [T], Mo', Ms ++ [(g, Row 2 (il T))], MU', MV', MM', MR'⟩) (w)) rfl rfl rfl ?_ ?_
        · refine ⟨by omega, hs.mem_perm (perm_of fun c => by simp only [List.map_append, List.map_cons, List.map_nil, List.sum_append, List.sum_cons, List.sum_nil] <;> omega), hbC', hrb.snoc hrow, by simp [hrl2], fun r hr => ?_, hbU', hbV', hbM', hbR'⟩
          by_cases hri : r < i
          · have e : (rs ++ [T]).getD r [] = rs.getD r [] := by simp only [List.getD]; rw [List.getElem?_append_left (by omega)]
            obtain ⟨h5, h6⟩ := hrs r hri
            exact ⟨by rw [e]; exact h5, fun j hj => by show ((rs ++ [T]).getD r []).getD j 0 = _; rw [e]; exact h6 j hj⟩
          · obtain rfl : i = r := by omega
            have e : (rs ++ [T]).getD i [] = T := by simp only [List.getD]; rw [List.getElem?_append_right (by omega), hrl2, Nat.sub_self]; rfl
            exact ⟨by rw [e]; exact hTl, fun j hj => by show ((rs ++ [T]).getD i []).getD j 0 = _; rw [e]; exact hT j hj⟩
        · omega
    · obtain rfl : n = i := by omega
      obtain ⟨vC, vU, vV, vM, vR, vs, rs, Mo, Ms, MU, MV, MM, MR⟩ := s
      dsimp only at hs hbC hrb hrl2 hrs hbU hbV hbM hbR
      clear hOall
      obtain ⟨gC, cC, spC, rfl, rfl, hgC, _⟩ := hbC.own_row (by omega)
      obtain ⟨u, cu, su, rfl, rfl, hu, _⟩ := hbU.own_row (by omega)
      obtain ⟨v, cv, sv, rfl, rfl, hv, _⟩ := hbV.own_row (by omega)
      obtain ⟨m, cm, sm, rfl, rfl, hm, _⟩ := hbM.own_row (by omega)
      obtain ⟨o, co, so, rfl, rfl, ho, _⟩ := hbR.own_row (by omega)
      have hvl := hrb.len
      replace hs : HS w0 w ([(u, Row 2 (il (List.replicate n 0) ++ su)), (v, Row 2 (il (List.replicate n 0) ++ sv)), (m, Row 3 (il (List.replicate n (-1)) ++ sm)), (o, Row 3 (il (List.replicate n (-1)) ++ so))] ++ ((b12, Row 56 [.int .i64 n, .slice (some ⟨gC, 0, none⟩) n cC, .slice (some ⟨u, 0, none⟩) n cu, .slice (some ⟨v, 0, none⟩) n cv, .slice (some ⟨m, 0, none⟩) n cm, .slice (some ⟨o, 0, none⟩) n co]) :: (gC, Row 38 (vs ++ spC)) :: Ms)) := hs.mem_perm (perm_of fun c => by simp only [List.map_append, List.map_cons, List.map_nil, List.sum_append, List.sum_cons, List.sum_nil] <;> omega)
      have hRd : ∀ {w : World} {U V M R : List Int}, HS w0 w ((Ly.mk b12 gC cC u cu v cv m cm o co su sv sm so).L U V M R ++ ((b12, Row 56 [.int .i64 n, .slice (some ⟨gC, 0, none⟩) n cC, .slice (some ⟨u, 0, none⟩) n cu, .slice (some ⟨v, 0, none⟩) n cv, .slice (some ⟨m, 0, none⟩) n cm, .slice (some ⟨o, 0, none⟩) n co]) :: (gC, Row 38 (vs ++ spC)) :: Ms)) → RdS w (Ly.mk b12 gC cC u cu v cv m cm o co su sv sm so) n (sqC rows) := fun {w U V M R} hs => by
        have hnd := hs.nodup
        refine ⟨hs.has (b12, _) (by simp), nodup_sep hnd (b := b12) (List.mem_cons_self ..), nodup_sep hnd (b := gC) (List.mem_cons_of_mem _ (List.mem_cons_self ..)), fun r hr => ?_⟩
        obtain ⟨vr, Mv, Mr, h5, h6, h7, _⟩ := hrb.at r (by omega)
        obtain ⟨hrn, hre⟩ := hrs r hr
        obtain ⟨g, cap, sp, rfl, rfl, hg, _⟩ := Bl.own_row h6 (by omega)
        have hmem : (g, Row 2 (il (rs.getD r []) ++ sp)) ∈ Ms := h7.mem_iff.2 (by simp)
        have hmem2 : (g, Row 2 (il (rs.getD r []) ++ sp)) ∈ ((b12, Row 56 [.int .i64 n, .slice (some ⟨gC, 0, none⟩) n cC, .slice (some ⟨u, 0, none⟩) n cu, .slice (some ⟨v, 0, none⟩) n cv, .slice (some ⟨m, 0, none⟩) n cm, .slice (some ⟨o, 0, none⟩) n co]) :: (gC, Row 38 (vs ++ spC)) :: Ms) := List.mem_cons_of_mem _ (List.mem_cons_of_mem _ hmem)
        rw [hrn] at h5
        refine ⟨g, cap, ?_, nodup_sep hnd hmem2, fun j hj => ?_⟩
        · rw [add_lit0]
          exact Lk.cell_of_row (hs.has (gC, Row 38 (vs ++ spC)) (by simp)) (by rw [List.getElem?_append_left (by omega)]; exact h5)
        · rw [add_lit0, ← hre j hj]
          exact Lk.cell_of_row (hs.has _ (List.mem_append_right _ hmem2)) (il_get' (by omega))
      have hOr : Own w0 ((b12, Row 56 [.int .i64 n, .slice (some ⟨gC, 0, none⟩) n cC, .slice (some ⟨u, 0, none⟩) n cu, .slice (some ⟨v, 0, none⟩) n cv, .slice (some ⟨m, 0, none⟩) n cm, .slice (some ⟨o, 0, none⟩) n co]) :: (gC, Row 38 (vs ++ spC)) :: Ms) := Own.cons hb12 (Own.cons hgC hrb.own)
      have hg0 : ∀ (x : Int) (j : Nat), j < n → gi (List.replicate n x) j = x := fun x j hj => grep hj
      refine W_seq ?_
      refine W_seq ?_
      refine W_region ?_
      refine L_move rfl rfl ?_
      refine L_move rfl rfl ?_
      first | refine L_lss rfl rfl rfl (dtrue (by omega)) ?_ | refine L_lss rfl rfl rfl (dfalse (by omega)) ?_ | refine L_lss rfl rfl rfl rfl ?_
      refine RL_then ?_
      refine W_if_false rfl ?_
      refine W_exit' ?_
      refine Ex_then_exit ?_
      refine Ex_loop_exit ?_
      refine Ex_block_hit ?_
      refine Nx_then ?_
      refine W_seq ?_
      refine W_seq ?_
      refine W_region ?_
      refine L_assign rfl rfl ?_
      refine RL_then ?_
      refine W_block ?_
      refine W_loop6 (fun (i : Nat) (U : List Int) (V : List Int) (M : List Int) (R : List Int) (w : World) => [(1, .int .i64 n), (5, .pointer (some ⟨b12, 0, none⟩)), (9, .int .i64 i)]) (fun (i : Nat) (U : List Int) (V : List Int) (M : List Int) (R : List Int) (w : World) => w) (fun (i : Nat) (U : List Int) (V : List Int) (M : List Int) (R : List Int) (w : World) => (i ≤ n) ∧ (U.length = n) ∧ (V.length = n) ∧ (M.length = n) ∧ (R.length = n) ∧ (Sq n (sqC rows) i (gi R) (gi U) (gi V)) ∧ (SqM n i (gi R) (gi M)) ∧ ((∀ r, r < n → 0 ≤ gi U r ∧ gi U r ≤ BB) ∧ ∀ j, j < n → -BB ≤ gi V j ∧ gi V j ≤ 0) ∧ (HS w0 w ((Ly.mk b12 gC cC u cu v cv m cm o co su sv sm so).L U V M R ++ ((b12, Row 56 [.int .i64 n, .slice (some ⟨gC, 0, none⟩) n cC, .slice (some ⟨u, 0, none⟩) n cu, .slice (some ⟨v, 0, none⟩) n cv, .slice (some ⟨m, 0, none⟩) n cm, .slice (some ⟨o, 0, none⟩) n co]) :: (gC, Row 38 (vs ++ spC)) :: Ms)))) (fun (i : Nat) (U : List Int) (V : List Int) (M : List Int) (R : List Int) (w : World) => n - i) (0) (List.replicate n 0) (List.replicate n 0) (List.replicate n (-1)) (List.replicate n (-1)) (w) (is := [1, 5, 9]) rfl rfl ?_ ?_
      · exact ⟨Nat.zero_le _, by simp, by simp, by simp, by simp, Sq.zero (fun j hj => hg0 _ j hj) (fun r => grep0 n r) (fun r => grep0 n r), ⟨fun j hj ho => by rw [hg0 _ j hj] at ho; omega, fun q _ hq => hg0 _ q hq⟩, ⟨fun r _ => by rw [grep0]; decide, fun r _ => by rw [grep0]; decide⟩, hs⟩
      · clear hs
        intro i U V M R w hI
        show W _ _ _ _ [(1, .int .i64 n), (5, .pointer (some ⟨b12, 0, none⟩)), (9, .int .i64 i)] w
        obtain ⟨hi, hUl, hVl, hMl, hRl, hSq, hMa, hbd, hs⟩ := hI
        by_cases hlt : i < n
        · refine W_seq ?_
          refine W_seq ?_
          refine W_region ?_
          refine L_move rfl rfl ?_
          refine L_move rfl rfl ?_
          first | refine L_lss rfl rfl rfl (dtrue (by omega)) ?_ | refine L_lss rfl rfl rfl (dfalse (by omega)) ?_ | refine L_lss rfl rfl rfl rfl ?_
          refine RL_then ?_
          refine W_if_true rfl ?_
          refine W_skip' ?_
          refine Nx_then ?_
          refine W_seq ?_
          refine W_block ?_
          refine W_region ?_
          refine L_move rfl rfl ?_
          refine L_move rfl rfl ?_
          refine L_call rfl Try.fun32 rfl (enter_ok (Ly.mk b12 gC cC u cu v cv m cm o co su sv sm so) n i (sqC rows) U V M R w hC hn2 hlt (hRd hs) (HS.named (fun p hp => hs.has p (List.mem_append_left _ hp)) (by have := hs.nodup; rw [List.map_append, List.nodup_append] at this; exact this.1)) hUl hVl hMl hRl hSq hMa) ?_
          rintro _ w' ⟨U', V', M', R', hs', hUl', hVl', hMl', hRl', hSq', hMa', hbd'⟩
          replace hs := hs.callU (A := (Ly.mk b12 gC cC u cu v cv m cm o co su sv sm so).L U V M R) (U := (Ly.mk b12 gC cC u cu v cv m cm o co su sv sm so).L U' V' M' R') (L2 := ((b12, Row 56 [.int .i64 n, .slice (some ⟨gC, 0, none⟩) n cC, .slice (some ⟨u, 0, none⟩) n cu, .slice (some ⟨v, 0, none⟩) n cv, .slice (some ⟨m, 0, none⟩) n cm, .slice (some ⟨o, 0, none⟩) n co]) :: (gC, Row 38 (vs ++ spC)) :: Ms)) (N := []) rfl (by rw [List.append_nil]; exact hs') Own.nil
          rw [List.append_nil] at hs
          refine RL_nil' ?_
          refine Nx_block ?_
          refine Nx_then ?_
          refine W_region ?_
          refine L_move rfl rfl ?_
          first | refine L_add rfl rfl rfl (wrp_i64 (by omega)) ?_ | refine L_add rfl rfl rfl rfl ?_
          refine L_assign rfl rfl ?_
          refine RL_nil' ?_
          refine Nx_loopP (i + 1, U', V', M', R', w') (is := [1, 5, 9]) (I' := (fun (i : Nat) (U : List Int) (V : List Int) (M : List Int) (R : List Int) (w : World) => (i ≤ n) ∧ (U.length = n) ∧ (V.length = n) ∧ (M.length = n) ∧ (R.length = n) ∧ (Sq n (sqC rows) i (gi R) (gi U) (gi V)) ∧ (SqM n i (gi R) (gi M)) ∧ ((∀ r, r < n → 0 ≤ gi U r ∧ gi U r ≤ BB) ∧ ∀ j, j < n → -BB ≤ gi V j ∧ gi V j ≤ 0) ∧ (HS w0 w ((Ly.mk b12 gC cC u cu v cv m cm o co su sv sm so).L U V M R ++ ((b12, Row 56 [.int .i64 n, .slice (some ⟨gC, 0, none⟩) n cC, .slice (some ⟨u, 0, none⟩) n cu, .slice (some ⟨v, 0, none⟩) n cv, .slice (some ⟨m, 0, none⟩) n cm, .slice (some ⟨o, 0, none⟩) n co]) :: (gC, Row 38 (vs ++ spC)) :: Ms)))) (i + 1) (U') (V') (M') (R') (w')) rfl rfl rfl ?_ ?_
          · exact ⟨by omega, hUl', hVl', hMl', hRl', hSq', hMa', hbd', hs⟩
          · omega
        · obtain rfl : n = i := by omega
          refine W_seq ?_
          refine W_seq ?_
          refine W_region ?_
          refine L_move rfl rfl ?_
          refine L_move rfl rfl ?_
          first | refine L_lss rfl rfl rfl (dtrue (by omega)) ?_ | refine L_lss rfl rfl rfl (dfalse (by omega)) ?_ | refine L_lss rfl rfl rfl rfl ?_
          refine RL_then ?_
          refine W_if_false rfl ?_
          refine W_exit' ?_
          refine Ex_then_exit ?_
          refine Ex_loop_exit ?_
          refine Ex_block_hit ?_
          refine Nx_then ?_
          refine W_seq ?_
          refine W_region ?_
          refine L_move rfl rfl ?_
          refine L_assign rfl rfl ?_
          refine RL_then ?_
          refine W_ret' ?_
          refine Ex_done1 rfl rfl ?_
          exact ⟨_, rfl, (Ly.mk b12 gC cC u cu v cv m cm o co su sv sm so), U, V, M, R, rfl, hs.dropR hOr, Own.cons hu (Own.cons hv (Own.cons hm (Own.cons ho Own.nil))), hRd hs, hUl, hVl, hMl, hRl, hSq, hMa, hbd⟩
end Go.Proofs.Ytcfdmenmlemahaa
