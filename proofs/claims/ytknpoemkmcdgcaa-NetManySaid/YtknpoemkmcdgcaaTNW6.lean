/-
 A part of the proof: what functions that the statement reaches do, or a plain law on what they do. Each theorem holds under its own premises alone.
-/
import Derived.Test.YtknpoemkmcdgcaaTNW5
import Derived.Test.YtknpoemkmcdgcaaTNM
namespace Go.Proofs.Ytknpoemkmcdgcaa
open Go Go.Lk
/-! ### Both nets tell the same things -/
def Rd.bare (r : Rd) : Rd := ⟨r.x, r.y, r.t, none, 0, r.ts⟩
theorem ownS_bare {rs rs' : List Rd} (h : rs.map Rd.bare = rs'.map Rd.bare) (i : Nat) : ownS rs i = ownS rs' i := by
 have hl : rs.length = rs'.length := by have := congrArg List.length h; simpa using this
 by_cases hi : i < rs.length
 ·
  have h1 := get_of_map (d := rd0) (f := Rd.bare) (m := rs'.map Rd.bare) h hi
  have h2 := get_of_map (d := rd0) (f := Rd.bare) (m := rs'.map Rd.bare) rfl (show i < rs'.length by omega)
  have h3 := Option.some.inj (h1.symm.trans h2)
  unfold ownS
  generalize rs.getD i rd0 = r at h3 ⊢
  generalize rs'.getD i rd0 = r' at h3 ⊢
  obtain ⟨x, y, t, a, c, ts⟩ := r
  obtain ⟨x', y', t', a', c', ts'⟩ := r'
  unfold Rd.bare at h3
  injection h3 with e1 e2 e3 _ _ e6
  subst e1 e2 e3 e6
  rfl
 ·
  unfold ownS
  rw [List.getD_eq_getElem?_getD, List.getElem?_eq_none (by omega), List.getD_eq_getElem?_getD, List.getElem?_eq_none (by omega)]
theorem FusTo.uniq {far : Nat} {rs rs' : List Rd} (h : rs.map Rd.bare = rs'.map Rd.bare) : ∀ {i : Nat} {S S' : List ST}, FusTo far rs i S → FusTo far rs' i S' → S = S' := by
 intro i S S' h1
 induction h1 generalizing S' with
 | zero => intro h2; cases h2; rfl
 | @step i S ms cnt t e h0 hi hm ih =>
  intro h2
  cases h2 with
  | step h0' hi' hm' =>
   have e1 := ih h0'
   subst e1
   rw [rowsS, ownS_bare h] at hm
   have e2 := (MostAns.uniq hm hm').1
   rw [e2, ownS_bare h]
theorem rfusedG (w0 w : World) (B far : Nat) (vS vT : Value) (MS MT R : Bks) (ms : List RM) (hs : HS w0 w (dbs B far vS MS vT MT ms ++ R)) (hN : DOk w0 B vS MS vT MT ms) (hf : FarOk far) :
  Ret Try.prog 34 [.pointer (some ⟨B, 0, none⟩)] w fun v9 w' => ∃ S fs Mo, FusTo far (rds ms) ms.length S ∧ fs.map Th.s = S.map prt ∧ Bl w0 64 5 v9 fs.length (fcs fs) Mo ∧ (∀ t ∈ fs, Bl w0 3 1 t.v t.seen.length (il t.seen) t.M) ∧ HS w0 w' ((dbs B far vS MS vT MT ms ++ R) ++ (Mo ++ fms fs)) ∧ fs.length ≤ 4096 ∧ ∀ t ∈ fs, t.seen.length ≤ 4097 := by
 obtain ⟨sa, sc, ta, tc, hD⟩ := hN.at (far := far) hs (fun p hp => List.mem_append_left _ hp)
 refine Calls.mono (rfused_ok B far (rds ms) sa ta sc tc w hD hf (by rw [rds_len]; exact hN.len) (fun i hi => ?_) (fun i hi => ?_)) fun e w' => ?_
 ·
  rw [rds_len] at hi
  rw [rds_get hi]; exact (hN.each _ (getD_mem hi)).len
 ·
  rw [rds_len] at hi
  rw [rds_get hi]; exact (hN.each _ (getD_mem hi)).turn
 ·
  rintro ⟨v9, rfl, S, fs, Mo, hF, hm, hb, hfb, hs', h1, h2⟩
  rw [rds_len] at hF
  refine ⟨_, rfl, S, fs, Mo, hF, hm, hb.mono hs.size, fun t ht => (hfb t ht).mono hs.size, hs.call hs' (hb.own.app fun p hp => ?_), h1, h2⟩
  obtain ⟨t, ht, hp⟩ := List.mem_flatMap.1 hp
  exact (hfb t ht).own p hp
/-! ### SameFused -/
/-- a list of things told, to be read -/
structure FAt (w : World) (v : Value) (fs : List Th) : Prop where
 sl : ∃ a c, v = .slice a fs.length c ∧ SlC w a (fcs fs)
 seen : ∀ t ∈ fs, ∃ q c, t.v = .slice q t.seen.length c ∧ SlC w q (il t.seen)
theorem FAt.old {w0 w : World} {v : Value} {fs : List Th} {L : Bks} (h : FAt w0 v fs) (hs : HS w0 w L) (ho : Own w0 L) : FAt w v fs := by
 obtain ⟨a, c, h1, h2⟩ := h.sl
 refine ⟨⟨a, c, h1, h2.old hs ho⟩, fun t ht => ?_⟩
 obtain ⟨q, c, h3, h4⟩ := h.seen t ht
 exact ⟨q, c, h3, h4.old hs ho⟩
theorem FAt.of {w0 w : World} {v : Value} {fs : List Th} {Mo L : Bks} (hb : Bl w0 64 5 v fs.length (fcs fs) Mo) (hfb : ∀ t ∈ fs, Bl w0 3 1 t.v t.seen.length (il t.seen) t.M) (hs : HS w0 w L) (hL : ∀ p ∈ Mo ++ fms fs, p ∈ L) : FAt w v fs := by
 obtain ⟨a, c, rfl, _⟩ := hb.slice
 refine ⟨⟨a, c, rfl, Bl.slcM hb hs (fun p hp => hL p (List.mem_append_left _ hp))⟩, fun t ht => ?_⟩
 have hb2 := hfb t ht
 obtain ⟨q, c2, hv, _⟩ := hb2.slice
 rw [hv] at hb2
 exact ⟨q, c2, hv, Bl.slcM hb2 hs (fun p hp => hL p (List.mem_append_right _ (List.mem_flatMap.2 ⟨t, ht, hp⟩)))⟩
theorem samefH {w0 w : World} {L : Bks} (hs : HS w0 w L) (x y : Nat) (h : cn x = cn y) : Ret Try.prog 36 [.float .f64 x, .float .f64 y] w fun v w' => v = .bool true ∧ HS w0 w' L :=
 Calls.mono (sameF_ok x y h w) fun e w' => by
  rintro ⟨v, rfl, rfl, rfl⟩
  exact ⟨_, rfl, rfl, hs⟩
theorem same_at {fs gs : List Th} (h : fs.map Th.s = gs.map Th.s) {i : Nat} (hi : i < fs.length) : (fs.getD i th0).s = (gs.getD i th0).s := by
 have hl : fs.length = gs.length := by have := congrArg List.length h; simpa using this
 have h1 := get_of_map (d := th0) (f := Th.s) (m := gs.map Th.s) h hi
 have h2 := get_of_map (d := th0) (f := Th.s) (m := gs.map Th.s) rfl (show i < gs.length by omega)
 exact Option.some.inj (h1.symm.trans h2)
set_option maxHeartbeats 1000000 in
theorem rsameFu (va vb : Value) (fs gs : List Th) (w0 : World) (ha : FAt w0 va fs) (hb : FAt w0 vb gs) (h : fs.map Th.s = gs.map Th.s) (hl : fs.length ≤ 1000000) (hl2 : ∀ t ∈ fs, t.seen.length ≤ 1000000) :
  Ret Try.prog 35 [va, vb] w0 fun v w' => v = .bool true ∧ HS w0 w' [] := by
 refine Ret.start fun w hs => ?_
 obtain ⟨a, ca, rfl, hsa⟩ := ha.sl
 obtain ⟨b, cb, rfl, hsb⟩ := hb.sl
 have hgl : fs.length = gs.length := by have := congrArg List.length h; simpa using this
 refine calls_of_W Try.func35 rfl rfl rfl (W_seq (W_region (L_assign rfl rfl (RL_then (W_seq (W_seq (W_region (L_move rfl rfl (L_len rfl Try.underlying55 rfl (L_move rfl rfl (L_len rfl Try.underlying55 rfl (L_neq rfl rfl rfl (dfalse (by omega)) ?_))))))))))))
 refine RL_then (W_if_false rfl (W_skip' (Nx_then (W_seq (W_seq (W_region (L_assign rfl rfl (RL_then (W_block ?_)))))))))
 refine W_loop2 (fun (i : Nat) (w : World) => [(0, .slice a fs.length ca), (1, .slice b gs.length cb), (5, .int .i64 i)]) (fun (i : Nat) (w : World) => w) (fun (i : Nat) (w : World) => (i ≤ fs.length) ∧ (HS w0 w [])) (fun (i : Nat) (w : World) => fs.length - i) (0) (w) (is := [0, 1, 5]) rfl rfl ?_ ?_
 ·
  exact ⟨Nat.zero_le _, hs⟩
 ·
  clear hs
  intro i w hI
  show W _ _ _ _ [(0, .slice a fs.length ca), (1, .slice b gs.length cb), (5, .int .i64 i)] w
  obtain ⟨hi, hs⟩ := hI
  by_cases hlt : i < fs.length
  ·
   have hlg : i < gs.length := by omega
   obtain ⟨t, hth⟩ : ∃ t, t = fs.getD i th0 := ⟨_, rfl⟩
   obtain ⟨u, huh⟩ : ∃ u, u = gs.getD i th0 := ⟨_, rfl⟩
   have htu : t.s = u.s := by rw [hth, huh]; exact same_at h hlt
   have hax : cn t.ax = cn u.ax := congrArg ST.ax htu
   have hay : cn t.ay = cn u.ay := congrArg ST.ay htu
   have hvx : cn t.vx = cn u.vx := congrArg ST.vx htu
   have hvy : cn t.vy = cn u.vy := congrArg ST.vy htu
   have hse : t.seen = u.seen := congrArg ST.seen htu
   obtain ⟨tq, tc, htv, hts⟩ := ha.seen t (by rw [hth]; exact getD_mem hlt)
   obtain ⟨uq, uc, huv, hus⟩ := hb.seen u (by rw [huh]; exact getD_mem hlg)
   have htl := hl2 t (by rw [hth]; exact getD_mem hlt)
   rw [← hse] at huv hus
   have haa : a = some (aD a) := hsa.ao (by rw [dcs_len]; omega)
   have hba : b = some (aD b) := hsb.ao (by rw [dcs_len]; omega)
   have hca : ∀ {w : World} {L : Bks}, HS w0 w L → Own w0 L → CellsAt w ((aD a).add (i * 5)) t.cells := fun h1 h2 => by
    have := dth_at (hsa.old h1 h2) hlt
    rw [← hth] at this; exact this
   have hcb : ∀ {w : World} {L : Bks}, HS w0 w L → Own w0 L → CellsAt w ((aD b).add (i * 5)) u.cells := fun h1 h2 => by
    have := dth_at (hsb.old h1 h2) hlg
    rw [← huh] at this; exact this
   have hoN : Own w0 ([] : Bks) := Own.nil
   have hta : ∀ {w : World} {L : Bks}, HS w0 w L → Own w0 L → w.cell? (((aD a).add (i * 5)).add 4) = some (.slice tq t.seen.length tc) := fun h1 h2 => by
    rw [← htv]; exact hca h1 h2 4 _ rfl
   have hub : ∀ {w : World} {L : Bks}, HS w0 w L → Own w0 L → w.cell? (((aD b).add (i * 5)).add 4) = some (.slice uq t.seen.length uc) := fun h1 h2 => by
    rw [← huv]; exact hcb h1 h2 4 _ rfl
   refine W_seq (W_seq (W_region (L_move rfl rfl (L_move rfl rfl (L_len rfl Try.underlying55 rfl (L_lss rfl rfl rfl (dtrue (by omega)) ?_))))))
   refine RL_then (W_if_true rfl (W_skip' (Nx_then (W_seq (W_block (W_seq (W_sg Try.mixed ?_)))))))
   replace hs := hs.drewN 1
   refine SG_stage [0, 1, 2, 3, 4, 6, 7, 8, 9, 10] [5, 11] [12, 13] (fun _ _ _ => False) (g' := 15) (by kernel_rfl) (by kernel_rfl) (fun _ _ _ _ _ h => h) hs ?_
   refine PL_val rfl (fun w => R_move rfl) ?_
   refine PL_val rfl (fun w => R_move rfl) ?_
   refine PL_val rfl (fun w => R_idxN Try.underlying55 Try.ti64 rfl rfl (natc_k _) (by omega) haa) ?_
   refine PL_val rfl (fun w => R_fieldAddr (off := 0) Try.underlying64 rfl rfl Try.ti35 rfl) ?_
   refine PL_val rfl (fun w => R_fieldAddr (off := 0) Try.underlying35 rfl rfl Try.ti22 rfl) ?_
   refine PL_val rfl (fun w => R_move rfl) ?_
   refine PL_val rfl (fun w => R_move rfl) ?_
   refine PL_val rfl (fun w => R_idxN Try.underlying55 Try.ti64 rfl rfl (natc_k _) (by omega) hba) ?_
   refine PL_val rfl (fun w => R_fieldAddr (off := 0) Try.underlying64 rfl rfl Try.ti35 rfl) ?_
   refine PL_val rfl (fun w => R_fieldAddr (off := 0) Try.underlying35 rfl rfl Try.ti22 rfl) ?_
   refine PL_end ?_
   refine HL_val rfl (fun w hs => R_load Try.one22 rfl (by (rw [add_add]; exact hca hs hoN 0 _ rfl))) ?_
   refine HL_val rfl (fun w hs => R_load Try.one22 rfl (by (rw [add_add]; exact hcb hs hoN 0 _ rfl))) ?_
   refine HL_tail ?_
   intro w hs
   refine L_call rfl Try.fun36 rfl (samefH hs t.ax u.ax hax) ?_
   rintro _ w ⟨rfl, hs⟩
   refine L_move rfl rfl (RL_sg (SG_stage [14, 15, 16, 17, 18, 20, 21, 22, 23, 24] [19, 25] [26, 27, 28] (fun _ _ _ => False) (g' := 0) (by kernel_rfl) (by kernel_rfl) (fun _ _ _ _ _ h => h) hs ?_))
   refine PL_want rfl rfl rfl (fun w => R_move rfl) ?_
   refine PL_want rfl rfl rfl (fun w => R_move rfl) ?_
   refine PL_want rfl rfl rfl (fun w => R_idxN Try.underlying55 Try.ti64 rfl rfl (natc_k _) (by omega) haa) ?_
   refine PL_want rfl rfl rfl (fun w => R_fieldAddr (off := 0) Try.underlying64 rfl rfl Try.ti35 rfl) ?_
   refine PL_want rfl rfl rfl (fun w => R_fieldAddr (off := 1) Try.underlying35 rfl rfl Try.ti22 rfl) ?_
   refine PL_want rfl rfl rfl (fun w => R_move rfl) ?_
   refine PL_want rfl rfl rfl (fun w => R_move rfl) ?_
   refine PL_want rfl rfl rfl (fun w => R_idxN Try.underlying55 Try.ti64 rfl rfl (natc_k _) (by omega) hba) ?_
   refine PL_want rfl rfl rfl (fun w => R_fieldAddr (off := 0) Try.underlying64 rfl rfl Try.ti35 rfl) ?_
   refine PL_want rfl rfl rfl (fun w => R_fieldAddr (off := 1) Try.underlying35 rfl rfl Try.ti22 rfl) ?_
   refine PL_end (HL_want rfl rfl ?_)
   refine HL_val rfl (fun w hs => R_load Try.one22 rfl (by (rw [add_add]; exact hca hs hoN 1 _ rfl))) ?_
   refine HL_want rfl rfl ?_
   refine HL_val rfl (fun w hs => R_load Try.one22 rfl (by (rw [add_add]; exact hcb hs hoN 1 _ rfl))) ?_
   refine HL_tail ?_
   intro w hs
   refine RL_want rfl rfl (L_call rfl Try.fun36 rfl (samefH hs t.ay u.ay hay) ?_)
   rintro _ w ⟨rfl, hs⟩
   refine L_pick_t rfl rfl rfl (L_assign rfl rfl (RL_sg (SG_end (by kernel_rfl) ?_)))
   refine Nx_then (W_seq (W_sg Try.mixed ?_))
   replace hs := hs.drewN 1
   refine SG_stage [0, 1, 2, 3, 4, 6, 7, 8, 9, 10] [5, 11] [12, 13] (fun _ _ _ => False) (g' := 15) (by kernel_rfl) (by kernel_rfl) (fun _ _ _ _ _ h => h) hs ?_
   refine PL_val rfl (fun w => R_move rfl) ?_
   refine PL_val rfl (fun w => R_move rfl) ?_
   refine PL_val rfl (fun w => R_idxN Try.underlying55 Try.ti64 rfl rfl (natc_k _) (by omega) haa) ?_
   refine PL_val rfl (fun w => R_fieldAddr (off := 2) Try.underlying64 rfl rfl Try.ti35 rfl) ?_
   refine PL_val rfl (fun w => R_fieldAddr (off := 0) Try.underlying35 rfl rfl Try.ti22 rfl) ?_
   refine PL_val rfl (fun w => R_move rfl) ?_
   refine PL_val rfl (fun w => R_move rfl) ?_
   refine PL_val rfl (fun w => R_idxN Try.underlying55 Try.ti64 rfl rfl (natc_k _) (by omega) hba) ?_
   refine PL_val rfl (fun w => R_fieldAddr (off := 2) Try.underlying64 rfl rfl Try.ti35 rfl) ?_
   refine PL_val rfl (fun w => R_fieldAddr (off := 0) Try.underlying35 rfl rfl Try.ti22 rfl) ?_
   refine PL_end ?_
   refine HL_val rfl (fun w hs => R_load Try.one22 rfl (by (rw [add_add]; exact hca hs hoN 2 _ rfl))) ?_
   refine HL_val rfl (fun w hs => R_load Try.one22 rfl (by (rw [add_add]; exact hcb hs hoN 2 _ rfl))) ?_
   refine HL_tail ?_
   intro w hs
   refine L_call rfl Try.fun36 rfl (samefH hs t.vx u.vx hvx) ?_
   rintro _ w ⟨rfl, hs⟩
   refine L_move rfl rfl (RL_sg (SG_stage [14, 15, 16, 17, 18, 20, 21, 22, 23, 24] [19, 25] [26, 27, 28] (fun _ _ _ => False) (g' := 0) (by kernel_rfl) (by kernel_rfl) (fun _ _ _ _ _ h => h) hs ?_))
   refine PL_want rfl rfl rfl (fun w => R_move rfl) ?_
   refine PL_want rfl rfl rfl (fun w => R_move rfl) ?_
   refine PL_want rfl rfl rfl (fun w => R_idxN Try.underlying55 Try.ti64 rfl rfl (natc_k _) (by omega) haa) ?_
   refine PL_want rfl rfl rfl (fun w => R_fieldAddr (off := 2) Try.underlying64 rfl rfl Try.ti35 rfl) ?_
   refine PL_want rfl rfl rfl (fun w => R_fieldAddr (off := 1) Try.underlying35 rfl rfl Try.ti22 rfl) ?_
   refine PL_want rfl rfl rfl (fun w => R_move rfl) ?_
   refine PL_want rfl rfl rfl (fun w => R_move rfl) ?_
   refine PL_want rfl rfl rfl (fun w => R_idxN Try.underlying55 Try.ti64 rfl rfl (natc_k _) (by omega) hba) ?_
   refine PL_want rfl rfl rfl (fun w => R_fieldAddr (off := 2) Try.underlying64 rfl rfl Try.ti35 rfl) ?_
   refine PL_want rfl rfl rfl (fun w => R_fieldAddr (off := 1) Try.underlying35 rfl rfl Try.ti22 rfl) ?_
   refine PL_end (HL_want rfl rfl ?_)
   refine HL_val rfl (fun w hs => R_load Try.one22 rfl (by (rw [add_add]; exact hca hs hoN 3 _ rfl))) ?_
   refine HL_want rfl rfl ?_
   refine HL_val rfl (fun w hs => R_load Try.one22 rfl (by (rw [add_add]; exact hcb hs hoN 3 _ rfl))) ?_
   refine HL_tail ?_
   intro w hs
   refine RL_want rfl rfl (L_call rfl Try.fun36 rfl (samefH hs t.vy u.vy hvy) ?_)
   rintro _ w ⟨rfl, hs⟩
   refine L_pick_t rfl rfl rfl (L_assign rfl rfl (RL_sg (SG_end (by kernel_rfl) ?_)))
   refine Nx_then (W_seq (W_seq (W_pht [0, 1, 2, 3, 4, 5, 6, 7, 8, 9, 10, 13, 14, 15, 16] [11, 12, 17, 18, 19, 20] [] (fun _ _ _ => False) Try.mixed (by kernel_rfl) (fun _ _ _ _ _ h => h) hs ?_)))
   refine PL_val rfl (fun w => R_move rfl) ?_
   refine PL_val rfl (fun w => R_not rfl) ?_
   refine PL_val rfl (fun w => R_move rfl) ?_
   refine PL_want rfl rfl rfl (fun w => R_move rfl) ?_
   refine PL_want rfl rfl rfl (fun w => R_not rfl) ?_
   refine PL_val rfl (fun w => R_pick_f rfl rfl) ?_
   refine PL_val rfl (fun w => R_move rfl) ?_
   refine PL_want rfl rfl rfl (fun w => R_move rfl) ?_
   refine PL_want rfl rfl rfl (fun w => R_move rfl) ?_
   refine PL_want rfl rfl rfl (fun w => R_idxN Try.underlying55 Try.ti64 rfl rfl (natc_k _) (by omega) haa) ?_
   refine PL_want rfl rfl rfl (fun w => R_fieldAddr (off := 4) Try.underlying64 rfl rfl Try.ti60 rfl) ?_
   refine PL_want rfl rfl rfl (fun w => R_move rfl) ?_
   refine PL_want rfl rfl rfl (fun w => R_move rfl) ?_
   refine PL_want rfl rfl rfl (fun w => R_idxN Try.underlying55 Try.ti64 rfl rfl (natc_k _) (by omega) hba) ?_
   refine PL_want rfl rfl rfl (fun w => R_fieldAddr (off := 4) Try.underlying64 rfl rfl Try.ti60 rfl) ?_
   refine PL_end (HL_want rfl rfl (HL_val rfl (fun w hs => R_load Try.one60 rfl (by exact hta hs hoN)) ?_))
   refine HL_want rfl rfl (HL_val rfl (fun w hs => R_len Try.underlying60 rfl) ?_)
   refine HL_want rfl rfl (HL_val rfl (fun w hs => R_load Try.one60 rfl (by exact hub hs hoN)) ?_)
   refine HL_want rfl rfl (HL_val rfl (fun w hs => R_len Try.underlying60 rfl) ?_)
   refine HL_want rfl rfl (HL_val rfl (fun w hs => R_neq rfl rfl (dfalse (by omega))) ?_)
   refine HL_val rfl (fun w hs => R_pick_f rfl rfl) ?_
   refine HL_tail ?_
   intro w hs
   refine RL_then (W_if_false rfl (W_skip' (Nx_then (W_seq (W_region (L_assign rfl rfl (RL_then (W_block ?_))))))))
   refine W_loop2 (fun (j : Nat) (w : World) => [(0, .slice a fs.length ca), (1, .slice b gs.length cb), (5, .int .i64 i), (8, .int .i64 j)]) (fun (j : Nat) (w : World) => w) (fun (j : Nat) (w : World) => (j ≤ t.seen.length) ∧ (HS w0 w [])) (fun (j : Nat) (w : World) => t.seen.length - j) (0) (_) (is := [0, 1, 5, 8]) rfl rfl ?_ ?_
   ·
    exact ⟨Nat.zero_le _, hs⟩
   ·
    clear hs
    intro j w hI
    show W _ _ _ _ [(0, .slice a fs.length ca), (1, .slice b gs.length cb), (5, .int .i64 i), (8, .int .i64 j)] w
    obtain ⟨hj, hs⟩ := hI
    by_cases hjl : j < t.seen.length
    ·
     have hts' := hts.old hs hoN
     have hus' := hus.old hs hoN
     obtain ⟨z, hz⟩ : ∃ z, t.seen.getD j 0 = z := ⟨_, rfl⟩
     have hgz : (il t.seen)[j]? = some (.int .i64 z) := by rw [← hz]; exact il_get hjl
     refine W_seq (W_seq (W_region (L_move rfl rfl (L_move rfl rfl (L_move rfl rfl (L_idxN rfl Try.underlying55 Try.ti64 rfl rfl (natc_k _) (by omega) haa ?_))))))
     refine L_fieldAddr rfl (off := 4) Try.underlying64 rfl rfl Try.ti60 rfl (L_load rfl Try.one60 rfl (by exact hta hs hoN) ?_)
     refine L_len rfl Try.underlying60 rfl (L_lss rfl rfl rfl (dtrue (by omega)) ?_)
     refine RL_then (W_if_true rfl (W_skip' (Nx_then (W_seq (W_block (W_seq (W_pht [0, 1, 2, 3, 5, 8, 9, 10, 11, 13] [4, 6, 7, 12, 14, 15, 16] [] (fun _ _ _ => False) Try.mixed (by kernel_rfl) (fun _ _ _ _ _ h => h) hs ?_)))))))
     refine PL_val rfl (fun w => R_move rfl) ?_
     refine PL_val rfl (fun w => R_move rfl) ?_
     refine PL_val rfl (fun w => R_idxN Try.underlying55 Try.ti64 rfl rfl (natc_k _) (by omega) haa) ?_
     refine PL_val rfl (fun w => R_fieldAddr (off := 4) Try.underlying64 rfl rfl Try.ti60 rfl) ?_
     refine PL_val rfl (fun w => R_move rfl) ?_
     refine PL_val rfl (fun w => R_move rfl) ?_
     refine PL_val rfl (fun w => R_move rfl) ?_
     refine PL_val rfl (fun w => R_idxN Try.underlying55 Try.ti64 rfl rfl (natc_k _) (by omega) hba) ?_
     refine PL_val rfl (fun w => R_fieldAddr (off := 4) Try.underlying64 rfl rfl Try.ti60 rfl) ?_
     refine PL_val rfl (fun w => R_move rfl) ?_
     refine PL_end (HL_val rfl (fun w hs => R_load Try.one60 rfl (by exact hta hs hoN)) ?_)
     refine HL_val rfl (fun w hs => R_idx1 Try.underlying60 Try.ti3 rfl rfl (natc_k _) (by omega) (hts'.ao (by rw [il_length]; omega))) ?_
     refine HL_val rfl (fun w hs => R_load Try.one3 rfl (by exact (hts.old hs hoN).get hgz)) ?_
     refine HL_val rfl (fun w hs => R_load Try.one60 rfl (by exact hub hs hoN)) ?_
     refine HL_val rfl (fun w hs => R_idx1 Try.underlying60 Try.ti3 rfl rfl (natc_k _) (by omega) (hus'.ao (by rw [il_length]; omega))) ?_
     refine HL_val rfl (fun w hs => R_load Try.one3 rfl (by exact (hus.old hs hoN).get hgz)) ?_
     refine HL_val rfl (fun w hs => R_neq rfl rfl (dfalse (by omega))) ?_
     refine HL_tail ?_
     intro w hs
     refine RL_then (W_if_false rfl (W_skip' (Nx_block (Nx_then (W_region (L_move rfl rfl (L_add rfl rfl rfl (wrp_i64 (by omega)) ?_)))))))
     refine L_assign rfl rfl (RL_nil' ?_)
     refine Nx_loopP (j + 1, _) (is := [0, 1, 5, 8]) (I' := (fun (j : Nat) (w : World) => (j ≤ t.seen.length) ∧ (HS w0 w [])) (j + 1) (_)) rfl rfl rfl ?_ ?_
     ·
      exact ⟨by omega, hs⟩
     ·
      omega
    ·
     obtain rfl : j = t.seen.length := by omega
     refine W_seq (W_seq (W_region (L_move rfl rfl (L_move rfl rfl (L_move rfl rfl (L_idxN rfl Try.underlying55 Try.ti64 rfl rfl (natc_k _) (by omega) haa ?_))))))
     refine L_fieldAddr rfl (off := 4) Try.underlying64 rfl rfl Try.ti60 rfl (L_load rfl Try.one60 rfl (by exact hta hs hoN) ?_)
     refine L_len rfl Try.underlying60 rfl (L_lss rfl rfl rfl (dfalse (by omega)) ?_)
     refine RL_then (W_if_false rfl (W_exit' (Ex_then_exit (Ex_loop_exit (Ex_block_hit (Nx_block (Nx_then (W_region (L_move rfl rfl (L_add rfl rfl rfl (wrp_i64 (by omega)) ?_))))))))))
     refine L_assign rfl rfl (RL_nil' ?_)
     refine Nx_loopP (i + 1, _) (is := [0, 1, 5]) (I' := (fun (i : Nat) (w : World) => (i ≤ fs.length) ∧ (HS w0 w [])) (i + 1) (_)) rfl rfl rfl ?_ ?_
     ·
      exact ⟨by omega, hs⟩
     ·
      omega
  ·
   obtain rfl : i = fs.length := by omega
   refine W_seq (W_seq (W_region (L_move rfl rfl (L_move rfl rfl (L_len rfl Try.underlying55 rfl (L_lss rfl rfl rfl (dfalse (by omega)) ?_))))))
   refine RL_then (W_if_false rfl (W_exit' (Ex_then_exit (Ex_loop_exit (Ex_block_hit (Nx_then (W_seq (W_region (L_assign rfl rfl (RL_then (W_ret' (Ex_done1 rfl rfl ?_))))))))))))
   exact ⟨_, rfl, rfl, hs⟩
end Go.Proofs.Ytknpoemkmcdgcaa
